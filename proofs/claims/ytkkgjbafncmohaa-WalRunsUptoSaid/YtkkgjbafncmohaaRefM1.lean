/- Parts of one work, laid together: RefT, RefB, RefC. -/
import Derived.Test.YtkkgjbafncmohaaRef
import Derived.Test.YtkkgjbafncmohaaQx10
/-
  The document's disk: the last Write, by hand.
-/
set_option linter.unusedVariables false
set_option linter.unusedSimpArgs false
namespace Go.Proofs.Ytkkgjbafncmohaa.Sha
open Go.RowKit Go.Proofs.YtkkgjbafncmohaaW.PrintWords Go.Proofs.YtkkgjbafncmohaaW.PrintLast Go.Proofs.YtkkgjbafncmohaaW.PrintMore Go.Proofs.Ytkkgjbafncmohaa.Q Go.Proofs.Ytkkgjbafncmohaa.Fr Go.Proofs.Ytkkgjbafncmohaa.Oct

set_option maxHeartbeats 8000000 in
set_option maxRecDepth 100000 in
theorem rwrite_all_tear_neg (bytes : List Int) (room : Int) (dead breaks : Bool) (writes tear : Int) (Av : Option Addr) (cv : Nat) (A : Option Addr) (c : Nat) (b : List Int) (w : World) (hrv : Rd w Av bytes) (hcv : bytes.length ≤ cv) (hy : Rd w A b) (hc : b.length ≤ c) (hl : bytes.length + b.length ≤ 140737488355328) (hw : -4611686018427387904 ≤ writes) (hw2 : writes ≤ 9223372036854775807) (hd : dead = false) (hf : (b.length : Int) ≤ room) (hbk : breaks = true) (hw0 : writes = 0) (ht : tear < 0) :
    Calls Try.prog 17 #[.agg #[.slice Av bytes.length cv, .int .i64 room, .bool dead, .bool breaks, .int .i64 writes, .int .i64 tear], .slice A b.length c, .bool true] w fun e w' => ∃ v', e = .returned (.tuple #[.agg (rcs v' ⟨bytes, room, true, true, writes, tear⟩), .int .i64 115]) ∧ Lies w' v' (bytes) ∧ Near w.heap.size w' (.slice Av bytes.length cv) v' ∧ Below w.heap.size w w' := by
  subst hd hbk hw0
  have HF := Aside0.mk hf
  have HT := Aside0.mk ht
  clear hf ht
  have HH := Aside0.mk (And.intro hrv (And.intro hy (And.intro hl (And.intro hw (And.intro hw2 (And.intro hcv hc))))))
  clear hrv hy hl hw hw2
  go_enter Try.func17, Try.ntmps17
  go_wp2_with (first | ((with_reducible refine gate_dst (N := 6) rfl ?_); refine wpList_alloc_abs (by rfl) 40 (by rfl) (.agg Z6r) (by kernel_rfl) ?_; intro w2 hb2 hs2 hg2) | ((with_reducible refine gate_dst (N := 10) rfl ?_); refine Aside0.out ?_))
  refine ⟨?_⟩
  have hg1 := heap_alloc_new w (.cells #[.slice Av bytes.length cv, .int .i64 room, .bool false, .bool true, .int .i64 0, .int .i64 tear] 40)
  have hb1 := below_alloc (Below.refl w.heap.size w) (.cells #[.slice Av bytes.length cv, .int .i64 room, .bool false, .bool true, .int .i64 0, .int .i64 tear] 40)
  have z1 : (w.alloc (.cells #[.slice Av bytes.length cv, .int .i64 room, .bool false, .bool true, .int .i64 0, .int .i64 tear] 40)).heap.size = w.heap.size + 1 := by rw [World.size_alloc]
  generalize w.alloc (.cells #[.slice Av bytes.length cv, .int .i64 room, .bool false, .bool true, .int .i64 0, .int .i64 tear] 40) = w1 at *
  have f2 := Fr.of_below hb2 (fun _ => False)
  have F2 := (Fr.of_below hb1 (fun _ => False)).trans f2 (fun _ h => h.elim)
  have hg12 := f2.blk hg1 (fun h => h)
  refine wpList_copyb rfl (by rfl) (fun _ => by rfl) (fun _ _ => by rfl) (by first | (go_simp; done) | (go_simp; rfl)) _ (by rfl) A b.length c b (fun _ => rfl) rfl (HH.out.2.1.fr F2 (fun _ _ h => h)) _ _ (by rfl) (fun _ _ => rfl) (fun _ _ => rfl) (by have := HH.out; omega) ?_
  intro u4 v4 w4 hO4 hb4
  obtain ⟨A4, c4, rfl, hc4⟩ := hO4.slice
  have f4 := Fr.of_below hb4 (fun _ => False)
  have hg3 := f4.blk hg12 (fun h => h)
  have hg6 : w4.heap[w1.heap.size]? = some (.cells Z6r 40 (0, 0)) := f4.blk hg2 (fun h => h)
  rw [z1] at hg6
  have F4 := F2.trans f4 (fun _ h => h.elim)
  have H4 := Aside0.mk (And.intro F4 (And.intro hO4 (And.intro z1 (And.intro hs2 (f4.size)))))
  have z2 := hb2.size
  have k := set6 hg3
  have cells : w4.cell? ⟨w.heap.size, 0, none⟩ = some (.slice Av bytes.length cv) ∧ w4.cell? ⟨w.heap.size, 1, none⟩ = some (.int .i64 room) ∧ w4.cell? ⟨w.heap.size, 2, none⟩ = some (.bool false) ∧ w4.cell? ⟨w.heap.size, 3, none⟩ = some (.bool true) ∧ w4.cell? ⟨w.heap.size, 4, none⟩ = some (.int .i64 0) ∧ w4.cell? ⟨w.heap.size, 5, none⟩ = some (.int .i64 tear) := by simp [World.cell?, hg3]
  obtain ⟨k0, k1, k2, k3, k4, k5⟩ := cells
  clear hO4 hb4 f4 F4 f2 F2 hg12 hb1 hb2 hg1 hg2
  have HN := Aside0.mk (And.intro H4.out.1 (And.intro (H4.out.2.1.lower (show w.heap.size + 2 ≤ w2.heap.size by have := H4.out.2.2; omega)) hc4))
  obtain ⟨A7, rfl⟩ : ∃ A7, A7 = A4 := ⟨_, rfl⟩
  obtain ⟨c7, rfl⟩ : ∃ c7, c7 = c4 := ⟨_, rfl⟩
  obtain ⟨w7, rfl⟩ : ∃ w7, w7 = w4 := ⟨_, rfl⟩
  have hg37 := hg3
  have hg67 := hg6
  clear H4 k
  have cf : decide (room < (b.length : Int)) = false := decide_eq_false (by exact Int.not_lt.2 HF.out)
  have c1 : decide (tear < 0) = true := decide_eq_true HT.out
  have c2 : decide ((b.length : Int) < 0) = false := decide_eq_false (by have := HT.out; omega)
  have fz := frozenV hg37
  have fz0 := fz 0
  have fz2 := fz 2
  clear fz
  have HFX := Aside0.mk (Fr.one w7 w.heap.size 2 (.bool true))
  have hg68 := HFX.out.blk hg67 (fun h => by omega)
  go_wp2_with (first | ((with_reducible refine gate_store (p := 6) rfl ?_); refine Aside0.out ?_))
  refine ⟨?_⟩
  refine wpList_store_abs (by rfl) 40 _ _ (by rfl) (w.heap.size + 1) #[.slice Av bytes.length cv, .int .i64 room, .bool true, .bool true, .int .i64 0, .int .i64 tear] (by rfl) (by rfl) 40 Z6r hg68 (by kernel_rfl) (by rfl) (by simp [Value.oneCell']) ?_
  intro w9 hf9 hs9 hg9
  go_wp2
  refine bodyPost_ret (results_cell_row_tmp (by rfl) _ _ (w.heap.size + 1) 40 #[.slice Av bytes.length cv, .int .i64 room, .bool true, .bool true, .int .i64 0, .int .i64 tear] (0, 0) _ (by rfl) hg9 Try.underlying40 (by rfl) (by kernel_rfl)) rfl ?_
  have F9 : Fr (fun _ => False) w w9 := (HN.out.1.trans HFX.out (fun k hk => .inr (by omega))).trans hf9 (fun k hk => .inr (by omega))
  exact ⟨_, rfl, ⟨Av, cv, rfl, HH.out.2.2.2.2.2.1, HH.out.1.fr F9 (fun _ _ h => h)⟩, fun k hk => .inl hk, F9.below _ (Nat.le_refl _) (fun i h => h.elim)⟩
set_option maxHeartbeats 8000000 in
set_option maxRecDepth 100000 in
theorem rwrite_all_tear_mid (bytes : List Int) (room : Int) (dead breaks : Bool) (writes tear : Int) (Av : Option Addr) (cv : Nat) (A : Option Addr) (c : Nat) (b : List Int) (w : World) (hrv : Rd w Av bytes) (hcv : bytes.length ≤ cv) (hy : Rd w A b) (hc : b.length ≤ c) (hl : bytes.length + b.length ≤ 140737488355328) (hw : -4611686018427387904 ≤ writes) (hw2 : writes ≤ 9223372036854775807) (hd : dead = false) (hf : (b.length : Int) ≤ room) (hbk : breaks = true) (hw0 : writes = 0) (ht : 0 ≤ tear ∧ tear ≤ (b.length : Int)) :
    Calls Try.prog 17 #[.agg #[.slice Av bytes.length cv, .int .i64 room, .bool dead, .bool breaks, .int .i64 writes, .int .i64 tear], .slice A b.length c, .bool true] w fun e w' => ∃ v', e = .returned (.tuple #[.agg (rcs v' ⟨bytes, room, true, true, writes, tear⟩), .int .i64 115]) ∧ Lies w' v' (bytes) ∧ Near w.heap.size w' (.slice Av bytes.length cv) v' ∧ Below w.heap.size w w' := by
  subst hd hbk hw0
  have HF := Aside0.mk hf
  have HT := Aside0.mk ht
  clear hf ht
  have HH := Aside0.mk (And.intro hrv (And.intro hy (And.intro hl (And.intro hw (And.intro hw2 (And.intro hcv hc))))))
  clear hrv hy hl hw hw2
  go_enter Try.func17, Try.ntmps17
  go_wp2_with (first | ((with_reducible refine gate_dst (N := 6) rfl ?_); refine wpList_alloc_abs (by rfl) 40 (by rfl) (.agg Z6r) (by kernel_rfl) ?_; intro w2 hb2 hs2 hg2) | ((with_reducible refine gate_dst (N := 10) rfl ?_); refine Aside0.out ?_))
  refine ⟨?_⟩
  have hg1 := heap_alloc_new w (.cells #[.slice Av bytes.length cv, .int .i64 room, .bool false, .bool true, .int .i64 0, .int .i64 tear] 40)
  have hb1 := below_alloc (Below.refl w.heap.size w) (.cells #[.slice Av bytes.length cv, .int .i64 room, .bool false, .bool true, .int .i64 0, .int .i64 tear] 40)
  have z1 : (w.alloc (.cells #[.slice Av bytes.length cv, .int .i64 room, .bool false, .bool true, .int .i64 0, .int .i64 tear] 40)).heap.size = w.heap.size + 1 := by rw [World.size_alloc]
  generalize w.alloc (.cells #[.slice Av bytes.length cv, .int .i64 room, .bool false, .bool true, .int .i64 0, .int .i64 tear] 40) = w1 at *
  have f2 := Fr.of_below hb2 (fun _ => False)
  have F2 := (Fr.of_below hb1 (fun _ => False)).trans f2 (fun _ h => h.elim)
  have hg12 := f2.blk hg1 (fun h => h)
  refine wpList_copyb rfl (by rfl) (fun _ => by rfl) (fun _ _ => by rfl) (by first | (go_simp; done) | (go_simp; rfl)) _ (by rfl) A b.length c b (fun _ => rfl) rfl (HH.out.2.1.fr F2 (fun _ _ h => h)) _ _ (by rfl) (fun _ _ => rfl) (fun _ _ => rfl) (by have := HH.out; omega) ?_
  intro u4 v4 w4 hO4 hb4
  obtain ⟨A4, c4, rfl, hc4⟩ := hO4.slice
  have f4 := Fr.of_below hb4 (fun _ => False)
  have hg3 := f4.blk hg12 (fun h => h)
  have hg6 : w4.heap[w1.heap.size]? = some (.cells Z6r 40 (0, 0)) := f4.blk hg2 (fun h => h)
  rw [z1] at hg6
  have F4 := F2.trans f4 (fun _ h => h.elim)
  have H4 := Aside0.mk (And.intro F4 (And.intro hO4 (And.intro z1 (And.intro hs2 (f4.size)))))
  have z2 := hb2.size
  have k := set6 hg3
  have cells : w4.cell? ⟨w.heap.size, 0, none⟩ = some (.slice Av bytes.length cv) ∧ w4.cell? ⟨w.heap.size, 1, none⟩ = some (.int .i64 room) ∧ w4.cell? ⟨w.heap.size, 2, none⟩ = some (.bool false) ∧ w4.cell? ⟨w.heap.size, 3, none⟩ = some (.bool true) ∧ w4.cell? ⟨w.heap.size, 4, none⟩ = some (.int .i64 0) ∧ w4.cell? ⟨w.heap.size, 5, none⟩ = some (.int .i64 tear) := by simp [World.cell?, hg3]
  obtain ⟨k0, k1, k2, k3, k4, k5⟩ := cells
  clear hO4 hb4 f4 F4 f2 F2 hg12 hb1 hb2 hg1 hg2
  have HN := Aside0.mk (And.intro H4.out.1 (And.intro (H4.out.2.1.lower (show w.heap.size + 2 ≤ w2.heap.size by have := H4.out.2.2; omega)) hc4))
  obtain ⟨A7, rfl⟩ : ∃ A7, A7 = A4 := ⟨_, rfl⟩
  obtain ⟨c7, rfl⟩ : ∃ c7, c7 = c4 := ⟨_, rfl⟩
  obtain ⟨w7, rfl⟩ : ∃ w7, w7 = w4 := ⟨_, rfl⟩
  have hg37 := hg3
  have hg67 := hg6
  clear H4 k
  have cf : decide (room < (b.length : Int)) = false := decide_eq_false (by exact Int.not_lt.2 HF.out)
  have c1 : decide (tear < 0) = false := decide_eq_false (by have := HT.out; omega)
  have c2 : decide ((b.length : Int) < tear) = false := decide_eq_false (by have := HT.out; omega)
  have fz := frozenV hg37
  have fz0 := fz 0
  have fz2 := fz 2
  clear fz
  have HFX := Aside0.mk (Fr.one w7 w.heap.size 2 (.bool true))
  have hg68 := HFX.out.blk hg67 (fun h => by omega)
  go_wp2_with (first | ((with_reducible refine gate_store (p := 6) rfl ?_); refine Aside0.out ?_))
  refine ⟨?_⟩
  refine wpList_store_abs (by rfl) 40 _ _ (by rfl) (w.heap.size + 1) #[.slice Av bytes.length cv, .int .i64 room, .bool true, .bool true, .int .i64 0, .int .i64 tear] (by rfl) (by rfl) 40 Z6r hg68 (by kernel_rfl) (by rfl) (by simp [Value.oneCell']) ?_
  intro w9 hf9 hs9 hg9
  go_wp2
  refine bodyPost_ret (results_cell_row_tmp (by rfl) _ _ (w.heap.size + 1) 40 #[.slice Av bytes.length cv, .int .i64 room, .bool true, .bool true, .int .i64 0, .int .i64 tear] (0, 0) _ (by rfl) hg9 Try.underlying40 (by rfl) (by kernel_rfl)) rfl ?_
  have F9 : Fr (fun _ => False) w w9 := (HN.out.1.trans HFX.out (fun k hk => .inr (by omega))).trans hf9 (fun k hk => .inr (by omega))
  exact ⟨_, rfl, ⟨Av, cv, rfl, HH.out.2.2.2.2.2.1, HH.out.1.fr F9 (fun _ _ h => h)⟩, fun k hk => .inl hk, F9.below _ (Nat.le_refl _) (fun i h => h.elim)⟩
set_option maxHeartbeats 8000000 in
set_option maxRecDepth 100000 in
theorem rwrite_all_tear_over (bytes : List Int) (room : Int) (dead breaks : Bool) (writes tear : Int) (Av : Option Addr) (cv : Nat) (A : Option Addr) (c : Nat) (b : List Int) (w : World) (hrv : Rd w Av bytes) (hcv : bytes.length ≤ cv) (hy : Rd w A b) (hc : b.length ≤ c) (hl : bytes.length + b.length ≤ 140737488355328) (hw : -4611686018427387904 ≤ writes) (hw2 : writes ≤ 9223372036854775807) (hd : dead = false) (hf : (b.length : Int) ≤ room) (hbk : breaks = true) (hw0 : writes = 0) (ht : (b.length : Int) < tear) :
    Calls Try.prog 17 #[.agg #[.slice Av bytes.length cv, .int .i64 room, .bool dead, .bool breaks, .int .i64 writes, .int .i64 tear], .slice A b.length c, .bool true] w fun e w' => ∃ v', e = .returned (.tuple #[.agg (rcs v' ⟨bytes, room, true, true, writes, tear⟩), .int .i64 115]) ∧ Lies w' v' (bytes) ∧ Near w.heap.size w' (.slice Av bytes.length cv) v' ∧ Below w.heap.size w w' := by
  subst hd hbk hw0
  have HF := Aside0.mk hf
  have HT := Aside0.mk ht
  clear hf ht
  have HH := Aside0.mk (And.intro hrv (And.intro hy (And.intro hl (And.intro hw (And.intro hw2 (And.intro hcv hc))))))
  clear hrv hy hl hw hw2
  go_enter Try.func17, Try.ntmps17
  go_wp2_with (first | ((with_reducible refine gate_dst (N := 6) rfl ?_); refine wpList_alloc_abs (by rfl) 40 (by rfl) (.agg Z6r) (by kernel_rfl) ?_; intro w2 hb2 hs2 hg2) | ((with_reducible refine gate_dst (N := 10) rfl ?_); refine Aside0.out ?_))
  refine ⟨?_⟩
  have hg1 := heap_alloc_new w (.cells #[.slice Av bytes.length cv, .int .i64 room, .bool false, .bool true, .int .i64 0, .int .i64 tear] 40)
  have hb1 := below_alloc (Below.refl w.heap.size w) (.cells #[.slice Av bytes.length cv, .int .i64 room, .bool false, .bool true, .int .i64 0, .int .i64 tear] 40)
  have z1 : (w.alloc (.cells #[.slice Av bytes.length cv, .int .i64 room, .bool false, .bool true, .int .i64 0, .int .i64 tear] 40)).heap.size = w.heap.size + 1 := by rw [World.size_alloc]
  generalize w.alloc (.cells #[.slice Av bytes.length cv, .int .i64 room, .bool false, .bool true, .int .i64 0, .int .i64 tear] 40) = w1 at *
  have f2 := Fr.of_below hb2 (fun _ => False)
  have F2 := (Fr.of_below hb1 (fun _ => False)).trans f2 (fun _ h => h.elim)
  have hg12 := f2.blk hg1 (fun h => h)
  refine wpList_copyb rfl (by rfl) (fun _ => by rfl) (fun _ _ => by rfl) (by first | (go_simp; done) | (go_simp; rfl)) _ (by rfl) A b.length c b (fun _ => rfl) rfl (HH.out.2.1.fr F2 (fun _ _ h => h)) _ _ (by rfl) (fun _ _ => rfl) (fun _ _ => rfl) (by have := HH.out; omega) ?_
  intro u4 v4 w4 hO4 hb4
  obtain ⟨A4, c4, rfl, hc4⟩ := hO4.slice
  have f4 := Fr.of_below hb4 (fun _ => False)
  have hg3 := f4.blk hg12 (fun h => h)
  have hg6 : w4.heap[w1.heap.size]? = some (.cells Z6r 40 (0, 0)) := f4.blk hg2 (fun h => h)
  rw [z1] at hg6
  have F4 := F2.trans f4 (fun _ h => h.elim)
  have H4 := Aside0.mk (And.intro F4 (And.intro hO4 (And.intro z1 (And.intro hs2 (f4.size)))))
  have z2 := hb2.size
  have k := set6 hg3
  have cells : w4.cell? ⟨w.heap.size, 0, none⟩ = some (.slice Av bytes.length cv) ∧ w4.cell? ⟨w.heap.size, 1, none⟩ = some (.int .i64 room) ∧ w4.cell? ⟨w.heap.size, 2, none⟩ = some (.bool false) ∧ w4.cell? ⟨w.heap.size, 3, none⟩ = some (.bool true) ∧ w4.cell? ⟨w.heap.size, 4, none⟩ = some (.int .i64 0) ∧ w4.cell? ⟨w.heap.size, 5, none⟩ = some (.int .i64 tear) := by simp [World.cell?, hg3]
  obtain ⟨k0, k1, k2, k3, k4, k5⟩ := cells
  clear hO4 hb4 f4 F4 f2 F2 hg12 hb1 hb2 hg1 hg2
  have HN := Aside0.mk (And.intro H4.out.1 (And.intro (H4.out.2.1.lower (show w.heap.size + 2 ≤ w2.heap.size by have := H4.out.2.2; omega)) hc4))
  obtain ⟨A7, rfl⟩ : ∃ A7, A7 = A4 := ⟨_, rfl⟩
  obtain ⟨c7, rfl⟩ : ∃ c7, c7 = c4 := ⟨_, rfl⟩
  obtain ⟨w7, rfl⟩ : ∃ w7, w7 = w4 := ⟨_, rfl⟩
  have hg37 := hg3
  have hg67 := hg6
  clear H4 k
  have cf : decide (room < (b.length : Int)) = false := decide_eq_false (by exact Int.not_lt.2 HF.out)
  have c1 : decide (tear < 0) = false := decide_eq_false (by have := HT.out; omega)
  have c2 : decide ((b.length : Int) < tear) = true := decide_eq_true HT.out
  have fz := frozenV hg37
  have fz0 := fz 0
  have fz2 := fz 2
  clear fz
  have HFX := Aside0.mk (Fr.one w7 w.heap.size 2 (.bool true))
  have hg68 := HFX.out.blk hg67 (fun h => by omega)
  go_wp2_with (first | ((with_reducible refine gate_store (p := 6) rfl ?_); refine Aside0.out ?_))
  refine ⟨?_⟩
  refine wpList_store_abs (by rfl) 40 _ _ (by rfl) (w.heap.size + 1) #[.slice Av bytes.length cv, .int .i64 room, .bool true, .bool true, .int .i64 0, .int .i64 tear] (by rfl) (by rfl) 40 Z6r hg68 (by kernel_rfl) (by rfl) (by simp [Value.oneCell']) ?_
  intro w9 hf9 hs9 hg9
  go_wp2
  refine bodyPost_ret (results_cell_row_tmp (by rfl) _ _ (w.heap.size + 1) 40 #[.slice Av bytes.length cv, .int .i64 room, .bool true, .bool true, .int .i64 0, .int .i64 tear] (0, 0) _ (by rfl) hg9 Try.underlying40 (by rfl) (by kernel_rfl)) rfl ?_
  have F9 : Fr (fun _ => False) w w9 := (HN.out.1.trans HFX.out (fun k hk => .inr (by omega))).trans hf9 (fun k hk => .inr (by omega))
  exact ⟨_, rfl, ⟨Av, cv, rfl, HH.out.2.2.2.2.2.1, HH.out.1.fr F9 (fun _ _ h => h)⟩, fun k hk => .inl hk, F9.below _ (Nat.le_refl _) (fun i h => h.elim)⟩
set_option maxHeartbeats 8000000 in
set_option maxRecDepth 100000 in
theorem rwrite_app_tear_neg (bytes : List Int) (room : Int) (dead breaks : Bool) (writes tear : Int) (Av : Option Addr) (cv : Nat) (A : Option Addr) (c : Nat) (b : List Int) (w : World) (hrv : Rd w Av bytes) (hcv : bytes.length ≤ cv) (hy : Rd w A b) (hc : b.length ≤ c) (hl : bytes.length + b.length ≤ 140737488355328) (hw : -4611686018427387904 ≤ writes) (hw2 : writes ≤ 9223372036854775807) (hd : dead = false) (hf : ((bytes.length + b.length : Nat) : Int) ≤ room) (hbk : breaks = true) (hw0 : writes = 0) (ht : tear < 0) :
    Calls Try.prog 17 #[.agg #[.slice Av bytes.length cv, .int .i64 room, .bool dead, .bool breaks, .int .i64 writes, .int .i64 tear], .slice A b.length c, .bool false] w fun e w' => ∃ v', e = .returned (.tuple #[.agg (rcs v' ⟨(bytes ++ b).take (bytes.length + 0), room, true, true, writes, tear⟩), .int .i64 115]) ∧ Lies w' v' ((bytes ++ b).take (bytes.length + 0)) ∧ Near w.heap.size w' (.slice Av bytes.length cv) v' ∧ Below w.heap.size w w' := by
  subst hd hbk hw0
  have HF := Aside0.mk hf
  have HT := Aside0.mk ht
  clear hf ht
  have HH := Aside0.mk (And.intro hrv (And.intro hy (And.intro hl (And.intro hw (And.intro hw2 (And.intro hcv hc))))))
  clear hrv hy hl hw hw2
  go_enter Try.func17, Try.ntmps17
  go_wp2_with (first | ((with_reducible refine gate_dst (N := 6) rfl ?_); refine wpList_alloc_abs (by rfl) 40 (by rfl) (.agg Z6r) (by kernel_rfl) ?_; intro w2 hb2 hs2 hg2) | ((with_reducible refine gate_dst (N := 10) rfl ?_); refine Aside0.out ?_))
  refine ⟨?_⟩
  have hg1 := heap_alloc_new w (.cells #[.slice Av bytes.length cv, .int .i64 room, .bool false, .bool true, .int .i64 0, .int .i64 tear] 40)
  have hb1 := below_alloc (Below.refl w.heap.size w) (.cells #[.slice Av bytes.length cv, .int .i64 room, .bool false, .bool true, .int .i64 0, .int .i64 tear] 40)
  have z1 : (w.alloc (.cells #[.slice Av bytes.length cv, .int .i64 room, .bool false, .bool true, .int .i64 0, .int .i64 tear] 40)).heap.size = w.heap.size + 1 := by rw [World.size_alloc]
  generalize w.alloc (.cells #[.slice Av bytes.length cv, .int .i64 room, .bool false, .bool true, .int .i64 0, .int .i64 tear] 40) = w1 at *
  have f2 := Fr.of_below hb2 (fun _ => False)
  have F2 := (Fr.of_below hb1 (fun _ => False)).trans f2 (fun _ h => h.elim)
  have hg12 := f2.blk hg1 (fun h => h)
  refine wpList_copyb rfl (by rfl) (fun _ => by rfl) (fun _ _ => by rfl) (by first | (go_simp; done) | (go_simp; rfl)) _ (by rfl) A b.length c b (fun _ => rfl) rfl (HH.out.2.1.fr F2 (fun _ _ h => h)) _ _ (by rfl) (fun _ _ => rfl) (fun _ _ => rfl) (by have := HH.out; omega) ?_
  intro u4 v4 w4 hO4 hb4
  obtain ⟨A4, c4, rfl, hc4⟩ := hO4.slice
  have f4 := Fr.of_below hb4 (fun _ => False)
  have hg3 := f4.blk hg12 (fun h => h)
  have hg6 : w4.heap[w1.heap.size]? = some (.cells Z6r 40 (0, 0)) := f4.blk hg2 (fun h => h)
  rw [z1] at hg6
  have F4 := F2.trans f4 (fun _ h => h.elim)
  have H4 := Aside0.mk (And.intro F4 (And.intro hO4 (And.intro z1 (And.intro hs2 (f4.size)))))
  have z2 := hb2.size
  have k := set6 hg3
  have cells : w4.cell? ⟨w.heap.size, 0, none⟩ = some (.slice Av bytes.length cv) ∧ w4.cell? ⟨w.heap.size, 1, none⟩ = some (.int .i64 room) ∧ w4.cell? ⟨w.heap.size, 2, none⟩ = some (.bool false) ∧ w4.cell? ⟨w.heap.size, 3, none⟩ = some (.bool true) ∧ w4.cell? ⟨w.heap.size, 4, none⟩ = some (.int .i64 0) ∧ w4.cell? ⟨w.heap.size, 5, none⟩ = some (.int .i64 tear) := by simp [World.cell?, hg3]
  obtain ⟨k0, k1, k2, k3, k4, k5⟩ := cells
  clear hO4 hb4 f4 F4 f2 F2 hg12 hb1 hb2 hg1 hg2
  go_wp2_with (first | ((with_reducible refine gate_dst (N := 15) rfl ?_); refine wpList_lit0 (by rfl) (by first | (go_simp; done) | (go_simp; rfl)) ?_; intro v5 w5 hO5 hb5; have k05 := (Fr.of_below hb5 (fun _ => False)).cell k0 (fun h => h)) | ((with_reducible refine gate_builtin (b := .append) (xs := #[.tmp 15, .tmp 17]) rfl ?_); at_builtin; refine Aside0.out ?_))
  refine ⟨?_⟩
  have f5 := Fr.of_below hb5 (fun _ => False)
  have F5 := H4.out.1.trans f5 (fun _ h => h.elim)
  have z5 := hb5.size
  refine wpList_appe rfl (by rfl) w4.heap.size _ _ (by rfl) infoB v5 [] (by rfl) hO5 Av bytes.length cv bytes (by rfl) rfl (HH.out.1.fr F5 (fun _ _ h => h)) (by have := HH.out; simp only [List.length_nil]; omega) z5 ?_
  intro v6 w6 hO6 hf6 _
  rw [List.nil_append] at hO6
  have f6 : Fr (fun _ => False) w4 w6 := f5.trans hf6 (fun k hk => .inr (hO5.base k hk.symm))
  have z6 := f6.size
  have H6 := Aside0.mk (And.intro f6 (And.intro hO6 (H4.out.1.trans f6 (fun _ h => h.elim))))
  clear hO5 hb5 hf6 hO6 f5 F5 f6 k05
  go_wp2_with (first | ((with_reducible refine gate_builtin (b := .append) (xs := #[.tmp 18, .tmp 19]) rfl ?_); at_builtin; refine Aside0.out ?_))
  refine ⟨?_⟩
  refine wpList_appe rfl (by rfl) w4.heap.size _ _ (by rfl) infoB v6 bytes (by rfl) H6.out.2.1 A b.length c b (by rfl) rfl (HH.out.2.1.fr H6.out.2.2 (fun _ _ h => h)) (by have := HH.out; omega) z6 ?_
  intro v7 w7 hO7 hf7 _
  have f7 : Fr (fun _ => False) w4 w7 := H6.out.1.trans hf7 (fun k hk => .inr (H6.out.2.1.base k hk.symm))
  have hg37 := f7.blk hg3 (fun h => h)
  have hg67 := f7.blk hg6 (fun h => h)
  obtain ⟨A7, c7, rfl, hc7⟩ := hO7.slice
  obtain ⟨X, hX⟩ : ∃ X, bytes ++ b = X := ⟨_, rfl⟩
  rw [hX] at hO7 hc7 ⊢
  have hXl : X.length = bytes.length + b.length := by rw [← hX, List.length_append]
  have HN := Aside0.mk (And.intro (H4.out.1.trans f7 (fun _ h => h.elim)) (And.intro (hO7.lower (show w.heap.size + 2 ≤ w4.heap.size by have := H4.out.2.2; have := H4.out.2.1.base; omega)) (And.intro hX (And.intro hXl hc7))))
  have cells7 : w7.cell? ⟨w.heap.size, 0, none⟩ = some (.slice Av bytes.length cv) ∧ w7.cell? ⟨w.heap.size, 1, none⟩ = some (.int .i64 room) ∧ w7.cell? ⟨w.heap.size, 2, none⟩ = some (.bool false) ∧ w7.cell? ⟨w.heap.size, 3, none⟩ = some (.bool true) ∧ w7.cell? ⟨w.heap.size, 4, none⟩ = some (.int .i64 0) ∧ w7.cell? ⟨w.heap.size, 5, none⟩ = some (.int .i64 tear) := by simp [World.cell?, hg37]
  clear k0 k1 k2 k3 k4 k5 k H6 hO7 hf7 f7 hg3 hg6 hX hXl
  obtain ⟨k0, k1, k2, k3, k4, k5⟩ := cells7
  clear H4 hc4
  have cf : decide (room < (X.length : Int)) = false := decide_eq_false (by rw [HN.out.2.2.2.1]; exact Int.not_lt.2 HF.out)
  have c1 : decide (tear < 0) = true := decide_eq_true HT.out
  have c2 : decide ((b.length : Int) < 0) = false := decide_eq_false (by have := HT.out; omega)
  have fz := frozenV hg37
  have fz0 := fz 0
  have fz2 := fz 2
  clear fz
  obtain ⟨n, hn⟩ : ∃ n, bytes.length + 0 = n := ⟨_, rfl⟩
  have hnX : n ≤ X.length := by have := HN.out.2.2.2.1; have := HT.out; omega
  obtain ⟨i0, hi0, _, hsz, _⟩ := info_parts infoB
  have hcut := cut_to (P := Try.prog) 22 5 .i64 Try.underlying22 hi0 A7 X.length c7 (n : Int) (by omega) (by omega) HN.out.2.2.2.2
  rw [Int.toNat_natCast] at hcut
  have hsum : wrap64 ((bytes.length : Int) + 0) = (n : Int) := by have := HT.out; have := HH.out.2.2.1; unfold wrap64; omega
  have hsum0 : wrap64 (bytes.length : Int) = (n : Int) := by rw [← hsum, Int.add_zero]
  have HX := Aside0.mk (And.intro hn hnX)
  clear hnX hn hsz
  have HFX := Aside0.mk ((Fr.one w7 w.heap.size 2 (.bool true)).trans (Fr.one (w7.setCell ⟨w.heap.size, 2, none⟩ (.bool true)) w.heap.size 0 (.slice A7 n c7)) (fun i h => .inl h))
  have hg68 := HFX.out.blk hg67 (fun h => by omega)
  go_wp2_with (first | ((with_reducible refine gate_store (p := 6) rfl ?_); refine Aside0.out ?_))
  refine ⟨?_⟩
  refine wpList_store_abs (by rfl) 40 _ _ (by rfl) (w.heap.size + 1) #[.slice A7 n c7, .int .i64 room, .bool true, .bool true, .int .i64 0, .int .i64 tear] (by rfl) (by rfl) 40 Z6r hg68 (by kernel_rfl) (by rfl) (by simp [Value.oneCell']) ?_
  intro w9 hf9 hs9 hg9
  go_wp2
  refine bodyPost_ret (results_cell_row_tmp (by rfl) _ _ (w.heap.size + 1) 40 #[.slice A7 n c7, .int .i64 room, .bool true, .bool true, .int .i64 0, .int .i64 tear] (0, 0) _ (by rfl) hg9 Try.underlying40 (by rfl) (by kernel_rfl)) rfl ?_
  clear hsum hsum0
  have FX : Fr (fun k => k < w.heap.size + 2) w7 w9 := (HFX.out.mono (S' := fun k => k < w.heap.size + 2) (fun i h => by omega)).trans (hf9.mono (S' := fun k => k < w.heap.size + 2) (fun i h => by omega)) (fun i h => .inl h)
  have hrX : Rd w9 A7 X := (QB.rd (q_of_own HN.out.2.1)).fr FX (fun ad e h => by have := HN.out.2.1.base ad.block (by rw [e]; rfl); omega)
  have hrt : Rd w9 A7 (X.take n) := by have := hrX.mid 0 n; rw [List.drop_zero] at this; cases A7 with | none => exact this | some ad => rw [Option.map_some, show ad.add 0 = ad from by unfold Addr.add; split <;> simp_all] at this; exact this
  have htl : (X.take n).length = n := by rw [List.length_take]; exact Nat.min_eq_left HX.out.2
  rw [HN.out.2.2.1, HX.out.1]
  have F9 : Fr (fun _ => False) w w9 := (HN.out.1.trans HFX.out (fun k hk => .inr (by omega))).trans hf9 (fun k hk => .inr (by omega))
  exact ⟨_, rfl, ⟨A7, c7, by rw [htl], by rw [htl]; exact Nat.le_trans HX.out.2 HN.out.2.2.2.2, hrt⟩, fun k hk => .inr ⟨by have := HN.out.2.1.base k (by cases A7 <;> exact hk); omega, Nat.lt_of_lt_of_le (q_lt (q_of_own HN.out.2.1) k (by cases A7 <;> exact hk)) (Nat.le_trans HFX.out.size hf9.size)⟩, F9.below _ (Nat.le_refl _) (fun i h => h.elim)⟩
set_option maxHeartbeats 8000000 in
set_option maxRecDepth 100000 in
theorem rwrite_app_tear_mid (bytes : List Int) (room : Int) (dead breaks : Bool) (writes tear : Int) (Av : Option Addr) (cv : Nat) (A : Option Addr) (c : Nat) (b : List Int) (w : World) (hrv : Rd w Av bytes) (hcv : bytes.length ≤ cv) (hy : Rd w A b) (hc : b.length ≤ c) (hl : bytes.length + b.length ≤ 140737488355328) (hw : -4611686018427387904 ≤ writes) (hw2 : writes ≤ 9223372036854775807) (hd : dead = false) (hf : ((bytes.length + b.length : Nat) : Int) ≤ room) (hbk : breaks = true) (hw0 : writes = 0) (ht : 0 ≤ tear ∧ tear ≤ (b.length : Int)) :
    Calls Try.prog 17 #[.agg #[.slice Av bytes.length cv, .int .i64 room, .bool dead, .bool breaks, .int .i64 writes, .int .i64 tear], .slice A b.length c, .bool false] w fun e w' => ∃ v', e = .returned (.tuple #[.agg (rcs v' ⟨(bytes ++ b).take (bytes.length + tear.toNat), room, true, true, writes, tear⟩), .int .i64 115]) ∧ Lies w' v' ((bytes ++ b).take (bytes.length + tear.toNat)) ∧ Near w.heap.size w' (.slice Av bytes.length cv) v' ∧ Below w.heap.size w w' := by
  subst hd hbk hw0
  have HF := Aside0.mk hf
  have HT := Aside0.mk ht
  clear hf ht
  have HH := Aside0.mk (And.intro hrv (And.intro hy (And.intro hl (And.intro hw (And.intro hw2 (And.intro hcv hc))))))
  clear hrv hy hl hw hw2
  go_enter Try.func17, Try.ntmps17
  go_wp2_with (first | ((with_reducible refine gate_dst (N := 6) rfl ?_); refine wpList_alloc_abs (by rfl) 40 (by rfl) (.agg Z6r) (by kernel_rfl) ?_; intro w2 hb2 hs2 hg2) | ((with_reducible refine gate_dst (N := 10) rfl ?_); refine Aside0.out ?_))
  refine ⟨?_⟩
  have hg1 := heap_alloc_new w (.cells #[.slice Av bytes.length cv, .int .i64 room, .bool false, .bool true, .int .i64 0, .int .i64 tear] 40)
  have hb1 := below_alloc (Below.refl w.heap.size w) (.cells #[.slice Av bytes.length cv, .int .i64 room, .bool false, .bool true, .int .i64 0, .int .i64 tear] 40)
  have z1 : (w.alloc (.cells #[.slice Av bytes.length cv, .int .i64 room, .bool false, .bool true, .int .i64 0, .int .i64 tear] 40)).heap.size = w.heap.size + 1 := by rw [World.size_alloc]
  generalize w.alloc (.cells #[.slice Av bytes.length cv, .int .i64 room, .bool false, .bool true, .int .i64 0, .int .i64 tear] 40) = w1 at *
  have f2 := Fr.of_below hb2 (fun _ => False)
  have F2 := (Fr.of_below hb1 (fun _ => False)).trans f2 (fun _ h => h.elim)
  have hg12 := f2.blk hg1 (fun h => h)
  refine wpList_copyb rfl (by rfl) (fun _ => by rfl) (fun _ _ => by rfl) (by first | (go_simp; done) | (go_simp; rfl)) _ (by rfl) A b.length c b (fun _ => rfl) rfl (HH.out.2.1.fr F2 (fun _ _ h => h)) _ _ (by rfl) (fun _ _ => rfl) (fun _ _ => rfl) (by have := HH.out; omega) ?_
  intro u4 v4 w4 hO4 hb4
  obtain ⟨A4, c4, rfl, hc4⟩ := hO4.slice
  have f4 := Fr.of_below hb4 (fun _ => False)
  have hg3 := f4.blk hg12 (fun h => h)
  have hg6 : w4.heap[w1.heap.size]? = some (.cells Z6r 40 (0, 0)) := f4.blk hg2 (fun h => h)
  rw [z1] at hg6
  have F4 := F2.trans f4 (fun _ h => h.elim)
  have H4 := Aside0.mk (And.intro F4 (And.intro hO4 (And.intro z1 (And.intro hs2 (f4.size)))))
  have z2 := hb2.size
  have k := set6 hg3
  have cells : w4.cell? ⟨w.heap.size, 0, none⟩ = some (.slice Av bytes.length cv) ∧ w4.cell? ⟨w.heap.size, 1, none⟩ = some (.int .i64 room) ∧ w4.cell? ⟨w.heap.size, 2, none⟩ = some (.bool false) ∧ w4.cell? ⟨w.heap.size, 3, none⟩ = some (.bool true) ∧ w4.cell? ⟨w.heap.size, 4, none⟩ = some (.int .i64 0) ∧ w4.cell? ⟨w.heap.size, 5, none⟩ = some (.int .i64 tear) := by simp [World.cell?, hg3]
  obtain ⟨k0, k1, k2, k3, k4, k5⟩ := cells
  clear hO4 hb4 f4 F4 f2 F2 hg12 hb1 hb2 hg1 hg2
  go_wp2_with (first | ((with_reducible refine gate_dst (N := 15) rfl ?_); refine wpList_lit0 (by rfl) (by first | (go_simp; done) | (go_simp; rfl)) ?_; intro v5 w5 hO5 hb5; have k05 := (Fr.of_below hb5 (fun _ => False)).cell k0 (fun h => h)) | ((with_reducible refine gate_builtin (b := .append) (xs := #[.tmp 15, .tmp 17]) rfl ?_); at_builtin; refine Aside0.out ?_))
  refine ⟨?_⟩
  have f5 := Fr.of_below hb5 (fun _ => False)
  have F5 := H4.out.1.trans f5 (fun _ h => h.elim)
  have z5 := hb5.size
  refine wpList_appe rfl (by rfl) w4.heap.size _ _ (by rfl) infoB v5 [] (by rfl) hO5 Av bytes.length cv bytes (by rfl) rfl (HH.out.1.fr F5 (fun _ _ h => h)) (by have := HH.out; simp only [List.length_nil]; omega) z5 ?_
  intro v6 w6 hO6 hf6 _
  rw [List.nil_append] at hO6
  have f6 : Fr (fun _ => False) w4 w6 := f5.trans hf6 (fun k hk => .inr (hO5.base k hk.symm))
  have z6 := f6.size
  have H6 := Aside0.mk (And.intro f6 (And.intro hO6 (H4.out.1.trans f6 (fun _ h => h.elim))))
  clear hO5 hb5 hf6 hO6 f5 F5 f6 k05
  go_wp2_with (first | ((with_reducible refine gate_builtin (b := .append) (xs := #[.tmp 18, .tmp 19]) rfl ?_); at_builtin; refine Aside0.out ?_))
  refine ⟨?_⟩
  refine wpList_appe rfl (by rfl) w4.heap.size _ _ (by rfl) infoB v6 bytes (by rfl) H6.out.2.1 A b.length c b (by rfl) rfl (HH.out.2.1.fr H6.out.2.2 (fun _ _ h => h)) (by have := HH.out; omega) z6 ?_
  intro v7 w7 hO7 hf7 _
  have f7 : Fr (fun _ => False) w4 w7 := H6.out.1.trans hf7 (fun k hk => .inr (H6.out.2.1.base k hk.symm))
  have hg37 := f7.blk hg3 (fun h => h)
  have hg67 := f7.blk hg6 (fun h => h)
  obtain ⟨A7, c7, rfl, hc7⟩ := hO7.slice
  obtain ⟨X, hX⟩ : ∃ X, bytes ++ b = X := ⟨_, rfl⟩
  rw [hX] at hO7 hc7 ⊢
  have hXl : X.length = bytes.length + b.length := by rw [← hX, List.length_append]
  have HN := Aside0.mk (And.intro (H4.out.1.trans f7 (fun _ h => h.elim)) (And.intro (hO7.lower (show w.heap.size + 2 ≤ w4.heap.size by have := H4.out.2.2; have := H4.out.2.1.base; omega)) (And.intro hX (And.intro hXl hc7))))
  have cells7 : w7.cell? ⟨w.heap.size, 0, none⟩ = some (.slice Av bytes.length cv) ∧ w7.cell? ⟨w.heap.size, 1, none⟩ = some (.int .i64 room) ∧ w7.cell? ⟨w.heap.size, 2, none⟩ = some (.bool false) ∧ w7.cell? ⟨w.heap.size, 3, none⟩ = some (.bool true) ∧ w7.cell? ⟨w.heap.size, 4, none⟩ = some (.int .i64 0) ∧ w7.cell? ⟨w.heap.size, 5, none⟩ = some (.int .i64 tear) := by simp [World.cell?, hg37]
  clear k0 k1 k2 k3 k4 k5 k H6 hO7 hf7 f7 hg3 hg6 hX hXl
  obtain ⟨k0, k1, k2, k3, k4, k5⟩ := cells7
  clear H4 hc4
  have cf : decide (room < (X.length : Int)) = false := decide_eq_false (by rw [HN.out.2.2.2.1]; exact Int.not_lt.2 HF.out)
  have c1 : decide (tear < 0) = false := decide_eq_false (by have := HT.out; omega)
  have c2 : decide ((b.length : Int) < tear) = false := decide_eq_false (by have := HT.out; omega)
  have fz := frozenV hg37
  have fz0 := fz 0
  have fz2 := fz 2
  clear fz
  obtain ⟨n, hn⟩ : ∃ n, bytes.length + tear.toNat = n := ⟨_, rfl⟩
  have hnX : n ≤ X.length := by have := HN.out.2.2.2.1; have := HT.out; omega
  obtain ⟨i0, hi0, _, hsz, _⟩ := info_parts infoB
  have hcut := cut_to (P := Try.prog) 22 5 .i64 Try.underlying22 hi0 A7 X.length c7 (n : Int) (by omega) (by omega) HN.out.2.2.2.2
  rw [Int.toNat_natCast] at hcut
  have hsum : wrap64 ((bytes.length : Int) + tear) = (n : Int) := by have := HT.out; have := HH.out.2.2.1; unfold wrap64; omega
  have HX := Aside0.mk (And.intro hn hnX)
  clear hnX hn hsz
  have HFX := Aside0.mk ((Fr.one w7 w.heap.size 2 (.bool true)).trans (Fr.one (w7.setCell ⟨w.heap.size, 2, none⟩ (.bool true)) w.heap.size 0 (.slice A7 n c7)) (fun i h => .inl h))
  have hg68 := HFX.out.blk hg67 (fun h => by omega)
  go_wp2_with (first | ((with_reducible refine gate_store (p := 6) rfl ?_); refine Aside0.out ?_))
  refine ⟨?_⟩
  refine wpList_store_abs (by rfl) 40 _ _ (by rfl) (w.heap.size + 1) #[.slice A7 n c7, .int .i64 room, .bool true, .bool true, .int .i64 0, .int .i64 tear] (by rfl) (by rfl) 40 Z6r hg68 (by kernel_rfl) (by rfl) (by simp [Value.oneCell']) ?_
  intro w9 hf9 hs9 hg9
  go_wp2
  refine bodyPost_ret (results_cell_row_tmp (by rfl) _ _ (w.heap.size + 1) 40 #[.slice A7 n c7, .int .i64 room, .bool true, .bool true, .int .i64 0, .int .i64 tear] (0, 0) _ (by rfl) hg9 Try.underlying40 (by rfl) (by kernel_rfl)) rfl ?_
  clear hsum
  have FX : Fr (fun k => k < w.heap.size + 2) w7 w9 := (HFX.out.mono (S' := fun k => k < w.heap.size + 2) (fun i h => by omega)).trans (hf9.mono (S' := fun k => k < w.heap.size + 2) (fun i h => by omega)) (fun i h => .inl h)
  have hrX : Rd w9 A7 X := (QB.rd (q_of_own HN.out.2.1)).fr FX (fun ad e h => by have := HN.out.2.1.base ad.block (by rw [e]; rfl); omega)
  have hrt : Rd w9 A7 (X.take n) := by have := hrX.mid 0 n; rw [List.drop_zero] at this; cases A7 with | none => exact this | some ad => rw [Option.map_some, show ad.add 0 = ad from by unfold Addr.add; split <;> simp_all] at this; exact this
  have htl : (X.take n).length = n := by rw [List.length_take]; exact Nat.min_eq_left HX.out.2
  rw [HN.out.2.2.1, HX.out.1]
  have F9 : Fr (fun _ => False) w w9 := (HN.out.1.trans HFX.out (fun k hk => .inr (by omega))).trans hf9 (fun k hk => .inr (by omega))
  exact ⟨_, rfl, ⟨A7, c7, by rw [htl], by rw [htl]; exact Nat.le_trans HX.out.2 HN.out.2.2.2.2, hrt⟩, fun k hk => .inr ⟨by have := HN.out.2.1.base k (by cases A7 <;> exact hk); omega, Nat.lt_of_lt_of_le (q_lt (q_of_own HN.out.2.1) k (by cases A7 <;> exact hk)) (Nat.le_trans HFX.out.size hf9.size)⟩, F9.below _ (Nat.le_refl _) (fun i h => h.elim)⟩
set_option maxHeartbeats 8000000 in
set_option maxRecDepth 100000 in
theorem rwrite_app_tear_over (bytes : List Int) (room : Int) (dead breaks : Bool) (writes tear : Int) (Av : Option Addr) (cv : Nat) (A : Option Addr) (c : Nat) (b : List Int) (w : World) (hrv : Rd w Av bytes) (hcv : bytes.length ≤ cv) (hy : Rd w A b) (hc : b.length ≤ c) (hl : bytes.length + b.length ≤ 140737488355328) (hw : -4611686018427387904 ≤ writes) (hw2 : writes ≤ 9223372036854775807) (hd : dead = false) (hf : ((bytes.length + b.length : Nat) : Int) ≤ room) (hbk : breaks = true) (hw0 : writes = 0) (ht : (b.length : Int) < tear) :
    Calls Try.prog 17 #[.agg #[.slice Av bytes.length cv, .int .i64 room, .bool dead, .bool breaks, .int .i64 writes, .int .i64 tear], .slice A b.length c, .bool false] w fun e w' => ∃ v', e = .returned (.tuple #[.agg (rcs v' ⟨(bytes ++ b).take (bytes.length + b.length), room, true, true, writes, tear⟩), .int .i64 115]) ∧ Lies w' v' ((bytes ++ b).take (bytes.length + b.length)) ∧ Near w.heap.size w' (.slice Av bytes.length cv) v' ∧ Below w.heap.size w w' := by
  subst hd hbk hw0
  have HF := Aside0.mk hf
  have HT := Aside0.mk ht
  clear hf ht
  have HH := Aside0.mk (And.intro hrv (And.intro hy (And.intro hl (And.intro hw (And.intro hw2 (And.intro hcv hc))))))
  clear hrv hy hl hw hw2
  go_enter Try.func17, Try.ntmps17
  go_wp2_with (first | ((with_reducible refine gate_dst (N := 6) rfl ?_); refine wpList_alloc_abs (by rfl) 40 (by rfl) (.agg Z6r) (by kernel_rfl) ?_; intro w2 hb2 hs2 hg2) | ((with_reducible refine gate_dst (N := 10) rfl ?_); refine Aside0.out ?_))
  refine ⟨?_⟩
  have hg1 := heap_alloc_new w (.cells #[.slice Av bytes.length cv, .int .i64 room, .bool false, .bool true, .int .i64 0, .int .i64 tear] 40)
  have hb1 := below_alloc (Below.refl w.heap.size w) (.cells #[.slice Av bytes.length cv, .int .i64 room, .bool false, .bool true, .int .i64 0, .int .i64 tear] 40)
  have z1 : (w.alloc (.cells #[.slice Av bytes.length cv, .int .i64 room, .bool false, .bool true, .int .i64 0, .int .i64 tear] 40)).heap.size = w.heap.size + 1 := by rw [World.size_alloc]
  generalize w.alloc (.cells #[.slice Av bytes.length cv, .int .i64 room, .bool false, .bool true, .int .i64 0, .int .i64 tear] 40) = w1 at *
  have f2 := Fr.of_below hb2 (fun _ => False)
  have F2 := (Fr.of_below hb1 (fun _ => False)).trans f2 (fun _ h => h.elim)
  have hg12 := f2.blk hg1 (fun h => h)
  refine wpList_copyb rfl (by rfl) (fun _ => by rfl) (fun _ _ => by rfl) (by first | (go_simp; done) | (go_simp; rfl)) _ (by rfl) A b.length c b (fun _ => rfl) rfl (HH.out.2.1.fr F2 (fun _ _ h => h)) _ _ (by rfl) (fun _ _ => rfl) (fun _ _ => rfl) (by have := HH.out; omega) ?_
  intro u4 v4 w4 hO4 hb4
  obtain ⟨A4, c4, rfl, hc4⟩ := hO4.slice
  have f4 := Fr.of_below hb4 (fun _ => False)
  have hg3 := f4.blk hg12 (fun h => h)
  have hg6 : w4.heap[w1.heap.size]? = some (.cells Z6r 40 (0, 0)) := f4.blk hg2 (fun h => h)
  rw [z1] at hg6
  have F4 := F2.trans f4 (fun _ h => h.elim)
  have H4 := Aside0.mk (And.intro F4 (And.intro hO4 (And.intro z1 (And.intro hs2 (f4.size)))))
  have z2 := hb2.size
  have k := set6 hg3
  have cells : w4.cell? ⟨w.heap.size, 0, none⟩ = some (.slice Av bytes.length cv) ∧ w4.cell? ⟨w.heap.size, 1, none⟩ = some (.int .i64 room) ∧ w4.cell? ⟨w.heap.size, 2, none⟩ = some (.bool false) ∧ w4.cell? ⟨w.heap.size, 3, none⟩ = some (.bool true) ∧ w4.cell? ⟨w.heap.size, 4, none⟩ = some (.int .i64 0) ∧ w4.cell? ⟨w.heap.size, 5, none⟩ = some (.int .i64 tear) := by simp [World.cell?, hg3]
  obtain ⟨k0, k1, k2, k3, k4, k5⟩ := cells
  clear hO4 hb4 f4 F4 f2 F2 hg12 hb1 hb2 hg1 hg2
  go_wp2_with (first | ((with_reducible refine gate_dst (N := 15) rfl ?_); refine wpList_lit0 (by rfl) (by first | (go_simp; done) | (go_simp; rfl)) ?_; intro v5 w5 hO5 hb5; have k05 := (Fr.of_below hb5 (fun _ => False)).cell k0 (fun h => h)) | ((with_reducible refine gate_builtin (b := .append) (xs := #[.tmp 15, .tmp 17]) rfl ?_); at_builtin; refine Aside0.out ?_))
  refine ⟨?_⟩
  have f5 := Fr.of_below hb5 (fun _ => False)
  have F5 := H4.out.1.trans f5 (fun _ h => h.elim)
  have z5 := hb5.size
  refine wpList_appe rfl (by rfl) w4.heap.size _ _ (by rfl) infoB v5 [] (by rfl) hO5 Av bytes.length cv bytes (by rfl) rfl (HH.out.1.fr F5 (fun _ _ h => h)) (by have := HH.out; simp only [List.length_nil]; omega) z5 ?_
  intro v6 w6 hO6 hf6 _
  rw [List.nil_append] at hO6
  have f6 : Fr (fun _ => False) w4 w6 := f5.trans hf6 (fun k hk => .inr (hO5.base k hk.symm))
  have z6 := f6.size
  have H6 := Aside0.mk (And.intro f6 (And.intro hO6 (H4.out.1.trans f6 (fun _ h => h.elim))))
  clear hO5 hb5 hf6 hO6 f5 F5 f6 k05
  go_wp2_with (first | ((with_reducible refine gate_builtin (b := .append) (xs := #[.tmp 18, .tmp 19]) rfl ?_); at_builtin; refine Aside0.out ?_))
  refine ⟨?_⟩
  refine wpList_appe rfl (by rfl) w4.heap.size _ _ (by rfl) infoB v6 bytes (by rfl) H6.out.2.1 A b.length c b (by rfl) rfl (HH.out.2.1.fr H6.out.2.2 (fun _ _ h => h)) (by have := HH.out; omega) z6 ?_
  intro v7 w7 hO7 hf7 _
  have f7 : Fr (fun _ => False) w4 w7 := H6.out.1.trans hf7 (fun k hk => .inr (H6.out.2.1.base k hk.symm))
  have hg37 := f7.blk hg3 (fun h => h)
  have hg67 := f7.blk hg6 (fun h => h)
  obtain ⟨A7, c7, rfl, hc7⟩ := hO7.slice
  obtain ⟨X, hX⟩ : ∃ X, bytes ++ b = X := ⟨_, rfl⟩
  rw [hX] at hO7 hc7 ⊢
  have hXl : X.length = bytes.length + b.length := by rw [← hX, List.length_append]
  have HN := Aside0.mk (And.intro (H4.out.1.trans f7 (fun _ h => h.elim)) (And.intro (hO7.lower (show w.heap.size + 2 ≤ w4.heap.size by have := H4.out.2.2; have := H4.out.2.1.base; omega)) (And.intro hX (And.intro hXl hc7))))
  have cells7 : w7.cell? ⟨w.heap.size, 0, none⟩ = some (.slice Av bytes.length cv) ∧ w7.cell? ⟨w.heap.size, 1, none⟩ = some (.int .i64 room) ∧ w7.cell? ⟨w.heap.size, 2, none⟩ = some (.bool false) ∧ w7.cell? ⟨w.heap.size, 3, none⟩ = some (.bool true) ∧ w7.cell? ⟨w.heap.size, 4, none⟩ = some (.int .i64 0) ∧ w7.cell? ⟨w.heap.size, 5, none⟩ = some (.int .i64 tear) := by simp [World.cell?, hg37]
  clear k0 k1 k2 k3 k4 k5 k H6 hO7 hf7 f7 hg3 hg6 hX hXl
  obtain ⟨k0, k1, k2, k3, k4, k5⟩ := cells7
  clear H4 hc4
  have cf : decide (room < (X.length : Int)) = false := decide_eq_false (by rw [HN.out.2.2.2.1]; exact Int.not_lt.2 HF.out)
  have c1 : decide (tear < 0) = false := decide_eq_false (by have := HT.out; omega)
  have c2 : decide ((b.length : Int) < tear) = true := decide_eq_true HT.out
  have fz := frozenV hg37
  have fz0 := fz 0
  have fz2 := fz 2
  clear fz
  obtain ⟨n, hn⟩ : ∃ n, bytes.length + b.length = n := ⟨_, rfl⟩
  have hnX : n ≤ X.length := by have := HN.out.2.2.2.1; have := HT.out; omega
  obtain ⟨i0, hi0, _, hsz, _⟩ := info_parts infoB
  have hcut := cut_to (P := Try.prog) 22 5 .i64 Try.underlying22 hi0 A7 X.length c7 (n : Int) (by omega) (by omega) HN.out.2.2.2.2
  rw [Int.toNat_natCast] at hcut
  have hsum : wrap64 ((bytes.length : Int) + (b.length : Int)) = (n : Int) := by have := HT.out; have := HH.out.2.2.1; unfold wrap64; omega
  have HX := Aside0.mk (And.intro hn hnX)
  clear hnX hn hsz
  have HFX := Aside0.mk ((Fr.one w7 w.heap.size 2 (.bool true)).trans (Fr.one (w7.setCell ⟨w.heap.size, 2, none⟩ (.bool true)) w.heap.size 0 (.slice A7 n c7)) (fun i h => .inl h))
  have hg68 := HFX.out.blk hg67 (fun h => by omega)
  go_wp2_with (first | ((with_reducible refine gate_store (p := 6) rfl ?_); refine Aside0.out ?_))
  refine ⟨?_⟩
  refine wpList_store_abs (by rfl) 40 _ _ (by rfl) (w.heap.size + 1) #[.slice A7 n c7, .int .i64 room, .bool true, .bool true, .int .i64 0, .int .i64 tear] (by rfl) (by rfl) 40 Z6r hg68 (by kernel_rfl) (by rfl) (by simp [Value.oneCell']) ?_
  intro w9 hf9 hs9 hg9
  go_wp2
  refine bodyPost_ret (results_cell_row_tmp (by rfl) _ _ (w.heap.size + 1) 40 #[.slice A7 n c7, .int .i64 room, .bool true, .bool true, .int .i64 0, .int .i64 tear] (0, 0) _ (by rfl) hg9 Try.underlying40 (by rfl) (by kernel_rfl)) rfl ?_
  clear hsum
  have FX : Fr (fun k => k < w.heap.size + 2) w7 w9 := (HFX.out.mono (S' := fun k => k < w.heap.size + 2) (fun i h => by omega)).trans (hf9.mono (S' := fun k => k < w.heap.size + 2) (fun i h => by omega)) (fun i h => .inl h)
  have hrX : Rd w9 A7 X := (QB.rd (q_of_own HN.out.2.1)).fr FX (fun ad e h => by have := HN.out.2.1.base ad.block (by rw [e]; rfl); omega)
  have hrt : Rd w9 A7 (X.take n) := by have := hrX.mid 0 n; rw [List.drop_zero] at this; cases A7 with | none => exact this | some ad => rw [Option.map_some, show ad.add 0 = ad from by unfold Addr.add; split <;> simp_all] at this; exact this
  have htl : (X.take n).length = n := by rw [List.length_take]; exact Nat.min_eq_left HX.out.2
  rw [HN.out.2.2.1, HX.out.1]
  have F9 : Fr (fun _ => False) w w9 := (HN.out.1.trans HFX.out (fun k hk => .inr (by omega))).trans hf9 (fun k hk => .inr (by omega))
  exact ⟨_, rfl, ⟨A7, c7, by rw [htl], by rw [htl]; exact Nat.le_trans HX.out.2 HN.out.2.2.2.2, hrt⟩, fun k hk => .inr ⟨by have := HN.out.2.1.base k (by cases A7 <;> exact hk); omega, Nat.lt_of_lt_of_le (q_lt (q_of_own HN.out.2.1) k (by cases A7 <;> exact hk)) (Nat.le_trans HFX.out.size hf9.size)⟩, F9.below _ (Nat.le_refl _) (fun i h => h.elim)⟩
end Go.Proofs.Ytkkgjbafncmohaa.Sha

/-
  The document's disk: Write joined; Break, Mend, New.
-/
set_option linter.unusedVariables false
set_option linter.unusedSimpArgs false
namespace Go.Proofs.Ytkkgjbafncmohaa.Sha
open Go.RowKit Go.Proofs.YtkkgjbafncmohaaW.PrintWords Go.Proofs.YtkkgjbafncmohaaW.PrintLast Go.Proofs.YtkkgjbafncmohaaW.PrintMore Go.Proofs.Ytkkgjbafncmohaa.Q Go.Proofs.Ytkkgjbafncmohaa.Fr Go.Proofs.Ytkkgjbafncmohaa.Oct

theorem Rdk.wr_dead (r : Rdk) (b nx : List Int) (all : Bool) (h : r.dead = true) : r.wr b nx all = (r, 115) := by
  unfold Rdk.wr; rw [if_pos h]
theorem Rdk.wr_full (r : Rdk) (b nx : List Int) (all : Bool) (h : r.dead = false) (h2 : r.room < (nx.length : Int)) : r.wr b nx all = (r, 113) := by
  unfold Rdk.wr; rw [if_neg (by rw [h]; decide), if_pos h2]
theorem Rdk.wr_tear (r : Rdk) (b nx : List Int) (all : Bool) (h : r.dead = false) (h2 : (nx.length : Int) ≤ r.room) (h3 : r.breaks = true) (h4 : r.writes = 0) : r.wr b nx all = ({ r with dead := true, bytes := if all = true then r.bytes else nx.take (r.bytes.length + clampN r.tear b.length) }, 115) := by
  unfold Rdk.wr; rw [if_neg (by rw [h]; decide), if_neg (by omega), if_pos ⟨h3, h4⟩]
theorem Rdk.wr_ok0 (r : Rdk) (b nx : List Int) (all : Bool) (h : r.dead = false) (h2 : (nx.length : Int) ≤ r.room) (h3 : r.breaks = false) : r.wr b nx all = ({ r with bytes := nx }, 0) := by
  unfold Rdk.wr; rw [if_neg (by rw [h]; decide), if_neg (by omega), if_neg (by rw [h3]; simp), if_neg (by rw [h3]; decide)]
theorem Rdk.wr_ok1 (r : Rdk) (b nx : List Int) (all : Bool) (h : r.dead = false) (h2 : (nx.length : Int) ≤ r.room) (h3 : r.breaks = true) (h4 : ¬ r.writes = 0) : r.wr b nx all = ({ r with writes := r.writes - 1, bytes := nx }, 0) := by
  unfold Rdk.wr; rw [if_neg (by rw [h]; decide), if_neg (by omega), if_neg (fun e => h4 e.2), if_pos h3]
theorem rwrite_all (r : Rdk) (v : Value) (A : Option Addr) (c : Nat) (b : List Int) (w : World) (hv : Lies w v r.bytes) (hy : Rd w A b) (hc : b.length ≤ c) (hl : r.bytes.length + b.length ≤ 140737488355328) (hw : -4611686018427387904 ≤ r.writes) (hw2 : r.writes ≤ 9223372036854775807) :
    Calls Try.prog 17 #[.agg (rcs v r), .slice A b.length c, .bool true] w fun e w' => ∃ v', e = .returned (.tuple #[.agg (rcs v' (r.write b true).1), .int .i64 (r.write b true).2]) ∧ Lies w' v' (r.write b true).1.bytes ∧ Near w.heap.size w' v v' ∧ Below w.heap.size w w' := by
  obtain ⟨bytes, room, dead, breaks, writes, tear⟩ := r
  obtain ⟨Av, cv, rfl, hcv, hr⟩ := hv
  have hnx : (b.length : Int) = (b.length : Int) := by simp
  have go : ∀ (r' : Rdk) (er : Int), Rdk.wr ⟨bytes, room, dead, breaks, writes, tear⟩ b b true = (r', er) → (∀ v', rcs v' r' = rcs v' r') → Calls Try.prog 17 #[.agg (rcs (.slice Av bytes.length cv) ⟨bytes, room, dead, breaks, writes, tear⟩), .slice A b.length c, .bool true] w (fun e w' => ∃ v', e = .returned (.tuple #[.agg (rcs v' r'), .int .i64 er]) ∧ Lies w' v' r'.bytes ∧ Near w.heap.size w' (.slice Av bytes.length cv) v' ∧ Below w.heap.size w w') → Calls Try.prog 17 #[.agg (rcs (.slice Av bytes.length cv) ⟨bytes, room, dead, breaks, writes, tear⟩), .slice A b.length c, .bool true] w (fun e w' => ∃ v', e = .returned (.tuple #[.agg (rcs v' (Rdk.write ⟨bytes, room, dead, breaks, writes, tear⟩ b true).1), .int .i64 (Rdk.write ⟨bytes, room, dead, breaks, writes, tear⟩ b true).2]) ∧ Lies w' v' (Rdk.write ⟨bytes, room, dead, breaks, writes, tear⟩ b true).1.bytes ∧ Near w.heap.size w' (.slice Av bytes.length cv) v' ∧ Below w.heap.size w w') := by
    intro r' er e _ h
    have e' : Rdk.write ⟨bytes, room, dead, breaks, writes, tear⟩ b true = (r', er) := by rw [← e]; rfl
    rw [e']
    exact h
  by_cases hd : dead = true
  · subst hd
    exact go _ _ (Rdk.wr_dead ⟨bytes, room, true, breaks, writes, tear⟩ b b true rfl) (fun _ => rfl) (rwrite_all_dead bytes room true breaks writes tear Av cv A c b w hr hcv hy hc hl hw hw2 rfl)
  have hd : dead = false := by simpa using hd
  subst hd
  by_cases hf : room < (b.length : Int)
  · exact go _ _ (Rdk.wr_full ⟨bytes, room, false, breaks, writes, tear⟩ b b true rfl (by rw [hnx]; exact hf)) (fun _ => rfl) (rwrite_all_full bytes room false breaks writes tear Av cv A c b w hr hcv hy hc hl hw hw2 rfl hf)
  have hf : (b.length : Int) ≤ room := Int.not_lt.1 hf
  have hf' : (b.length : Int) ≤ room := by rw [hnx]; exact hf
  by_cases hb : breaks = false
  · subst hb
    exact go _ _ (Rdk.wr_ok0 ⟨bytes, room, false, false, writes, tear⟩ b b true rfl hf' rfl) (fun _ => rfl) (rwrite_all_ok0 bytes room false false writes tear Av cv A c b w hr hcv hy hc hl hw hw2 rfl hf rfl)
  have hb : breaks = true := by simpa using hb
  subst hb
  by_cases hw0 : writes = 0
  · subst hw0
    by_cases ht : tear < 0
    · exact go _ _ (Rdk.wr_tear ⟨bytes, room, false, true, 0, tear⟩ b b true rfl hf' rfl rfl) (fun _ => rfl) (rwrite_all_tear_neg bytes room false true 0 tear Av cv A c b w hr hcv hy hc hl hw hw2 rfl hf rfl rfl ht)
    by_cases ht2 : (b.length : Int) < tear
    · exact go _ _ (Rdk.wr_tear ⟨bytes, room, false, true, 0, tear⟩ b b true rfl hf' rfl rfl) (fun _ => rfl) (rwrite_all_tear_over bytes room false true 0 tear Av cv A c b w hr hcv hy hc hl hw hw2 rfl hf rfl rfl ht2)
    · exact go _ _ (Rdk.wr_tear ⟨bytes, room, false, true, 0, tear⟩ b b true rfl hf' rfl rfl) (fun _ => rfl) (rwrite_all_tear_mid bytes room false true 0 tear Av cv A c b w hr hcv hy hc hl hw hw2 rfl hf rfl rfl ⟨by omega, by omega⟩)
  exact go _ _ (Rdk.wr_ok1 ⟨bytes, room, false, true, writes, tear⟩ b b true rfl hf' rfl hw0) (fun _ => rfl) (rwrite_all_ok1 bytes room false true writes tear Av cv A c b w hr hcv hy hc hl hw hw2 rfl hf rfl hw0)
theorem rwrite_app (r : Rdk) (v : Value) (A : Option Addr) (c : Nat) (b : List Int) (w : World) (hv : Lies w v r.bytes) (hy : Rd w A b) (hc : b.length ≤ c) (hl : r.bytes.length + b.length ≤ 140737488355328) (hw : -4611686018427387904 ≤ r.writes) (hw2 : r.writes ≤ 9223372036854775807) :
    Calls Try.prog 17 #[.agg (rcs v r), .slice A b.length c, .bool false] w fun e w' => ∃ v', e = .returned (.tuple #[.agg (rcs v' (r.write b false).1), .int .i64 (r.write b false).2]) ∧ Lies w' v' (r.write b false).1.bytes ∧ Near w.heap.size w' v v' ∧ Below w.heap.size w w' := by
  obtain ⟨bytes, room, dead, breaks, writes, tear⟩ := r
  obtain ⟨Av, cv, rfl, hcv, hr⟩ := hv
  have hnx : ((bytes ++ b).length : Int) = ((bytes.length + b.length : Nat) : Int) := by simp
  have go : ∀ (r' : Rdk) (er : Int), Rdk.wr ⟨bytes, room, dead, breaks, writes, tear⟩ b (bytes ++ b) false = (r', er) → (∀ v', rcs v' r' = rcs v' r') → Calls Try.prog 17 #[.agg (rcs (.slice Av bytes.length cv) ⟨bytes, room, dead, breaks, writes, tear⟩), .slice A b.length c, .bool false] w (fun e w' => ∃ v', e = .returned (.tuple #[.agg (rcs v' r'), .int .i64 er]) ∧ Lies w' v' r'.bytes ∧ Near w.heap.size w' (.slice Av bytes.length cv) v' ∧ Below w.heap.size w w') → Calls Try.prog 17 #[.agg (rcs (.slice Av bytes.length cv) ⟨bytes, room, dead, breaks, writes, tear⟩), .slice A b.length c, .bool false] w (fun e w' => ∃ v', e = .returned (.tuple #[.agg (rcs v' (Rdk.write ⟨bytes, room, dead, breaks, writes, tear⟩ b false).1), .int .i64 (Rdk.write ⟨bytes, room, dead, breaks, writes, tear⟩ b false).2]) ∧ Lies w' v' (Rdk.write ⟨bytes, room, dead, breaks, writes, tear⟩ b false).1.bytes ∧ Near w.heap.size w' (.slice Av bytes.length cv) v' ∧ Below w.heap.size w w') := by
    intro r' er e _ h
    have e' : Rdk.write ⟨bytes, room, dead, breaks, writes, tear⟩ b false = (r', er) := by rw [← e]; rfl
    rw [e']
    exact h
  by_cases hd : dead = true
  · subst hd
    exact go _ _ (Rdk.wr_dead ⟨bytes, room, true, breaks, writes, tear⟩ b (bytes ++ b) false rfl) (fun _ => rfl) (rwrite_app_dead bytes room true breaks writes tear Av cv A c b w hr hcv hy hc hl hw hw2 rfl)
  have hd : dead = false := by simpa using hd
  subst hd
  by_cases hf : room < ((bytes.length + b.length : Nat) : Int)
  · exact go _ _ (Rdk.wr_full ⟨bytes, room, false, breaks, writes, tear⟩ b (bytes ++ b) false rfl (by rw [hnx]; exact hf)) (fun _ => rfl) (rwrite_app_full bytes room false breaks writes tear Av cv A c b w hr hcv hy hc hl hw hw2 rfl hf)
  have hf : ((bytes.length + b.length : Nat) : Int) ≤ room := Int.not_lt.1 hf
  have hf' : ((bytes ++ b).length : Int) ≤ room := by rw [hnx]; exact hf
  by_cases hb : breaks = false
  · subst hb
    exact go _ _ (Rdk.wr_ok0 ⟨bytes, room, false, false, writes, tear⟩ b (bytes ++ b) false rfl hf' rfl) (fun _ => rfl) (rwrite_app_ok0 bytes room false false writes tear Av cv A c b w hr hcv hy hc hl hw hw2 rfl hf rfl)
  have hb : breaks = true := by simpa using hb
  subst hb
  by_cases hw0 : writes = 0
  · subst hw0
    by_cases ht : tear < 0
    · have hm : clampN tear b.length = 0 := by unfold clampN; omega
      refine go _ _ (Rdk.wr_tear ⟨bytes, room, false, true, 0, tear⟩ b (bytes ++ b) false rfl hf' rfl rfl) (fun _ => rfl) ?_
      simp only [Bool.false_eq_true, if_false]
      rw [hm]
      exact rwrite_app_tear_neg bytes room false true 0 tear Av cv A c b w hr hcv hy hc hl hw hw2 rfl hf rfl rfl ht
    by_cases ht2 : (b.length : Int) < tear
    · have hm : clampN tear b.length = b.length := by unfold clampN; omega
      refine go _ _ (Rdk.wr_tear ⟨bytes, room, false, true, 0, tear⟩ b (bytes ++ b) false rfl hf' rfl rfl) (fun _ => rfl) ?_
      simp only [Bool.false_eq_true, if_false]
      rw [hm]
      exact rwrite_app_tear_over bytes room false true 0 tear Av cv A c b w hr hcv hy hc hl hw hw2 rfl hf rfl rfl ht2
    · have hm : clampN tear b.length = tear.toNat := by unfold clampN; omega
      refine go _ _ (Rdk.wr_tear ⟨bytes, room, false, true, 0, tear⟩ b (bytes ++ b) false rfl hf' rfl rfl) (fun _ => rfl) ?_
      simp only [Bool.false_eq_true, if_false]
      rw [hm]
      exact rwrite_app_tear_mid bytes room false true 0 tear Av cv A c b w hr hcv hy hc hl hw hw2 rfl hf rfl rfl ⟨by omega, by omega⟩
  exact go _ _ (Rdk.wr_ok1 ⟨bytes, room, false, true, writes, tear⟩ b (bytes ++ b) false rfl hf' rfl hw0) (fun _ => rfl) (rwrite_app_ok1 bytes room false true writes tear Av cv A c b w hr hcv hy hc hl hw hw2 rfl hf rfl hw0)
/-- The disk that is to break; the disk mended. -/
def Rdk.brk (r : Rdk) (n tear : Int) : Rdk := { r with breaks := true, writes := max 0 n, tear := tear }
def Rdk.mend (r : Rdk) : Rdk := { r with dead := false, breaks := false, writes := 0, tear := 0 }
end Go.Proofs.Ytkkgjbafncmohaa.Sha

/-
  The document's disk: Break, Mend, New.
-/
set_option linter.unusedVariables false
set_option linter.unusedSimpArgs false
namespace Go.Proofs.Ytkkgjbafncmohaa.Sha
open Go.RowKit Go.Proofs.YtkkgjbafncmohaaW.PrintWords Go.Proofs.YtkkgjbafncmohaaW.PrintLast Go.Proofs.YtkkgjbafncmohaaW.PrintMore Go.Proofs.Ytkkgjbafncmohaa.Q Go.Proofs.Ytkkgjbafncmohaa.Fr Go.Proofs.Ytkkgjbafncmohaa.Oct

set_option maxHeartbeats 8000000 in
set_option maxRecDepth 100000 in
theorem rbreak_neg (Av : Option Addr) (lv cv : Nat) (room : Int) (dead breaks : Bool) (writes te : Int) (n tear : Int) (w : World) (hn : n < 0) :
    Calls Try.prog 24 #[.agg #[.slice Av lv cv, .int .i64 room, .bool dead, .bool breaks, .int .i64 writes, .int .i64 te], .int .i64 n, .int .i64 tear] w fun e w' => e = .returned (.agg #[.slice Av lv cv, .int .i64 room, .bool dead, .bool true, .int .i64 0, .int .i64 tear]) ∧ Below w.heap.size w w' := by
  have cn : decide (n < 0) = true := by simpa using hn
  have cn' := hn
  go_enter Try.func24, Try.ntmps24
  go_wp2_with (first | ((with_reducible refine gate_dst (N := 6) rfl ?_); refine Aside0.out ?_))
  refine ⟨?_⟩
  have hg1 := heap_alloc_new w (.cells #[.slice Av lv cv, .int .i64 room, .bool dead, .bool breaks, .int .i64 writes, .int .i64 te] 40)
  have hb1 := below_alloc (Below.refl w.heap.size w) (.cells #[.slice Av lv cv, .int .i64 room, .bool dead, .bool breaks, .int .i64 writes, .int .i64 te] 40)
  have z1 : (w.alloc (.cells #[.slice Av lv cv, .int .i64 room, .bool dead, .bool breaks, .int .i64 writes, .int .i64 te] 40)).heap.size = w.heap.size + 1 := by rw [World.size_alloc]
  generalize w.alloc (.cells #[.slice Av lv cv, .int .i64 room, .bool dead, .bool breaks, .int .i64 writes, .int .i64 te] 40) = w1 at *
  refine wpList_alloc_abs (by rfl) 40 (by rfl) (.agg Z6r) (by kernel_rfl) ?_
  intro w2 hb2 hs2 hg2
  have f2 := Fr.of_below hb2 (fun _ => False)
  have F2 := (Fr.of_below hb1 (fun _ => False)).trans f2 (fun _ h => h.elim)
  have hg3 := f2.blk hg1 (fun h => h)
  rw [z1] at hg2
  have HN := Aside0.mk (And.intro F2 (And.intro z1 hs2))
  have cells : w2.cell? ⟨w.heap.size, 0, none⟩ = some (.slice Av lv cv) ∧ w2.cell? ⟨w.heap.size, 1, none⟩ = some (.int .i64 room) ∧ w2.cell? ⟨w.heap.size, 2, none⟩ = some (.bool dead) ∧ w2.cell? ⟨w.heap.size, 3, none⟩ = some (.bool breaks) ∧ w2.cell? ⟨w.heap.size, 4, none⟩ = some (.int .i64 writes) ∧ w2.cell? ⟨w.heap.size, 5, none⟩ = some (.int .i64 te) := by simp [World.cell?, hg3]
  obtain ⟨k0, k1, k2, k3, k4, k5⟩ := cells
  have fz := frozenV hg3
  have fz3 := fz 3
  have fz4 := fz 4
  have fz5 := fz 5
  clear fz hb1 hb2 hg1 f2 F2
  have HFX := Aside0.mk (((Fr.one w2 w.heap.size 3 (.bool true)).trans (Fr.one (w2.setCell ⟨w.heap.size, 3, none⟩ (.bool true)) w.heap.size 4 (.int .i64 0)) (fun i h => .inl h)).trans (Fr.one ((w2.setCell ⟨w.heap.size, 3, none⟩ (.bool true)).setCell ⟨w.heap.size, 4, none⟩ (.int .i64 0)) w.heap.size 5 (.int .i64 tear)) (fun i h => .inl h))
  have hg68 := HFX.out.blk hg2 (fun h => by omega)
  go_wp2_with (first | ((with_reducible refine gate_store (p := 6) rfl ?_); refine Aside0.out ?_))
  refine ⟨?_⟩
  refine wpList_store_abs (by rfl) 40 _ _ (by rfl) (w.heap.size + 1) #[.slice Av lv cv, .int .i64 room, .bool dead, .bool true, .int .i64 0, .int .i64 tear] (by rfl) (by rfl) 40 Z6r hg68 (by kernel_rfl) (by rfl) (by simp [Value.oneCell']) ?_
  intro w9 hf9 hs9 hg9
  go_wp2
  refine bodyPost_ret (results_cell_row (by rfl) _ _ (w.heap.size + 1) 40 #[.slice Av lv cv, .int .i64 room, .bool dead, .bool true, .int .i64 0, .int .i64 tear] (0, 0) _ (by rfl) hg9 Try.underlying40 (by rfl) (by kernel_rfl)) rfl ?_
  have F9 : Fr (fun _ => False) w w9 := (HN.out.1.trans HFX.out (fun k hk => .inr (by omega))).trans hf9 (fun k hk => .inr (by omega))
  exact ⟨rfl, F9.below _ (Nat.le_refl _) (fun i h => h.elim)⟩
set_option maxHeartbeats 8000000 in
set_option maxRecDepth 100000 in
theorem rbreak_pos (Av : Option Addr) (lv cv : Nat) (room : Int) (dead breaks : Bool) (writes te : Int) (n tear : Int) (w : World) (hn : ¬ n < 0) :
    Calls Try.prog 24 #[.agg #[.slice Av lv cv, .int .i64 room, .bool dead, .bool breaks, .int .i64 writes, .int .i64 te], .int .i64 n, .int .i64 tear] w fun e w' => e = .returned (.agg #[.slice Av lv cv, .int .i64 room, .bool dead, .bool true, .int .i64 n, .int .i64 tear]) ∧ Below w.heap.size w w' := by
  have cn : decide (n < 0) = false := by simpa using hn
  have cn' := hn
  go_enter Try.func24, Try.ntmps24
  go_wp2_with (first | ((with_reducible refine gate_dst (N := 6) rfl ?_); refine Aside0.out ?_))
  refine ⟨?_⟩
  have hg1 := heap_alloc_new w (.cells #[.slice Av lv cv, .int .i64 room, .bool dead, .bool breaks, .int .i64 writes, .int .i64 te] 40)
  have hb1 := below_alloc (Below.refl w.heap.size w) (.cells #[.slice Av lv cv, .int .i64 room, .bool dead, .bool breaks, .int .i64 writes, .int .i64 te] 40)
  have z1 : (w.alloc (.cells #[.slice Av lv cv, .int .i64 room, .bool dead, .bool breaks, .int .i64 writes, .int .i64 te] 40)).heap.size = w.heap.size + 1 := by rw [World.size_alloc]
  generalize w.alloc (.cells #[.slice Av lv cv, .int .i64 room, .bool dead, .bool breaks, .int .i64 writes, .int .i64 te] 40) = w1 at *
  refine wpList_alloc_abs (by rfl) 40 (by rfl) (.agg Z6r) (by kernel_rfl) ?_
  intro w2 hb2 hs2 hg2
  have f2 := Fr.of_below hb2 (fun _ => False)
  have F2 := (Fr.of_below hb1 (fun _ => False)).trans f2 (fun _ h => h.elim)
  have hg3 := f2.blk hg1 (fun h => h)
  rw [z1] at hg2
  have HN := Aside0.mk (And.intro F2 (And.intro z1 hs2))
  have cells : w2.cell? ⟨w.heap.size, 0, none⟩ = some (.slice Av lv cv) ∧ w2.cell? ⟨w.heap.size, 1, none⟩ = some (.int .i64 room) ∧ w2.cell? ⟨w.heap.size, 2, none⟩ = some (.bool dead) ∧ w2.cell? ⟨w.heap.size, 3, none⟩ = some (.bool breaks) ∧ w2.cell? ⟨w.heap.size, 4, none⟩ = some (.int .i64 writes) ∧ w2.cell? ⟨w.heap.size, 5, none⟩ = some (.int .i64 te) := by simp [World.cell?, hg3]
  obtain ⟨k0, k1, k2, k3, k4, k5⟩ := cells
  have fz := frozenV hg3
  have fz3 := fz 3
  have fz4 := fz 4
  have fz5 := fz 5
  clear fz hb1 hb2 hg1 f2 F2
  have HFX := Aside0.mk (((Fr.one w2 w.heap.size 3 (.bool true)).trans (Fr.one (w2.setCell ⟨w.heap.size, 3, none⟩ (.bool true)) w.heap.size 4 (.int .i64 n)) (fun i h => .inl h)).trans (Fr.one ((w2.setCell ⟨w.heap.size, 3, none⟩ (.bool true)).setCell ⟨w.heap.size, 4, none⟩ (.int .i64 n)) w.heap.size 5 (.int .i64 tear)) (fun i h => .inl h))
  have hg68 := HFX.out.blk hg2 (fun h => by omega)
  go_wp2_with (first | ((with_reducible refine gate_store (p := 6) rfl ?_); refine Aside0.out ?_))
  refine ⟨?_⟩
  refine wpList_store_abs (by rfl) 40 _ _ (by rfl) (w.heap.size + 1) #[.slice Av lv cv, .int .i64 room, .bool dead, .bool true, .int .i64 n, .int .i64 tear] (by rfl) (by rfl) 40 Z6r hg68 (by kernel_rfl) (by rfl) (by simp [Value.oneCell']) ?_
  intro w9 hf9 hs9 hg9
  go_wp2
  refine bodyPost_ret (results_cell_row (by rfl) _ _ (w.heap.size + 1) 40 #[.slice Av lv cv, .int .i64 room, .bool dead, .bool true, .int .i64 n, .int .i64 tear] (0, 0) _ (by rfl) hg9 Try.underlying40 (by rfl) (by kernel_rfl)) rfl ?_
  have F9 : Fr (fun _ => False) w w9 := (HN.out.1.trans HFX.out (fun k hk => .inr (by omega))).trans hf9 (fun k hk => .inr (by omega))
  exact ⟨rfl, F9.below _ (Nat.le_refl _) (fun i h => h.elim)⟩
set_option maxHeartbeats 8000000 in
set_option maxRecDepth 100000 in
theorem rmend_ (Av : Option Addr) (lv cv : Nat) (room : Int) (dead breaks : Bool) (writes te : Int)  (w : World)  :
    Calls Try.prog 25 #[.agg #[.slice Av lv cv, .int .i64 room, .bool dead, .bool breaks, .int .i64 writes, .int .i64 te]] w fun e w' => e = .returned (.agg #[.slice Av lv cv, .int .i64 room, .bool false, .bool false, .int .i64 0, .int .i64 0]) ∧ Below w.heap.size w w' := by
  go_enter Try.func25, Try.ntmps25
  go_wp2_with (first | ((with_reducible refine gate_dst (N := 2) rfl ?_); refine Aside0.out ?_))
  refine ⟨?_⟩
  have hg1 := heap_alloc_new w (.cells #[.slice Av lv cv, .int .i64 room, .bool dead, .bool breaks, .int .i64 writes, .int .i64 te] 40)
  have hb1 := below_alloc (Below.refl w.heap.size w) (.cells #[.slice Av lv cv, .int .i64 room, .bool dead, .bool breaks, .int .i64 writes, .int .i64 te] 40)
  have z1 : (w.alloc (.cells #[.slice Av lv cv, .int .i64 room, .bool dead, .bool breaks, .int .i64 writes, .int .i64 te] 40)).heap.size = w.heap.size + 1 := by rw [World.size_alloc]
  generalize w.alloc (.cells #[.slice Av lv cv, .int .i64 room, .bool dead, .bool breaks, .int .i64 writes, .int .i64 te] 40) = w1 at *
  refine wpList_alloc_abs (by rfl) 40 (by rfl) (.agg Z6r) (by kernel_rfl) ?_
  intro w2 hb2 hs2 hg2
  have f2 := Fr.of_below hb2 (fun _ => False)
  have F2 := (Fr.of_below hb1 (fun _ => False)).trans f2 (fun _ h => h.elim)
  have hg3 := f2.blk hg1 (fun h => h)
  rw [z1] at hg2
  have HN := Aside0.mk (And.intro F2 (And.intro z1 hs2))
  have cells : w2.cell? ⟨w.heap.size, 0, none⟩ = some (.slice Av lv cv) ∧ w2.cell? ⟨w.heap.size, 1, none⟩ = some (.int .i64 room) ∧ w2.cell? ⟨w.heap.size, 2, none⟩ = some (.bool dead) ∧ w2.cell? ⟨w.heap.size, 3, none⟩ = some (.bool breaks) ∧ w2.cell? ⟨w.heap.size, 4, none⟩ = some (.int .i64 writes) ∧ w2.cell? ⟨w.heap.size, 5, none⟩ = some (.int .i64 te) := by simp [World.cell?, hg3]
  obtain ⟨k0, k1, k2, k3, k4, k5⟩ := cells
  have fz := frozenV hg3
  have fz3 := fz 3
  have fz4 := fz 4
  have fz5 := fz 5
  clear fz hb1 hb2 hg1 f2 F2
  have HFX := Aside0.mk (Fr.refl (fun k => k = w.heap.size) w2)
  have hg68 := HFX.out.blk hg2 (fun h => by omega)
  go_wp2_with (first | ((with_reducible refine gate_store (p := 2) rfl ?_); refine Aside0.out ?_))
  refine ⟨?_⟩
  refine wpList_store_abs (by rfl) 40 _ _ (by rfl) (w.heap.size + 1) #[.slice Av lv cv, .int .i64 room, .bool false, .bool false, .int .i64 0, .int .i64 0] (by rfl) (by rfl) 40 Z6r hg68 (by kernel_rfl) (by rfl) (by simp [Value.oneCell']) ?_
  intro w9 hf9 hs9 hg9
  go_wp2
  refine bodyPost_ret (results_cell_row (by rfl) _ _ (w.heap.size + 1) 40 #[.slice Av lv cv, .int .i64 room, .bool false, .bool false, .int .i64 0, .int .i64 0] (0, 0) _ (by rfl) hg9 Try.underlying40 (by rfl) (by kernel_rfl)) rfl ?_
  have F9 : Fr (fun _ => False) w w9 := (HN.out.1.trans HFX.out (fun k hk => .inr (by omega))).trans hf9 (fun k hk => .inr (by omega))
  exact ⟨rfl, F9.below _ (Nat.le_refl _) (fun i h => h.elim)⟩
theorem rbreak_calls (r : Rdk) (v : Value) (n tear : Int) (w : World) (hv : Lies w v r.bytes) :
    Calls Try.prog 24 #[.agg (rcs v r), .int .i64 n, .int .i64 tear] w fun e w' => e = .returned (.agg (rcs v (r.brk n tear))) ∧ Below w.heap.size w w' := by
  obtain ⟨bytes, room, dead, breaks, writes, te⟩ := r
  obtain ⟨Av, cv, rfl, hcv, hr⟩ := hv
  unfold Rdk.brk rcs
  by_cases hn : n < 0
  · simp only [show max 0 n = 0 by omega]
    exact rbreak_neg Av bytes.length cv room dead breaks writes te n tear w hn
  · simp only [show max 0 n = n by omega]
    exact rbreak_pos Av bytes.length cv room dead breaks writes te n tear w hn
theorem rmend_calls (r : Rdk) (v : Value) (w : World) (hv : Lies w v r.bytes) :
    Calls Try.prog 25 #[.agg (rcs v r)] w fun e w' => e = .returned (.agg (rcs v r.mend)) ∧ Below w.heap.size w w' := by
  obtain ⟨bytes, room, dead, breaks, writes, te⟩ := r
  obtain ⟨Av, cv, rfl, hcv, hr⟩ := hv
  unfold Rdk.mend rcs
  exact rmend_ Av bytes.length cv room dead breaks writes te w
theorem rroom_f (n : Int) : catenaryref11_Room.f n = some (roomI n) := by
  unfold catenaryref11_Room.f roomI
  (repeat' split) <;> (congr 1; omega)
def rdk0 (n : Int) : Rdk := ⟨[], roomI n, false, false, 0, 0⟩
set_option maxHeartbeats 8000000 in
set_option maxRecDepth 100000 in
theorem rnew_calls (n : Int) (w : World) :
    Calls Try.prog 18 #[.int .i64 n] w fun e w' => e = .returned (.agg (rcs (.slice none 0 0) (rdk0 n))) ∧ Below w.heap.size w w' := by
  unfold rdk0 rcs
  have hrm := rroom_f n
  obtain ⟨m, hm⟩ : ∃ m, roomI n = m := ⟨_, rfl⟩
  rw [hm] at hrm ⊢
  go_enter Try.func18, Try.ntmps18
  go_wp2_with (first | ((with_reducible refine gate_dst (N := 2) rfl ?_); refine wpList_alloc_abs (by rfl) 40 (by rfl) (.agg Z6r) (by kernel_rfl) ?_; intro w2 hb2 hs2 hg2))
  refine (catenaryref11_Room.calls n m w2 hrm).mono ?_
  rintro e w3 ⟨rfl, nd, hw3⟩
  have f3 : Fr (fun _ => False) w2 w3 := by rw [hw3]; exact (Fr.refl _ _).of_drewN nd
  have hg3 := f3.blk hg2 (fun h => h)
  have HB := Aside0.mk (And.intro ((Fr.of_below hb2 (fun _ => False)).trans f3 (fun _ h => h.elim)) hs2)
  clear hb2 hs2 hg2 f3 hw3
  go_wp2_with (first | ((with_reducible refine gate_store (p := 2) rfl ?_); refine Aside0.out ?_))
  refine ⟨?_⟩
  refine wpList_store_abs (by rfl) 40 _ _ (by rfl) w.heap.size #[.slice none 0 0, .int .i64 m, .bool false, .bool false, .int .i64 0, .int .i64 0] (by rfl) (by rfl) 40 Z6r hg3 (by kernel_rfl) (by rfl) (by simp [Value.oneCell']) ?_
  intro w9 hf9 hs9 hg9
  go_wp2
  refine bodyPost_ret (results_cell_row (by rfl) _ _ w.heap.size 40 #[.slice none 0 0, .int .i64 m, .bool false, .bool false, .int .i64 0, .int .i64 0] (0, 0) _ (by rfl) hg9 Try.underlying40 (by rfl) (by kernel_rfl)) rfl ?_
  have F9 : Fr (fun _ => False) w w9 := HB.out.1.trans hf9 (fun k hk => .inr (by omega))
  exact ⟨rfl, F9.below _ (Nat.le_refl _) (fun i h => h.elim)⟩
end Go.Proofs.Ytkkgjbafncmohaa.Sha
