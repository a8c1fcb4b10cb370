/-
  The document's disk: Break, Mend, New.
-/
import Derived.Test.YtgcajmkbdhjooaaRefB
import Derived.Test.YtgcajmkbdhjooaaQx10
set_option linter.unusedVariables false
set_option linter.unusedSimpArgs false
namespace Go.Proofs.Ytgcajmkbdhjooaa.Sha
open Go.RowKit Go.Proofs.YtgcajmkbdhjooaaW.PrintWords Go.Proofs.YtgcajmkbdhjooaaW.PrintLast Go.Proofs.YtgcajmkbdhjooaaW.PrintMore Go.Proofs.Ytgcajmkbdhjooaa.Q Go.Proofs.Ytgcajmkbdhjooaa.Fr Go.Proofs.Ytgcajmkbdhjooaa.Oct

set_option maxHeartbeats 8000000 in
set_option maxRecDepth 100000 in
theorem rbreak_neg (Av : Option Addr) (lv cv : Nat) (room : Int) (dead breaks : Bool) (writes te : Int) (n tear : Int) (w : World) (hn : n < 0) :
    Calls Try.prog 29 #[.agg #[.slice Av lv cv, .int .i64 room, .bool dead, .bool breaks, .int .i64 writes, .int .i64 te], .int .i64 n, .int .i64 tear] w fun e w' => e = .returned (.agg #[.slice Av lv cv, .int .i64 room, .bool dead, .bool true, .int .i64 0, .int .i64 tear]) ∧ Below w.heap.size w w' := by
  have cn : decide (n < 0) = true := by simpa using hn
  have cn' := hn
  go_enter Try.func29, Try.ntmps29
  go_wp2_with (first | ((with_reducible refine gate_dst (N := 6) rfl ?_); refine Aside0.out ?_))
  refine ⟨?_⟩
  have hg1 := heap_alloc_new w (.cells #[.slice Av lv cv, .int .i64 room, .bool dead, .bool breaks, .int .i64 writes, .int .i64 te] 45)
  have hb1 := below_alloc (Below.refl w.heap.size w) (.cells #[.slice Av lv cv, .int .i64 room, .bool dead, .bool breaks, .int .i64 writes, .int .i64 te] 45)
  have z1 : (w.alloc (.cells #[.slice Av lv cv, .int .i64 room, .bool dead, .bool breaks, .int .i64 writes, .int .i64 te] 45)).heap.size = w.heap.size + 1 := by rw [World.size_alloc]
  generalize w.alloc (.cells #[.slice Av lv cv, .int .i64 room, .bool dead, .bool breaks, .int .i64 writes, .int .i64 te] 45) = w1 at *
  refine wpList_alloc_abs (by rfl) 45 (by rfl) (.agg Z6r) (by kernel_rfl) ?_
  intro w2 hb2 hs2 hg2
  have f2 := Fr.of_below hb2 (fun _ => False)
  have F2 := (Fr.of_below hb1 (fun _ => False)).trans f2 (fun _ h => h.elim)
  have hg3 := f2.blk hg1 (fun h => h)
  rw [z1] at hg2
  have HN := Aside0.mk (And.intro F2 (And.intro z1 hs2))
  have cells : w2.cell? ⟨w.heap.size, 0, none⟩ = some (.slice Av lv cv) ∧ w2.cell? ⟨w.heap.size, 1, none⟩ = some (.int .i64 room) ∧ w2.cell? ⟨w.heap.size, 2, none⟩ = some (.bool dead) ∧ w2.cell? ⟨w.heap.size, 3, none⟩ = some (.bool breaks) ∧ w2.cell? ⟨w.heap.size, 4, none⟩ = some (.int .i64 writes) ∧ w2.cell? ⟨w.heap.size, 5, none⟩ = some (.int .i64 te) := by simp [World.cell?, hg3]
  obtain ⟨k0, k1, k2, k3, k4, k5⟩ := cells
  have fz := frozenV hg3
  have fz3 := fz 3
  have fz4 := fz 4
  have fz5 := fz 5
  clear fz hb1 hb2 hg1 f2 F2
  have HFX := Aside0.mk (((Fr.one w2 w.heap.size 3 (.bool true)).trans (Fr.one (w2.setCell ⟨w.heap.size, 3, none⟩ (.bool true)) w.heap.size 4 (.int .i64 0)) (fun i h => .inl h)).trans (Fr.one ((w2.setCell ⟨w.heap.size, 3, none⟩ (.bool true)).setCell ⟨w.heap.size, 4, none⟩ (.int .i64 0)) w.heap.size 5 (.int .i64 tear)) (fun i h => .inl h))
  have hg68 := HFX.out.blk hg2 (fun h => by omega)
  go_wp2_with (first | ((with_reducible refine gate_store (p := 6) rfl ?_); refine Aside0.out ?_))
  refine ⟨?_⟩
  refine wpList_store_abs (by rfl) 45 _ _ (by rfl) (w.heap.size + 1) #[.slice Av lv cv, .int .i64 room, .bool dead, .bool true, .int .i64 0, .int .i64 tear] (by rfl) (by rfl) 45 Z6r hg68 (by kernel_rfl) (by rfl) (by simp [Value.oneCell']) ?_
  intro w9 hf9 hs9 hg9
  go_wp2
  refine bodyPost_ret (results_cell_row (by rfl) _ _ (w.heap.size + 1) 45 #[.slice Av lv cv, .int .i64 room, .bool dead, .bool true, .int .i64 0, .int .i64 tear] (0, 0) _ (by rfl) hg9 Try.underlying45 (by rfl) (by kernel_rfl)) rfl ?_
  have F9 : Fr (fun _ => False) w w9 := (HN.out.1.trans HFX.out (fun k hk => .inr (by omega))).trans hf9 (fun k hk => .inr (by omega))
  exact ⟨rfl, F9.below _ (Nat.le_refl _) (fun i h => h.elim)⟩
set_option maxHeartbeats 8000000 in
set_option maxRecDepth 100000 in
theorem rbreak_pos (Av : Option Addr) (lv cv : Nat) (room : Int) (dead breaks : Bool) (writes te : Int) (n tear : Int) (w : World) (hn : ¬ n < 0) :
    Calls Try.prog 29 #[.agg #[.slice Av lv cv, .int .i64 room, .bool dead, .bool breaks, .int .i64 writes, .int .i64 te], .int .i64 n, .int .i64 tear] w fun e w' => e = .returned (.agg #[.slice Av lv cv, .int .i64 room, .bool dead, .bool true, .int .i64 n, .int .i64 tear]) ∧ Below w.heap.size w w' := by
  have cn : decide (n < 0) = false := by simpa using hn
  have cn' := hn
  go_enter Try.func29, Try.ntmps29
  go_wp2_with (first | ((with_reducible refine gate_dst (N := 6) rfl ?_); refine Aside0.out ?_))
  refine ⟨?_⟩
  have hg1 := heap_alloc_new w (.cells #[.slice Av lv cv, .int .i64 room, .bool dead, .bool breaks, .int .i64 writes, .int .i64 te] 45)
  have hb1 := below_alloc (Below.refl w.heap.size w) (.cells #[.slice Av lv cv, .int .i64 room, .bool dead, .bool breaks, .int .i64 writes, .int .i64 te] 45)
  have z1 : (w.alloc (.cells #[.slice Av lv cv, .int .i64 room, .bool dead, .bool breaks, .int .i64 writes, .int .i64 te] 45)).heap.size = w.heap.size + 1 := by rw [World.size_alloc]
  generalize w.alloc (.cells #[.slice Av lv cv, .int .i64 room, .bool dead, .bool breaks, .int .i64 writes, .int .i64 te] 45) = w1 at *
  refine wpList_alloc_abs (by rfl) 45 (by rfl) (.agg Z6r) (by kernel_rfl) ?_
  intro w2 hb2 hs2 hg2
  have f2 := Fr.of_below hb2 (fun _ => False)
  have F2 := (Fr.of_below hb1 (fun _ => False)).trans f2 (fun _ h => h.elim)
  have hg3 := f2.blk hg1 (fun h => h)
  rw [z1] at hg2
  have HN := Aside0.mk (And.intro F2 (And.intro z1 hs2))
  have cells : w2.cell? ⟨w.heap.size, 0, none⟩ = some (.slice Av lv cv) ∧ w2.cell? ⟨w.heap.size, 1, none⟩ = some (.int .i64 room) ∧ w2.cell? ⟨w.heap.size, 2, none⟩ = some (.bool dead) ∧ w2.cell? ⟨w.heap.size, 3, none⟩ = some (.bool breaks) ∧ w2.cell? ⟨w.heap.size, 4, none⟩ = some (.int .i64 writes) ∧ w2.cell? ⟨w.heap.size, 5, none⟩ = some (.int .i64 te) := by simp [World.cell?, hg3]
  obtain ⟨k0, k1, k2, k3, k4, k5⟩ := cells
  have fz := frozenV hg3
  have fz3 := fz 3
  have fz4 := fz 4
  have fz5 := fz 5
  clear fz hb1 hb2 hg1 f2 F2
  have HFX := Aside0.mk (((Fr.one w2 w.heap.size 3 (.bool true)).trans (Fr.one (w2.setCell ⟨w.heap.size, 3, none⟩ (.bool true)) w.heap.size 4 (.int .i64 n)) (fun i h => .inl h)).trans (Fr.one ((w2.setCell ⟨w.heap.size, 3, none⟩ (.bool true)).setCell ⟨w.heap.size, 4, none⟩ (.int .i64 n)) w.heap.size 5 (.int .i64 tear)) (fun i h => .inl h))
  have hg68 := HFX.out.blk hg2 (fun h => by omega)
  go_wp2_with (first | ((with_reducible refine gate_store (p := 6) rfl ?_); refine Aside0.out ?_))
  refine ⟨?_⟩
  refine wpList_store_abs (by rfl) 45 _ _ (by rfl) (w.heap.size + 1) #[.slice Av lv cv, .int .i64 room, .bool dead, .bool true, .int .i64 n, .int .i64 tear] (by rfl) (by rfl) 45 Z6r hg68 (by kernel_rfl) (by rfl) (by simp [Value.oneCell']) ?_
  intro w9 hf9 hs9 hg9
  go_wp2
  refine bodyPost_ret (results_cell_row (by rfl) _ _ (w.heap.size + 1) 45 #[.slice Av lv cv, .int .i64 room, .bool dead, .bool true, .int .i64 n, .int .i64 tear] (0, 0) _ (by rfl) hg9 Try.underlying45 (by rfl) (by kernel_rfl)) rfl ?_
  have F9 : Fr (fun _ => False) w w9 := (HN.out.1.trans HFX.out (fun k hk => .inr (by omega))).trans hf9 (fun k hk => .inr (by omega))
  exact ⟨rfl, F9.below _ (Nat.le_refl _) (fun i h => h.elim)⟩
set_option maxHeartbeats 8000000 in
set_option maxRecDepth 100000 in
theorem rmend_ (Av : Option Addr) (lv cv : Nat) (room : Int) (dead breaks : Bool) (writes te : Int)  (w : World)  :
    Calls Try.prog 31 #[.agg #[.slice Av lv cv, .int .i64 room, .bool dead, .bool breaks, .int .i64 writes, .int .i64 te]] w fun e w' => e = .returned (.agg #[.slice Av lv cv, .int .i64 room, .bool false, .bool false, .int .i64 0, .int .i64 0]) ∧ Below w.heap.size w w' := by
  go_enter Try.func31, Try.ntmps31
  go_wp2_with (first | ((with_reducible refine gate_dst (N := 2) rfl ?_); refine Aside0.out ?_))
  refine ⟨?_⟩
  have hg1 := heap_alloc_new w (.cells #[.slice Av lv cv, .int .i64 room, .bool dead, .bool breaks, .int .i64 writes, .int .i64 te] 45)
  have hb1 := below_alloc (Below.refl w.heap.size w) (.cells #[.slice Av lv cv, .int .i64 room, .bool dead, .bool breaks, .int .i64 writes, .int .i64 te] 45)
  have z1 : (w.alloc (.cells #[.slice Av lv cv, .int .i64 room, .bool dead, .bool breaks, .int .i64 writes, .int .i64 te] 45)).heap.size = w.heap.size + 1 := by rw [World.size_alloc]
  generalize w.alloc (.cells #[.slice Av lv cv, .int .i64 room, .bool dead, .bool breaks, .int .i64 writes, .int .i64 te] 45) = w1 at *
  refine wpList_alloc_abs (by rfl) 45 (by rfl) (.agg Z6r) (by kernel_rfl) ?_
  intro w2 hb2 hs2 hg2
  have f2 := Fr.of_below hb2 (fun _ => False)
  have F2 := (Fr.of_below hb1 (fun _ => False)).trans f2 (fun _ h => h.elim)
  have hg3 := f2.blk hg1 (fun h => h)
  rw [z1] at hg2
  have HN := Aside0.mk (And.intro F2 (And.intro z1 hs2))
  have cells : w2.cell? ⟨w.heap.size, 0, none⟩ = some (.slice Av lv cv) ∧ w2.cell? ⟨w.heap.size, 1, none⟩ = some (.int .i64 room) ∧ w2.cell? ⟨w.heap.size, 2, none⟩ = some (.bool dead) ∧ w2.cell? ⟨w.heap.size, 3, none⟩ = some (.bool breaks) ∧ w2.cell? ⟨w.heap.size, 4, none⟩ = some (.int .i64 writes) ∧ w2.cell? ⟨w.heap.size, 5, none⟩ = some (.int .i64 te) := by simp [World.cell?, hg3]
  obtain ⟨k0, k1, k2, k3, k4, k5⟩ := cells
  have fz := frozenV hg3
  have fz3 := fz 3
  have fz4 := fz 4
  have fz5 := fz 5
  clear fz hb1 hb2 hg1 f2 F2
  have HFX := Aside0.mk (Fr.refl (fun k => k = w.heap.size) w2)
  have hg68 := HFX.out.blk hg2 (fun h => by omega)
  go_wp2_with (first | ((with_reducible refine gate_store (p := 2) rfl ?_); refine Aside0.out ?_))
  refine ⟨?_⟩
  refine wpList_store_abs (by rfl) 45 _ _ (by rfl) (w.heap.size + 1) #[.slice Av lv cv, .int .i64 room, .bool false, .bool false, .int .i64 0, .int .i64 0] (by rfl) (by rfl) 45 Z6r hg68 (by kernel_rfl) (by rfl) (by simp [Value.oneCell']) ?_
  intro w9 hf9 hs9 hg9
  go_wp2
  refine bodyPost_ret (results_cell_row (by rfl) _ _ (w.heap.size + 1) 45 #[.slice Av lv cv, .int .i64 room, .bool false, .bool false, .int .i64 0, .int .i64 0] (0, 0) _ (by rfl) hg9 Try.underlying45 (by rfl) (by kernel_rfl)) rfl ?_
  have F9 : Fr (fun _ => False) w w9 := (HN.out.1.trans HFX.out (fun k hk => .inr (by omega))).trans hf9 (fun k hk => .inr (by omega))
  exact ⟨rfl, F9.below _ (Nat.le_refl _) (fun i h => h.elim)⟩
theorem rbreak_calls (r : Rdk) (v : Value) (n tear : Int) (w : World) (hv : Lies w v r.bytes) :
    Calls Try.prog 29 #[.agg (rcs v r), .int .i64 n, .int .i64 tear] w fun e w' => e = .returned (.agg (rcs v (r.brk n tear))) ∧ Below w.heap.size w w' := by
  obtain ⟨bytes, room, dead, breaks, writes, te⟩ := r
  obtain ⟨Av, cv, rfl, hcv, hr⟩ := hv
  unfold Rdk.brk rcs
  by_cases hn : n < 0
  · simp only [show max 0 n = 0 by omega]
    exact rbreak_neg Av bytes.length cv room dead breaks writes te n tear w hn
  · simp only [show max 0 n = n by omega]
    exact rbreak_pos Av bytes.length cv room dead breaks writes te n tear w hn
theorem rmend_calls (r : Rdk) (v : Value) (w : World) (hv : Lies w v r.bytes) :
    Calls Try.prog 31 #[.agg (rcs v r)] w fun e w' => e = .returned (.agg (rcs v r.mend)) ∧ Below w.heap.size w w' := by
  obtain ⟨bytes, room, dead, breaks, writes, te⟩ := r
  obtain ⟨Av, cv, rfl, hcv, hr⟩ := hv
  unfold Rdk.mend rcs
  exact rmend_ Av bytes.length cv room dead breaks writes te w
theorem rroom_f (n : Int) : catenaryref11_Room.f n = some (roomI n) := by
  unfold catenaryref11_Room.f roomI
  (repeat' split) <;> (congr 1; omega)
def rdk0 (n : Int) : Rdk := ⟨[], roomI n, false, false, 0, 0⟩
set_option maxHeartbeats 8000000 in
set_option maxRecDepth 100000 in
theorem rnew_calls (n : Int) (w : World) :
    Calls Try.prog 26 #[.int .i64 n] w fun e w' => e = .returned (.agg (rcs (.slice none 0 0) (rdk0 n))) ∧ Below w.heap.size w w' := by
  unfold rdk0 rcs
  have hrm := rroom_f n
  obtain ⟨m, hm⟩ : ∃ m, roomI n = m := ⟨_, rfl⟩
  rw [hm] at hrm ⊢
  go_enter Try.func26, Try.ntmps26
  go_wp2_with (first | ((with_reducible refine gate_dst (N := 2) rfl ?_); refine wpList_alloc_abs (by rfl) 45 (by rfl) (.agg Z6r) (by kernel_rfl) ?_; intro w2 hb2 hs2 hg2))
  refine (catenaryref11_Room.calls n m w2 hrm).mono ?_
  rintro e w3 ⟨rfl, nd, hw3⟩
  have f3 : Fr (fun _ => False) w2 w3 := by rw [hw3]; exact (Fr.refl _ _).of_drewN nd
  have hg3 := f3.blk hg2 (fun h => h)
  have HB := Aside0.mk (And.intro ((Fr.of_below hb2 (fun _ => False)).trans f3 (fun _ h => h.elim)) hs2)
  clear hb2 hs2 hg2 f3 hw3
  go_wp2_with (first | ((with_reducible refine gate_store (p := 2) rfl ?_); refine Aside0.out ?_))
  refine ⟨?_⟩
  refine wpList_store_abs (by rfl) 45 _ _ (by rfl) w.heap.size #[.slice none 0 0, .int .i64 m, .bool false, .bool false, .int .i64 0, .int .i64 0] (by rfl) (by rfl) 45 Z6r hg3 (by kernel_rfl) (by rfl) (by simp [Value.oneCell']) ?_
  intro w9 hf9 hs9 hg9
  go_wp2
  refine bodyPost_ret (results_cell_row (by rfl) _ _ w.heap.size 45 #[.slice none 0 0, .int .i64 m, .bool false, .bool false, .int .i64 0, .int .i64 0] (0, 0) _ (by rfl) hg9 Try.underlying45 (by rfl) (by kernel_rfl)) rfl ?_
  have F9 : Fr (fun _ => False) w w9 := HB.out.1.trans hf9 (fun k hk => .inr (by omega))
  exact ⟨rfl, F9.below _ (Nat.le_refl _) (fun i h => h.elim)⟩
end Go.Proofs.Ytgcajmkbdhjooaa.Sha
