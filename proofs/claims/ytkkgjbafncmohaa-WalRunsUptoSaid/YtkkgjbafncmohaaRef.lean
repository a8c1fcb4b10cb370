/-
  The document's disk: Write, by hand.
-/
import Derived.Test.YtkkgjbafncmohaaDk
import Derived.Test.YtkkgjbafncmohaaQx10
set_option linter.unusedVariables false
set_option linter.unusedSimpArgs false
namespace Go.Proofs.Ytkkgjbafncmohaa.Sha
open Go.RowKit Go.Proofs.YtkkgjbafncmohaaW.PrintWords Go.Proofs.YtkkgjbafncmohaaW.PrintLast Go.Proofs.YtkkgjbafncmohaaW.PrintMore Go.Proofs.Ytkkgjbafncmohaa.Q Go.Proofs.Ytkkgjbafncmohaa.Fr Go.Proofs.Ytkkgjbafncmohaa.Oct

/-- The document's disk. -/
structure Rdk where
  bytes : List Int
  room : Int
  dead : Bool
  breaks : Bool
  writes : Int
  tear : Int
/-- Its fields as a value has them; v: the bytes. -/
def rcs (v : Value) (r : Rdk) : Array Value := #[v, .int .i64 r.room, .bool r.dead, .bool r.breaks, .int .i64 r.writes, .int .i64 r.tear]
def Rdk.wr (r : Rdk) (b next : List Int) (all : Bool) : Rdk × Int :=
  if r.dead = true then (r, 115)
  else if r.room < (next.length : Int) then (r, 113)
  else if r.breaks = true ∧ r.writes = 0 then ({ r with dead := true, bytes := if all = true then r.bytes else next.take (r.bytes.length + clampN r.tear b.length) }, 115)
  else ({ r with writes := if r.breaks = true then r.writes - 1 else r.writes, bytes := next }, 0)
def Rdk.write (r : Rdk) (b : List Int) (all : Bool) : Rdk × Int := r.wr b (if all = true then b else r.bytes ++ b) all
/-- Bytes that are only read: where they may lie. -/
def Lies (w : World) (v : Value) (l : List Int) : Prop := ∃ A c, v = .slice A l.length c ∧ l.length ≤ c ∧ Rd w A l
/-- What is handed back lies where the old bytes lay, or is new. -/
def Near (N : Nat) (w' : World) (v v' : Value) : Prop := ∀ k, v'.ownBlock = some k → v.ownBlock = some k ∨ (N ≤ k ∧ k < w'.heap.size)
theorem Lies.fr {w w' : World} {v : Value} {l : List Int} {S : Nat → Prop} (h : Lies w v l) (hf : Fr S w w') (hS : ∀ k, v.ownBlock = some k → ¬ S k) : Lies w' v l := by
  obtain ⟨A, c, rfl, hc, hr⟩ := h
  exact ⟨A, c, rfl, hc, hr.fr hf (fun ad e => hS ad.block (by rw [e]; rfl))⟩
theorem Lies.own {w : World} {base : Nat} {v : Value} {l : List Int} (h : OB w base v l) : Lies w v l := by
  obtain ⟨A, c, rfl, hc⟩ := h.slice
  exact ⟨A, c, rfl, hc, QB.rd (q_of_own h)⟩
theorem rset {w : World} {g : Nat} {v : Value} {r : Rdk} {t : TypeId} (h : w.heap[g]? = some (.cells (rcs v r) t (0, 0))) : w.cell? ⟨g, 0, none⟩ = some v ∧ w.cell? ⟨g, 1, none⟩ = some (.int .i64 r.room) ∧ w.cell? ⟨g, 2, none⟩ = some (.bool r.dead) ∧ w.cell? ⟨g, 3, none⟩ = some (.bool r.breaks) ∧ w.cell? ⟨g, 4, none⟩ = some (.int .i64 r.writes) ∧ w.cell? ⟨g, 5, none⟩ = some (.int .i64 r.tear) := by
  simp [World.cell?, h, rcs]
def Z6r : Array Value := #[.slice none 0 0, .int .i64 0, .bool false, .bool false, .int .i64 0, .int .i64 0]
theorem results_cell_row_tmp {P : Program} {fn : Func} {p u : Tmp} {ty : TypeId} (h : fn.results = #[.cell p ty, .tmp u]) (tmps : Array Value) (w : World) (g : Nat) (t : TypeId) (cs : Array Value) (fr : Nat × Nat) (d : TypeDesc)
    (hp : tmps.getD p undef = .pointer (some ⟨g, 0, none⟩)) (hg : w.heap[g]? = some (.cells cs t fr))
    (hu : P.underlying ty = some d) (hd : (match d with | .struct _ | .array _ _ => true | _ => false) = true) (hi : (P.info? ty).map (·.size) = some cs.size) :
    (results fn tmps).run P w = .ok (.tuple #[.agg cs, tmps.getD u undef]) w := by
  have hp' : tmps[p]?.getD undef = .pointer (some ⟨g, 0, none⟩) := by simpa using hp
  simp [results, h, hp', asAddr, run_loadVar_row w g t ty cs fr d hg hu hd hi]
set_option maxHeartbeats 8000000 in
set_option maxRecDepth 100000 in
theorem rwrite_all_dead (bytes : List Int) (room : Int) (dead breaks : Bool) (writes tear : Int) (Av : Option Addr) (cv : Nat) (A : Option Addr) (c : Nat) (b : List Int) (w : World) (hrv : Rd w Av bytes) (hcv : bytes.length ≤ cv) (hy : Rd w A b) (hc : b.length ≤ c) (hl : bytes.length + b.length ≤ 140737488355328) (hw : -4611686018427387904 ≤ writes) (hw2 : writes ≤ 9223372036854775807) (hd : dead = true) :
    Calls Try.prog 17 #[.agg #[.slice Av bytes.length cv, .int .i64 room, .bool dead, .bool breaks, .int .i64 writes, .int .i64 tear], .slice A b.length c, .bool true] w fun e w' => ∃ v', e = .returned (.tuple #[.agg (rcs v' ⟨bytes, room, true, breaks, writes, tear⟩), .int .i64 115]) ∧ Lies w' v' (bytes) ∧ Near w.heap.size w' (.slice Av bytes.length cv) v' ∧ Below w.heap.size w w' := by
  subst hd
  have HH := Aside0.mk (And.intro hrv (And.intro hy (And.intro hl (And.intro hw (And.intro hw2 (And.intro hcv hc))))))
  clear hrv hy hl hw hw2
  go_enter Try.func17, Try.ntmps17
  go_wp2_with (first | ((with_reducible refine gate_dst (N := 6) rfl ?_); refine wpList_alloc_abs (by rfl) 40 (by rfl) (.agg Z6r) (by kernel_rfl) ?_; intro w2 hb2 hs2 hg2) | ((with_reducible refine gate_dst (N := 10) rfl ?_); refine Aside0.out ?_))
  refine ⟨?_⟩
  have hg1 := heap_alloc_new w (.cells #[.slice Av bytes.length cv, .int .i64 room, .bool true, .bool breaks, .int .i64 writes, .int .i64 tear] 40)
  have hb1 := below_alloc (Below.refl w.heap.size w) (.cells #[.slice Av bytes.length cv, .int .i64 room, .bool true, .bool breaks, .int .i64 writes, .int .i64 tear] 40)
  have z1 : (w.alloc (.cells #[.slice Av bytes.length cv, .int .i64 room, .bool true, .bool breaks, .int .i64 writes, .int .i64 tear] 40)).heap.size = w.heap.size + 1 := by rw [World.size_alloc]
  generalize w.alloc (.cells #[.slice Av bytes.length cv, .int .i64 room, .bool true, .bool breaks, .int .i64 writes, .int .i64 tear] 40) = w1 at *
  have f2 := Fr.of_below hb2 (fun _ => False)
  have F2 := (Fr.of_below hb1 (fun _ => False)).trans f2 (fun _ h => h.elim)
  have hg12 := f2.blk hg1 (fun h => h)
  refine wpList_copyb rfl (by rfl) (fun _ => by rfl) (fun _ _ => by rfl) (by first | (go_simp; done) | (go_simp; rfl)) _ (by rfl) A b.length c b (fun _ => rfl) rfl (HH.out.2.1.fr F2 (fun _ _ h => h)) _ _ (by rfl) (fun _ _ => rfl) (fun _ _ => rfl) (by have := HH.out; omega) ?_
  intro u4 v4 w4 hO4 hb4
  obtain ⟨A4, c4, rfl, hc4⟩ := hO4.slice
  have f4 := Fr.of_below hb4 (fun _ => False)
  have hg3 := f4.blk hg12 (fun h => h)
  have hg6 : w4.heap[w1.heap.size]? = some (.cells Z6r 40 (0, 0)) := f4.blk hg2 (fun h => h)
  rw [z1] at hg6
  have F4 := F2.trans f4 (fun _ h => h.elim)
  have H4 := Aside0.mk (And.intro F4 (And.intro hO4 (And.intro z1 (And.intro hs2 (f4.size)))))
  have z2 := hb2.size
  have k := set6 hg3
  have cells : w4.cell? ⟨w.heap.size, 0, none⟩ = some (.slice Av bytes.length cv) ∧ w4.cell? ⟨w.heap.size, 1, none⟩ = some (.int .i64 room) ∧ w4.cell? ⟨w.heap.size, 2, none⟩ = some (.bool true) ∧ w4.cell? ⟨w.heap.size, 3, none⟩ = some (.bool breaks) ∧ w4.cell? ⟨w.heap.size, 4, none⟩ = some (.int .i64 writes) ∧ w4.cell? ⟨w.heap.size, 5, none⟩ = some (.int .i64 tear) := by simp [World.cell?, hg3]
  obtain ⟨k0, k1, k2, k3, k4, k5⟩ := cells
  clear hO4 hb4 f4 F4 f2 F2 hg12 hb1 hb2 hg1 hg2
  have HN := Aside0.mk (And.intro H4.out.1 (And.intro (H4.out.2.1.lower (show w.heap.size + 2 ≤ w2.heap.size by have := H4.out.2.2; omega)) hc4))
  obtain ⟨A7, rfl⟩ : ∃ A7, A7 = A4 := ⟨_, rfl⟩
  obtain ⟨c7, rfl⟩ : ∃ c7, c7 = c4 := ⟨_, rfl⟩
  obtain ⟨w7, rfl⟩ : ∃ w7, w7 = w4 := ⟨_, rfl⟩
  have hg37 := hg3
  have hg67 := hg6
  clear H4 k
  go_wp2_with (first | ((with_reducible refine gate_store (p := 6) rfl ?_); refine Aside0.out ?_))
  refine ⟨?_⟩
  refine wpList_store_abs (by rfl) 40 _ _ (by rfl) (w.heap.size + 1) #[.slice Av bytes.length cv, .int .i64 room, .bool true, .bool breaks, .int .i64 writes, .int .i64 tear] (by rfl) (by rfl) 40 Z6r hg67 (by kernel_rfl) (by rfl) (by simp [Value.oneCell']) ?_
  intro w9 hf9 hs9 hg9
  go_wp2
  refine bodyPost_ret (results_cell_row_tmp (by rfl) _ _ (w.heap.size + 1) 40 #[.slice Av bytes.length cv, .int .i64 room, .bool true, .bool breaks, .int .i64 writes, .int .i64 tear] (0, 0) _ (by rfl) hg9 Try.underlying40 (by rfl) (by kernel_rfl)) rfl ?_
  have F9 : Fr (fun _ => False) w w9 := HN.out.1.trans hf9 (fun k hk => .inr (by omega))
  exact ⟨_, rfl, ⟨Av, cv, rfl, HH.out.2.2.2.2.2.1, HH.out.1.fr F9 (fun _ _ h => h)⟩, fun k hk => .inl hk, F9.below _ (Nat.le_refl _) (fun i h => h.elim)⟩
set_option maxHeartbeats 8000000 in
set_option maxRecDepth 100000 in
theorem rwrite_all_full (bytes : List Int) (room : Int) (dead breaks : Bool) (writes tear : Int) (Av : Option Addr) (cv : Nat) (A : Option Addr) (c : Nat) (b : List Int) (w : World) (hrv : Rd w Av bytes) (hcv : bytes.length ≤ cv) (hy : Rd w A b) (hc : b.length ≤ c) (hl : bytes.length + b.length ≤ 140737488355328) (hw : -4611686018427387904 ≤ writes) (hw2 : writes ≤ 9223372036854775807) (hd : dead = false) (hf : room < (b.length : Int)) :
    Calls Try.prog 17 #[.agg #[.slice Av bytes.length cv, .int .i64 room, .bool dead, .bool breaks, .int .i64 writes, .int .i64 tear], .slice A b.length c, .bool true] w fun e w' => ∃ v', e = .returned (.tuple #[.agg (rcs v' ⟨bytes, room, false, breaks, writes, tear⟩), .int .i64 113]) ∧ Lies w' v' (bytes) ∧ Near w.heap.size w' (.slice Av bytes.length cv) v' ∧ Below w.heap.size w w' := by
  subst hd
  have HF := Aside0.mk hf
  clear hf
  have HH := Aside0.mk (And.intro hrv (And.intro hy (And.intro hl (And.intro hw (And.intro hw2 (And.intro hcv hc))))))
  clear hrv hy hl hw hw2
  go_enter Try.func17, Try.ntmps17
  go_wp2_with (first | ((with_reducible refine gate_dst (N := 6) rfl ?_); refine wpList_alloc_abs (by rfl) 40 (by rfl) (.agg Z6r) (by kernel_rfl) ?_; intro w2 hb2 hs2 hg2) | ((with_reducible refine gate_dst (N := 10) rfl ?_); refine Aside0.out ?_))
  refine ⟨?_⟩
  have hg1 := heap_alloc_new w (.cells #[.slice Av bytes.length cv, .int .i64 room, .bool false, .bool breaks, .int .i64 writes, .int .i64 tear] 40)
  have hb1 := below_alloc (Below.refl w.heap.size w) (.cells #[.slice Av bytes.length cv, .int .i64 room, .bool false, .bool breaks, .int .i64 writes, .int .i64 tear] 40)
  have z1 : (w.alloc (.cells #[.slice Av bytes.length cv, .int .i64 room, .bool false, .bool breaks, .int .i64 writes, .int .i64 tear] 40)).heap.size = w.heap.size + 1 := by rw [World.size_alloc]
  generalize w.alloc (.cells #[.slice Av bytes.length cv, .int .i64 room, .bool false, .bool breaks, .int .i64 writes, .int .i64 tear] 40) = w1 at *
  have f2 := Fr.of_below hb2 (fun _ => False)
  have F2 := (Fr.of_below hb1 (fun _ => False)).trans f2 (fun _ h => h.elim)
  have hg12 := f2.blk hg1 (fun h => h)
  refine wpList_copyb rfl (by rfl) (fun _ => by rfl) (fun _ _ => by rfl) (by first | (go_simp; done) | (go_simp; rfl)) _ (by rfl) A b.length c b (fun _ => rfl) rfl (HH.out.2.1.fr F2 (fun _ _ h => h)) _ _ (by rfl) (fun _ _ => rfl) (fun _ _ => rfl) (by have := HH.out; omega) ?_
  intro u4 v4 w4 hO4 hb4
  obtain ⟨A4, c4, rfl, hc4⟩ := hO4.slice
  have f4 := Fr.of_below hb4 (fun _ => False)
  have hg3 := f4.blk hg12 (fun h => h)
  have hg6 : w4.heap[w1.heap.size]? = some (.cells Z6r 40 (0, 0)) := f4.blk hg2 (fun h => h)
  rw [z1] at hg6
  have F4 := F2.trans f4 (fun _ h => h.elim)
  have H4 := Aside0.mk (And.intro F4 (And.intro hO4 (And.intro z1 (And.intro hs2 (f4.size)))))
  have z2 := hb2.size
  have k := set6 hg3
  have cells : w4.cell? ⟨w.heap.size, 0, none⟩ = some (.slice Av bytes.length cv) ∧ w4.cell? ⟨w.heap.size, 1, none⟩ = some (.int .i64 room) ∧ w4.cell? ⟨w.heap.size, 2, none⟩ = some (.bool false) ∧ w4.cell? ⟨w.heap.size, 3, none⟩ = some (.bool breaks) ∧ w4.cell? ⟨w.heap.size, 4, none⟩ = some (.int .i64 writes) ∧ w4.cell? ⟨w.heap.size, 5, none⟩ = some (.int .i64 tear) := by simp [World.cell?, hg3]
  obtain ⟨k0, k1, k2, k3, k4, k5⟩ := cells
  clear hO4 hb4 f4 F4 f2 F2 hg12 hb1 hb2 hg1 hg2
  have HN := Aside0.mk (And.intro H4.out.1 (And.intro (H4.out.2.1.lower (show w.heap.size + 2 ≤ w2.heap.size by have := H4.out.2.2; omega)) hc4))
  obtain ⟨A7, rfl⟩ : ∃ A7, A7 = A4 := ⟨_, rfl⟩
  obtain ⟨c7, rfl⟩ : ∃ c7, c7 = c4 := ⟨_, rfl⟩
  obtain ⟨w7, rfl⟩ : ∃ w7, w7 = w4 := ⟨_, rfl⟩
  have hg37 := hg3
  have hg67 := hg6
  clear H4 k
  have cf : decide (room < (b.length : Int)) = true := decide_eq_true (by exact HF.out)
  go_wp2_with (first | ((with_reducible refine gate_store (p := 6) rfl ?_); refine Aside0.out ?_))
  refine ⟨?_⟩
  refine wpList_store_abs (by rfl) 40 _ _ (by rfl) (w.heap.size + 1) #[.slice Av bytes.length cv, .int .i64 room, .bool false, .bool breaks, .int .i64 writes, .int .i64 tear] (by rfl) (by rfl) 40 Z6r hg67 (by kernel_rfl) (by rfl) (by simp [Value.oneCell']) ?_
  intro w9 hf9 hs9 hg9
  go_wp2
  refine bodyPost_ret (results_cell_row_tmp (by rfl) _ _ (w.heap.size + 1) 40 #[.slice Av bytes.length cv, .int .i64 room, .bool false, .bool breaks, .int .i64 writes, .int .i64 tear] (0, 0) _ (by rfl) hg9 Try.underlying40 (by rfl) (by kernel_rfl)) rfl ?_
  have F9 : Fr (fun _ => False) w w9 := HN.out.1.trans hf9 (fun k hk => .inr (by omega))
  exact ⟨_, rfl, ⟨Av, cv, rfl, HH.out.2.2.2.2.2.1, HH.out.1.fr F9 (fun _ _ h => h)⟩, fun k hk => .inl hk, F9.below _ (Nat.le_refl _) (fun i h => h.elim)⟩
set_option maxHeartbeats 8000000 in
set_option maxRecDepth 100000 in
theorem rwrite_app_dead (bytes : List Int) (room : Int) (dead breaks : Bool) (writes tear : Int) (Av : Option Addr) (cv : Nat) (A : Option Addr) (c : Nat) (b : List Int) (w : World) (hrv : Rd w Av bytes) (hcv : bytes.length ≤ cv) (hy : Rd w A b) (hc : b.length ≤ c) (hl : bytes.length + b.length ≤ 140737488355328) (hw : -4611686018427387904 ≤ writes) (hw2 : writes ≤ 9223372036854775807) (hd : dead = true) :
    Calls Try.prog 17 #[.agg #[.slice Av bytes.length cv, .int .i64 room, .bool dead, .bool breaks, .int .i64 writes, .int .i64 tear], .slice A b.length c, .bool false] w fun e w' => ∃ v', e = .returned (.tuple #[.agg (rcs v' ⟨bytes, room, true, breaks, writes, tear⟩), .int .i64 115]) ∧ Lies w' v' (bytes) ∧ Near w.heap.size w' (.slice Av bytes.length cv) v' ∧ Below w.heap.size w w' := by
  subst hd
  have HH := Aside0.mk (And.intro hrv (And.intro hy (And.intro hl (And.intro hw (And.intro hw2 (And.intro hcv hc))))))
  clear hrv hy hl hw hw2
  go_enter Try.func17, Try.ntmps17
  go_wp2_with (first | ((with_reducible refine gate_dst (N := 6) rfl ?_); refine wpList_alloc_abs (by rfl) 40 (by rfl) (.agg Z6r) (by kernel_rfl) ?_; intro w2 hb2 hs2 hg2) | ((with_reducible refine gate_dst (N := 10) rfl ?_); refine Aside0.out ?_))
  refine ⟨?_⟩
  have hg1 := heap_alloc_new w (.cells #[.slice Av bytes.length cv, .int .i64 room, .bool true, .bool breaks, .int .i64 writes, .int .i64 tear] 40)
  have hb1 := below_alloc (Below.refl w.heap.size w) (.cells #[.slice Av bytes.length cv, .int .i64 room, .bool true, .bool breaks, .int .i64 writes, .int .i64 tear] 40)
  have z1 : (w.alloc (.cells #[.slice Av bytes.length cv, .int .i64 room, .bool true, .bool breaks, .int .i64 writes, .int .i64 tear] 40)).heap.size = w.heap.size + 1 := by rw [World.size_alloc]
  generalize w.alloc (.cells #[.slice Av bytes.length cv, .int .i64 room, .bool true, .bool breaks, .int .i64 writes, .int .i64 tear] 40) = w1 at *
  have f2 := Fr.of_below hb2 (fun _ => False)
  have F2 := (Fr.of_below hb1 (fun _ => False)).trans f2 (fun _ h => h.elim)
  have hg12 := f2.blk hg1 (fun h => h)
  refine wpList_copyb rfl (by rfl) (fun _ => by rfl) (fun _ _ => by rfl) (by first | (go_simp; done) | (go_simp; rfl)) _ (by rfl) A b.length c b (fun _ => rfl) rfl (HH.out.2.1.fr F2 (fun _ _ h => h)) _ _ (by rfl) (fun _ _ => rfl) (fun _ _ => rfl) (by have := HH.out; omega) ?_
  intro u4 v4 w4 hO4 hb4
  obtain ⟨A4, c4, rfl, hc4⟩ := hO4.slice
  have f4 := Fr.of_below hb4 (fun _ => False)
  have hg3 := f4.blk hg12 (fun h => h)
  have hg6 : w4.heap[w1.heap.size]? = some (.cells Z6r 40 (0, 0)) := f4.blk hg2 (fun h => h)
  rw [z1] at hg6
  have F4 := F2.trans f4 (fun _ h => h.elim)
  have H4 := Aside0.mk (And.intro F4 (And.intro hO4 (And.intro z1 (And.intro hs2 (f4.size)))))
  have z2 := hb2.size
  have k := set6 hg3
  have cells : w4.cell? ⟨w.heap.size, 0, none⟩ = some (.slice Av bytes.length cv) ∧ w4.cell? ⟨w.heap.size, 1, none⟩ = some (.int .i64 room) ∧ w4.cell? ⟨w.heap.size, 2, none⟩ = some (.bool true) ∧ w4.cell? ⟨w.heap.size, 3, none⟩ = some (.bool breaks) ∧ w4.cell? ⟨w.heap.size, 4, none⟩ = some (.int .i64 writes) ∧ w4.cell? ⟨w.heap.size, 5, none⟩ = some (.int .i64 tear) := by simp [World.cell?, hg3]
  obtain ⟨k0, k1, k2, k3, k4, k5⟩ := cells
  clear hO4 hb4 f4 F4 f2 F2 hg12 hb1 hb2 hg1 hg2
  go_wp2_with (first | ((with_reducible refine gate_dst (N := 15) rfl ?_); refine wpList_lit0 (by rfl) (by first | (go_simp; done) | (go_simp; rfl)) ?_; intro v5 w5 hO5 hb5; have k05 := (Fr.of_below hb5 (fun _ => False)).cell k0 (fun h => h)) | ((with_reducible refine gate_builtin (b := .append) (xs := #[.tmp 15, .tmp 17]) rfl ?_); at_builtin; refine Aside0.out ?_))
  refine ⟨?_⟩
  have f5 := Fr.of_below hb5 (fun _ => False)
  have F5 := H4.out.1.trans f5 (fun _ h => h.elim)
  have z5 := hb5.size
  refine wpList_appe rfl (by rfl) w4.heap.size _ _ (by rfl) infoB v5 [] (by rfl) hO5 Av bytes.length cv bytes (by rfl) rfl (HH.out.1.fr F5 (fun _ _ h => h)) (by have := HH.out; simp only [List.length_nil]; omega) z5 ?_
  intro v6 w6 hO6 hf6 _
  rw [List.nil_append] at hO6
  have f6 : Fr (fun _ => False) w4 w6 := f5.trans hf6 (fun k hk => .inr (hO5.base k hk.symm))
  have z6 := f6.size
  have H6 := Aside0.mk (And.intro f6 (And.intro hO6 (H4.out.1.trans f6 (fun _ h => h.elim))))
  clear hO5 hb5 hf6 hO6 f5 F5 f6 k05
  go_wp2_with (first | ((with_reducible refine gate_builtin (b := .append) (xs := #[.tmp 18, .tmp 19]) rfl ?_); at_builtin; refine Aside0.out ?_))
  refine ⟨?_⟩
  refine wpList_appe rfl (by rfl) w4.heap.size _ _ (by rfl) infoB v6 bytes (by rfl) H6.out.2.1 A b.length c b (by rfl) rfl (HH.out.2.1.fr H6.out.2.2 (fun _ _ h => h)) (by have := HH.out; omega) z6 ?_
  intro v7 w7 hO7 hf7 _
  have f7 : Fr (fun _ => False) w4 w7 := H6.out.1.trans hf7 (fun k hk => .inr (H6.out.2.1.base k hk.symm))
  have hg37 := f7.blk hg3 (fun h => h)
  have hg67 := f7.blk hg6 (fun h => h)
  obtain ⟨A7, c7, rfl, hc7⟩ := hO7.slice
  obtain ⟨X, hX⟩ : ∃ X, bytes ++ b = X := ⟨_, rfl⟩
  rw [hX] at hO7 hc7 ⊢
  have hXl : X.length = bytes.length + b.length := by rw [← hX, List.length_append]
  have HN := Aside0.mk (And.intro (H4.out.1.trans f7 (fun _ h => h.elim)) (And.intro (hO7.lower (show w.heap.size + 2 ≤ w4.heap.size by have := H4.out.2.2; have := H4.out.2.1.base; omega)) (And.intro hX (And.intro hXl hc7))))
  have cells7 : w7.cell? ⟨w.heap.size, 0, none⟩ = some (.slice Av bytes.length cv) ∧ w7.cell? ⟨w.heap.size, 1, none⟩ = some (.int .i64 room) ∧ w7.cell? ⟨w.heap.size, 2, none⟩ = some (.bool true) ∧ w7.cell? ⟨w.heap.size, 3, none⟩ = some (.bool breaks) ∧ w7.cell? ⟨w.heap.size, 4, none⟩ = some (.int .i64 writes) ∧ w7.cell? ⟨w.heap.size, 5, none⟩ = some (.int .i64 tear) := by simp [World.cell?, hg37]
  clear k0 k1 k2 k3 k4 k5 k H6 hO7 hf7 f7 hg3 hg6 hX hXl
  obtain ⟨k0, k1, k2, k3, k4, k5⟩ := cells7
  clear H4 hc4
  go_wp2_with (first | ((with_reducible refine gate_store (p := 6) rfl ?_); refine Aside0.out ?_))
  refine ⟨?_⟩
  refine wpList_store_abs (by rfl) 40 _ _ (by rfl) (w.heap.size + 1) #[.slice Av bytes.length cv, .int .i64 room, .bool true, .bool breaks, .int .i64 writes, .int .i64 tear] (by rfl) (by rfl) 40 Z6r hg67 (by kernel_rfl) (by rfl) (by simp [Value.oneCell']) ?_
  intro w9 hf9 hs9 hg9
  go_wp2
  refine bodyPost_ret (results_cell_row_tmp (by rfl) _ _ (w.heap.size + 1) 40 #[.slice Av bytes.length cv, .int .i64 room, .bool true, .bool breaks, .int .i64 writes, .int .i64 tear] (0, 0) _ (by rfl) hg9 Try.underlying40 (by rfl) (by kernel_rfl)) rfl ?_
  have F9 : Fr (fun _ => False) w w9 := HN.out.1.trans hf9 (fun k hk => .inr (by omega))
  exact ⟨_, rfl, ⟨Av, cv, rfl, HH.out.2.2.2.2.2.1, HH.out.1.fr F9 (fun _ _ h => h)⟩, fun k hk => .inl hk, F9.below _ (Nat.le_refl _) (fun i h => h.elim)⟩
set_option maxHeartbeats 8000000 in
set_option maxRecDepth 100000 in
theorem rwrite_app_full (bytes : List Int) (room : Int) (dead breaks : Bool) (writes tear : Int) (Av : Option Addr) (cv : Nat) (A : Option Addr) (c : Nat) (b : List Int) (w : World) (hrv : Rd w Av bytes) (hcv : bytes.length ≤ cv) (hy : Rd w A b) (hc : b.length ≤ c) (hl : bytes.length + b.length ≤ 140737488355328) (hw : -4611686018427387904 ≤ writes) (hw2 : writes ≤ 9223372036854775807) (hd : dead = false) (hf : room < ((bytes.length + b.length : Nat) : Int)) :
    Calls Try.prog 17 #[.agg #[.slice Av bytes.length cv, .int .i64 room, .bool dead, .bool breaks, .int .i64 writes, .int .i64 tear], .slice A b.length c, .bool false] w fun e w' => ∃ v', e = .returned (.tuple #[.agg (rcs v' ⟨bytes, room, false, breaks, writes, tear⟩), .int .i64 113]) ∧ Lies w' v' (bytes) ∧ Near w.heap.size w' (.slice Av bytes.length cv) v' ∧ Below w.heap.size w w' := by
  subst hd
  have HF := Aside0.mk hf
  clear hf
  have HH := Aside0.mk (And.intro hrv (And.intro hy (And.intro hl (And.intro hw (And.intro hw2 (And.intro hcv hc))))))
  clear hrv hy hl hw hw2
  go_enter Try.func17, Try.ntmps17
  go_wp2_with (first | ((with_reducible refine gate_dst (N := 6) rfl ?_); refine wpList_alloc_abs (by rfl) 40 (by rfl) (.agg Z6r) (by kernel_rfl) ?_; intro w2 hb2 hs2 hg2) | ((with_reducible refine gate_dst (N := 10) rfl ?_); refine Aside0.out ?_))
  refine ⟨?_⟩
  have hg1 := heap_alloc_new w (.cells #[.slice Av bytes.length cv, .int .i64 room, .bool false, .bool breaks, .int .i64 writes, .int .i64 tear] 40)
  have hb1 := below_alloc (Below.refl w.heap.size w) (.cells #[.slice Av bytes.length cv, .int .i64 room, .bool false, .bool breaks, .int .i64 writes, .int .i64 tear] 40)
  have z1 : (w.alloc (.cells #[.slice Av bytes.length cv, .int .i64 room, .bool false, .bool breaks, .int .i64 writes, .int .i64 tear] 40)).heap.size = w.heap.size + 1 := by rw [World.size_alloc]
  generalize w.alloc (.cells #[.slice Av bytes.length cv, .int .i64 room, .bool false, .bool breaks, .int .i64 writes, .int .i64 tear] 40) = w1 at *
  have f2 := Fr.of_below hb2 (fun _ => False)
  have F2 := (Fr.of_below hb1 (fun _ => False)).trans f2 (fun _ h => h.elim)
  have hg12 := f2.blk hg1 (fun h => h)
  refine wpList_copyb rfl (by rfl) (fun _ => by rfl) (fun _ _ => by rfl) (by first | (go_simp; done) | (go_simp; rfl)) _ (by rfl) A b.length c b (fun _ => rfl) rfl (HH.out.2.1.fr F2 (fun _ _ h => h)) _ _ (by rfl) (fun _ _ => rfl) (fun _ _ => rfl) (by have := HH.out; omega) ?_
  intro u4 v4 w4 hO4 hb4
  obtain ⟨A4, c4, rfl, hc4⟩ := hO4.slice
  have f4 := Fr.of_below hb4 (fun _ => False)
  have hg3 := f4.blk hg12 (fun h => h)
  have hg6 : w4.heap[w1.heap.size]? = some (.cells Z6r 40 (0, 0)) := f4.blk hg2 (fun h => h)
  rw [z1] at hg6
  have F4 := F2.trans f4 (fun _ h => h.elim)
  have H4 := Aside0.mk (And.intro F4 (And.intro hO4 (And.intro z1 (And.intro hs2 (f4.size)))))
  have z2 := hb2.size
  have k := set6 hg3
  have cells : w4.cell? ⟨w.heap.size, 0, none⟩ = some (.slice Av bytes.length cv) ∧ w4.cell? ⟨w.heap.size, 1, none⟩ = some (.int .i64 room) ∧ w4.cell? ⟨w.heap.size, 2, none⟩ = some (.bool false) ∧ w4.cell? ⟨w.heap.size, 3, none⟩ = some (.bool breaks) ∧ w4.cell? ⟨w.heap.size, 4, none⟩ = some (.int .i64 writes) ∧ w4.cell? ⟨w.heap.size, 5, none⟩ = some (.int .i64 tear) := by simp [World.cell?, hg3]
  obtain ⟨k0, k1, k2, k3, k4, k5⟩ := cells
  clear hO4 hb4 f4 F4 f2 F2 hg12 hb1 hb2 hg1 hg2
  go_wp2_with (first | ((with_reducible refine gate_dst (N := 15) rfl ?_); refine wpList_lit0 (by rfl) (by first | (go_simp; done) | (go_simp; rfl)) ?_; intro v5 w5 hO5 hb5; have k05 := (Fr.of_below hb5 (fun _ => False)).cell k0 (fun h => h)) | ((with_reducible refine gate_builtin (b := .append) (xs := #[.tmp 15, .tmp 17]) rfl ?_); at_builtin; refine Aside0.out ?_))
  refine ⟨?_⟩
  have f5 := Fr.of_below hb5 (fun _ => False)
  have F5 := H4.out.1.trans f5 (fun _ h => h.elim)
  have z5 := hb5.size
  refine wpList_appe rfl (by rfl) w4.heap.size _ _ (by rfl) infoB v5 [] (by rfl) hO5 Av bytes.length cv bytes (by rfl) rfl (HH.out.1.fr F5 (fun _ _ h => h)) (by have := HH.out; simp only [List.length_nil]; omega) z5 ?_
  intro v6 w6 hO6 hf6 _
  rw [List.nil_append] at hO6
  have f6 : Fr (fun _ => False) w4 w6 := f5.trans hf6 (fun k hk => .inr (hO5.base k hk.symm))
  have z6 := f6.size
  have H6 := Aside0.mk (And.intro f6 (And.intro hO6 (H4.out.1.trans f6 (fun _ h => h.elim))))
  clear hO5 hb5 hf6 hO6 f5 F5 f6 k05
  go_wp2_with (first | ((with_reducible refine gate_builtin (b := .append) (xs := #[.tmp 18, .tmp 19]) rfl ?_); at_builtin; refine Aside0.out ?_))
  refine ⟨?_⟩
  refine wpList_appe rfl (by rfl) w4.heap.size _ _ (by rfl) infoB v6 bytes (by rfl) H6.out.2.1 A b.length c b (by rfl) rfl (HH.out.2.1.fr H6.out.2.2 (fun _ _ h => h)) (by have := HH.out; omega) z6 ?_
  intro v7 w7 hO7 hf7 _
  have f7 : Fr (fun _ => False) w4 w7 := H6.out.1.trans hf7 (fun k hk => .inr (H6.out.2.1.base k hk.symm))
  have hg37 := f7.blk hg3 (fun h => h)
  have hg67 := f7.blk hg6 (fun h => h)
  obtain ⟨A7, c7, rfl, hc7⟩ := hO7.slice
  obtain ⟨X, hX⟩ : ∃ X, bytes ++ b = X := ⟨_, rfl⟩
  rw [hX] at hO7 hc7 ⊢
  have hXl : X.length = bytes.length + b.length := by rw [← hX, List.length_append]
  have HN := Aside0.mk (And.intro (H4.out.1.trans f7 (fun _ h => h.elim)) (And.intro (hO7.lower (show w.heap.size + 2 ≤ w4.heap.size by have := H4.out.2.2; have := H4.out.2.1.base; omega)) (And.intro hX (And.intro hXl hc7))))
  have cells7 : w7.cell? ⟨w.heap.size, 0, none⟩ = some (.slice Av bytes.length cv) ∧ w7.cell? ⟨w.heap.size, 1, none⟩ = some (.int .i64 room) ∧ w7.cell? ⟨w.heap.size, 2, none⟩ = some (.bool false) ∧ w7.cell? ⟨w.heap.size, 3, none⟩ = some (.bool breaks) ∧ w7.cell? ⟨w.heap.size, 4, none⟩ = some (.int .i64 writes) ∧ w7.cell? ⟨w.heap.size, 5, none⟩ = some (.int .i64 tear) := by simp [World.cell?, hg37]
  clear k0 k1 k2 k3 k4 k5 k H6 hO7 hf7 f7 hg3 hg6 hX hXl
  obtain ⟨k0, k1, k2, k3, k4, k5⟩ := cells7
  clear H4 hc4
  have cf : decide (room < (X.length : Int)) = true := decide_eq_true (by rw [HN.out.2.2.2.1]; exact HF.out)
  go_wp2_with (first | ((with_reducible refine gate_store (p := 6) rfl ?_); refine Aside0.out ?_))
  refine ⟨?_⟩
  refine wpList_store_abs (by rfl) 40 _ _ (by rfl) (w.heap.size + 1) #[.slice Av bytes.length cv, .int .i64 room, .bool false, .bool breaks, .int .i64 writes, .int .i64 tear] (by rfl) (by rfl) 40 Z6r hg67 (by kernel_rfl) (by rfl) (by simp [Value.oneCell']) ?_
  intro w9 hf9 hs9 hg9
  go_wp2
  refine bodyPost_ret (results_cell_row_tmp (by rfl) _ _ (w.heap.size + 1) 40 #[.slice Av bytes.length cv, .int .i64 room, .bool false, .bool breaks, .int .i64 writes, .int .i64 tear] (0, 0) _ (by rfl) hg9 Try.underlying40 (by rfl) (by kernel_rfl)) rfl ?_
  have F9 : Fr (fun _ => False) w w9 := HN.out.1.trans hf9 (fun k hk => .inr (by omega))
  exact ⟨_, rfl, ⟨Av, cv, rfl, HH.out.2.2.2.2.2.1, HH.out.1.fr F9 (fun _ _ h => h)⟩, fun k hk => .inl hk, F9.below _ (Nat.le_refl _) (fun i h => h.elim)⟩
set_option maxHeartbeats 8000000 in
set_option maxRecDepth 100000 in
theorem rwrite_all_ok0 (bytes : List Int) (room : Int) (dead breaks : Bool) (writes tear : Int) (Av : Option Addr) (cv : Nat) (A : Option Addr) (c : Nat) (b : List Int) (w : World) (hrv : Rd w Av bytes) (hcv : bytes.length ≤ cv) (hy : Rd w A b) (hc : b.length ≤ c) (hl : bytes.length + b.length ≤ 140737488355328) (hw : -4611686018427387904 ≤ writes) (hw2 : writes ≤ 9223372036854775807) (hd : dead = false) (hf : (b.length : Int) ≤ room) (hbk : breaks = false) :
    Calls Try.prog 17 #[.agg #[.slice Av bytes.length cv, .int .i64 room, .bool dead, .bool breaks, .int .i64 writes, .int .i64 tear], .slice A b.length c, .bool true] w fun e w' => ∃ v', e = .returned (.tuple #[.agg (rcs v' ⟨b, room, false, false, writes, tear⟩), .int .i64 0]) ∧ Lies w' v' (b) ∧ Near w.heap.size w' (.slice Av bytes.length cv) v' ∧ Below w.heap.size w w' := by
  subst hd hbk
  have HF := Aside0.mk hf
  clear hf
  have HH := Aside0.mk (And.intro hrv (And.intro hy (And.intro hl (And.intro hw (And.intro hw2 (And.intro hcv hc))))))
  clear hrv hy hl hw hw2
  go_enter Try.func17, Try.ntmps17
  go_wp2_with (first | ((with_reducible refine gate_dst (N := 6) rfl ?_); refine wpList_alloc_abs (by rfl) 40 (by rfl) (.agg Z6r) (by kernel_rfl) ?_; intro w2 hb2 hs2 hg2) | ((with_reducible refine gate_dst (N := 10) rfl ?_); refine Aside0.out ?_))
  refine ⟨?_⟩
  have hg1 := heap_alloc_new w (.cells #[.slice Av bytes.length cv, .int .i64 room, .bool false, .bool false, .int .i64 writes, .int .i64 tear] 40)
  have hb1 := below_alloc (Below.refl w.heap.size w) (.cells #[.slice Av bytes.length cv, .int .i64 room, .bool false, .bool false, .int .i64 writes, .int .i64 tear] 40)
  have z1 : (w.alloc (.cells #[.slice Av bytes.length cv, .int .i64 room, .bool false, .bool false, .int .i64 writes, .int .i64 tear] 40)).heap.size = w.heap.size + 1 := by rw [World.size_alloc]
  generalize w.alloc (.cells #[.slice Av bytes.length cv, .int .i64 room, .bool false, .bool false, .int .i64 writes, .int .i64 tear] 40) = w1 at *
  have f2 := Fr.of_below hb2 (fun _ => False)
  have F2 := (Fr.of_below hb1 (fun _ => False)).trans f2 (fun _ h => h.elim)
  have hg12 := f2.blk hg1 (fun h => h)
  refine wpList_copyb rfl (by rfl) (fun _ => by rfl) (fun _ _ => by rfl) (by first | (go_simp; done) | (go_simp; rfl)) _ (by rfl) A b.length c b (fun _ => rfl) rfl (HH.out.2.1.fr F2 (fun _ _ h => h)) _ _ (by rfl) (fun _ _ => rfl) (fun _ _ => rfl) (by have := HH.out; omega) ?_
  intro u4 v4 w4 hO4 hb4
  obtain ⟨A4, c4, rfl, hc4⟩ := hO4.slice
  have f4 := Fr.of_below hb4 (fun _ => False)
  have hg3 := f4.blk hg12 (fun h => h)
  have hg6 : w4.heap[w1.heap.size]? = some (.cells Z6r 40 (0, 0)) := f4.blk hg2 (fun h => h)
  rw [z1] at hg6
  have F4 := F2.trans f4 (fun _ h => h.elim)
  have H4 := Aside0.mk (And.intro F4 (And.intro hO4 (And.intro z1 (And.intro hs2 (f4.size)))))
  have z2 := hb2.size
  have k := set6 hg3
  have cells : w4.cell? ⟨w.heap.size, 0, none⟩ = some (.slice Av bytes.length cv) ∧ w4.cell? ⟨w.heap.size, 1, none⟩ = some (.int .i64 room) ∧ w4.cell? ⟨w.heap.size, 2, none⟩ = some (.bool false) ∧ w4.cell? ⟨w.heap.size, 3, none⟩ = some (.bool false) ∧ w4.cell? ⟨w.heap.size, 4, none⟩ = some (.int .i64 writes) ∧ w4.cell? ⟨w.heap.size, 5, none⟩ = some (.int .i64 tear) := by simp [World.cell?, hg3]
  obtain ⟨k0, k1, k2, k3, k4, k5⟩ := cells
  clear hO4 hb4 f4 F4 f2 F2 hg12 hb1 hb2 hg1 hg2
  have HN := Aside0.mk (And.intro H4.out.1 (And.intro (H4.out.2.1.lower (show w.heap.size + 2 ≤ w2.heap.size by have := H4.out.2.2; omega)) hc4))
  obtain ⟨A7, rfl⟩ : ∃ A7, A7 = A4 := ⟨_, rfl⟩
  obtain ⟨c7, rfl⟩ : ∃ c7, c7 = c4 := ⟨_, rfl⟩
  obtain ⟨w7, rfl⟩ : ∃ w7, w7 = w4 := ⟨_, rfl⟩
  have hg37 := hg3
  have hg67 := hg6
  clear H4 k
  have cf : decide (room < (b.length : Int)) = false := decide_eq_false (by exact Int.not_lt.2 HF.out)
  have fz := frozenV hg37
  have fz0 := fz 0
  have fz2 := fz 2
  have fz4 := fz 4
  clear fz
  have HFX := Aside0.mk (Fr.one w7 w.heap.size 0 (.slice A7 b.length c7))
  have hg68 := HFX.out.blk hg67 (fun h => by omega)
  go_wp2_with (first | ((with_reducible refine gate_store (p := 6) rfl ?_); refine Aside0.out ?_))
  refine ⟨?_⟩
  refine wpList_store_abs (by rfl) 40 _ _ (by rfl) (w.heap.size + 1) #[.slice A7 b.length c7, .int .i64 room, .bool false, .bool false, .int .i64 writes, .int .i64 tear] (by rfl) (by rfl) 40 Z6r hg68 (by kernel_rfl) (by rfl) (by simp [Value.oneCell']) ?_
  intro w9 hf9 hs9 hg9
  go_wp2
  refine bodyPost_ret (results_cell_row_tmp (by rfl) _ _ (w.heap.size + 1) 40 #[.slice A7 b.length c7, .int .i64 room, .bool false, .bool false, .int .i64 writes, .int .i64 tear] (0, 0) _ (by rfl) hg9 Try.underlying40 (by rfl) (by kernel_rfl)) rfl ?_
  have FX : Fr (fun k => k < w.heap.size + 2) w7 w9 := (HFX.out.mono (S' := fun k => k < w.heap.size + 2) (fun i h => by omega)).trans (hf9.mono (S' := fun k => k < w.heap.size + 2) (fun i h => by omega)) (fun i h => .inl h)
  have F9 : Fr (fun _ => False) w w9 := (HN.out.1.trans HFX.out (fun k hk => .inr (by omega))).trans hf9 (fun k hk => .inr (by omega))
  exact ⟨_, rfl, ⟨A7, c7, rfl, HN.out.2.2, (QB.rd (q_of_own HN.out.2.1)).fr FX (fun ad e h => by have := HN.out.2.1.base ad.block (by rw [e]; rfl); omega)⟩, fun k hk => .inr ⟨by have := HN.out.2.1.base k hk; omega, Nat.lt_of_lt_of_le (q_lt (q_of_own HN.out.2.1) k hk) (Nat.le_trans HFX.out.size hf9.size)⟩, F9.below _ (Nat.le_refl _) (fun i h => h.elim)⟩
set_option maxHeartbeats 8000000 in
set_option maxRecDepth 100000 in
theorem rwrite_all_ok1 (bytes : List Int) (room : Int) (dead breaks : Bool) (writes tear : Int) (Av : Option Addr) (cv : Nat) (A : Option Addr) (c : Nat) (b : List Int) (w : World) (hrv : Rd w Av bytes) (hcv : bytes.length ≤ cv) (hy : Rd w A b) (hc : b.length ≤ c) (hl : bytes.length + b.length ≤ 140737488355328) (hw : -4611686018427387904 ≤ writes) (hw2 : writes ≤ 9223372036854775807) (hd : dead = false) (hf : (b.length : Int) ≤ room) (hbk : breaks = true) (hw0 : ¬ writes = 0) :
    Calls Try.prog 17 #[.agg #[.slice Av bytes.length cv, .int .i64 room, .bool dead, .bool breaks, .int .i64 writes, .int .i64 tear], .slice A b.length c, .bool true] w fun e w' => ∃ v', e = .returned (.tuple #[.agg (rcs v' ⟨b, room, false, true, (writes - 1), tear⟩), .int .i64 0]) ∧ Lies w' v' (b) ∧ Near w.heap.size w' (.slice Av bytes.length cv) v' ∧ Below w.heap.size w w' := by
  subst hd hbk
  have cw : decide (writes = 0) = false := decide_eq_false hw0
  have cw' : ¬ writes = 0 := hw0
  have cw3 : (writes == 0) = false := by simpa using hw0
  have hw1 : wrap64 (writes - 1) = writes - 1 := by clear cw cw' cw3; unfold wrap64; omega
  have HW1 := Aside0.mk hw1
  clear hw1
  have HF := Aside0.mk hf
  clear hf
  have HH := Aside0.mk (And.intro hrv (And.intro hy (And.intro hl (And.intro hw (And.intro hw2 (And.intro hcv hc))))))
  clear hrv hy hl hw hw2
  go_enter Try.func17, Try.ntmps17
  go_wp2_with (first | ((with_reducible refine gate_dst (N := 6) rfl ?_); refine wpList_alloc_abs (by rfl) 40 (by rfl) (.agg Z6r) (by kernel_rfl) ?_; intro w2 hb2 hs2 hg2) | ((with_reducible refine gate_dst (N := 10) rfl ?_); refine Aside0.out ?_))
  refine ⟨?_⟩
  have hg1 := heap_alloc_new w (.cells #[.slice Av bytes.length cv, .int .i64 room, .bool false, .bool true, .int .i64 writes, .int .i64 tear] 40)
  have hb1 := below_alloc (Below.refl w.heap.size w) (.cells #[.slice Av bytes.length cv, .int .i64 room, .bool false, .bool true, .int .i64 writes, .int .i64 tear] 40)
  have z1 : (w.alloc (.cells #[.slice Av bytes.length cv, .int .i64 room, .bool false, .bool true, .int .i64 writes, .int .i64 tear] 40)).heap.size = w.heap.size + 1 := by rw [World.size_alloc]
  generalize w.alloc (.cells #[.slice Av bytes.length cv, .int .i64 room, .bool false, .bool true, .int .i64 writes, .int .i64 tear] 40) = w1 at *
  have f2 := Fr.of_below hb2 (fun _ => False)
  have F2 := (Fr.of_below hb1 (fun _ => False)).trans f2 (fun _ h => h.elim)
  have hg12 := f2.blk hg1 (fun h => h)
  refine wpList_copyb rfl (by rfl) (fun _ => by rfl) (fun _ _ => by rfl) (by first | (go_simp; done) | (go_simp; rfl)) _ (by rfl) A b.length c b (fun _ => rfl) rfl (HH.out.2.1.fr F2 (fun _ _ h => h)) _ _ (by rfl) (fun _ _ => rfl) (fun _ _ => rfl) (by have := HH.out; omega) ?_
  intro u4 v4 w4 hO4 hb4
  obtain ⟨A4, c4, rfl, hc4⟩ := hO4.slice
  have f4 := Fr.of_below hb4 (fun _ => False)
  have hg3 := f4.blk hg12 (fun h => h)
  have hg6 : w4.heap[w1.heap.size]? = some (.cells Z6r 40 (0, 0)) := f4.blk hg2 (fun h => h)
  rw [z1] at hg6
  have F4 := F2.trans f4 (fun _ h => h.elim)
  have H4 := Aside0.mk (And.intro F4 (And.intro hO4 (And.intro z1 (And.intro hs2 (f4.size)))))
  have z2 := hb2.size
  have k := set6 hg3
  have cells : w4.cell? ⟨w.heap.size, 0, none⟩ = some (.slice Av bytes.length cv) ∧ w4.cell? ⟨w.heap.size, 1, none⟩ = some (.int .i64 room) ∧ w4.cell? ⟨w.heap.size, 2, none⟩ = some (.bool false) ∧ w4.cell? ⟨w.heap.size, 3, none⟩ = some (.bool true) ∧ w4.cell? ⟨w.heap.size, 4, none⟩ = some (.int .i64 writes) ∧ w4.cell? ⟨w.heap.size, 5, none⟩ = some (.int .i64 tear) := by simp [World.cell?, hg3]
  obtain ⟨k0, k1, k2, k3, k4, k5⟩ := cells
  clear hO4 hb4 f4 F4 f2 F2 hg12 hb1 hb2 hg1 hg2
  have HN := Aside0.mk (And.intro H4.out.1 (And.intro (H4.out.2.1.lower (show w.heap.size + 2 ≤ w2.heap.size by have := H4.out.2.2; omega)) hc4))
  obtain ⟨A7, rfl⟩ : ∃ A7, A7 = A4 := ⟨_, rfl⟩
  obtain ⟨c7, rfl⟩ : ∃ c7, c7 = c4 := ⟨_, rfl⟩
  obtain ⟨w7, rfl⟩ : ∃ w7, w7 = w4 := ⟨_, rfl⟩
  have hg37 := hg3
  have hg67 := hg6
  clear H4 k
  have cf : decide (room < (b.length : Int)) = false := decide_eq_false (by exact Int.not_lt.2 HF.out)
  have fz := frozenV hg37
  have fz0 := fz 0
  have fz2 := fz 2
  have fz4 := fz 4
  clear fz
  have HFX := Aside0.mk ((Fr.one w7 w.heap.size 4 (.int .i64 (writes - 1))).trans (Fr.one (w7.setCell ⟨w.heap.size, 4, none⟩ (.int .i64 (writes - 1))) w.heap.size 0 (.slice A7 b.length c7)) (fun i h => .inl h))
  have hg68 := HFX.out.blk hg67 (fun h => by omega)
  have hw1 := HW1.out
  go_wp2_with (first | ((with_reducible refine gate_store (p := 6) rfl ?_); refine Aside0.out ?_))
  refine ⟨?_⟩
  refine wpList_store_abs (by rfl) 40 _ _ (by rfl) (w.heap.size + 1) #[.slice A7 b.length c7, .int .i64 room, .bool false, .bool true, .int .i64 (writes - 1), .int .i64 tear] (by rfl) (by rfl) 40 Z6r hg68 (by kernel_rfl) (by rfl) (by simp [Value.oneCell']) ?_
  intro w9 hf9 hs9 hg9
  go_wp2
  refine bodyPost_ret (results_cell_row_tmp (by rfl) _ _ (w.heap.size + 1) 40 #[.slice A7 b.length c7, .int .i64 room, .bool false, .bool true, .int .i64 (writes - 1), .int .i64 tear] (0, 0) _ (by rfl) hg9 Try.underlying40 (by rfl) (by kernel_rfl)) rfl ?_
  have FX : Fr (fun k => k < w.heap.size + 2) w7 w9 := (HFX.out.mono (S' := fun k => k < w.heap.size + 2) (fun i h => by omega)).trans (hf9.mono (S' := fun k => k < w.heap.size + 2) (fun i h => by omega)) (fun i h => .inl h)
  have F9 : Fr (fun _ => False) w w9 := (HN.out.1.trans HFX.out (fun k hk => .inr (by omega))).trans hf9 (fun k hk => .inr (by omega))
  exact ⟨_, rfl, ⟨A7, c7, rfl, HN.out.2.2, (QB.rd (q_of_own HN.out.2.1)).fr FX (fun ad e h => by have := HN.out.2.1.base ad.block (by rw [e]; rfl); omega)⟩, fun k hk => .inr ⟨by have := HN.out.2.1.base k hk; omega, Nat.lt_of_lt_of_le (q_lt (q_of_own HN.out.2.1) k hk) (Nat.le_trans HFX.out.size hf9.size)⟩, F9.below _ (Nat.le_refl _) (fun i h => h.elim)⟩
set_option maxHeartbeats 8000000 in
set_option maxRecDepth 100000 in
theorem rwrite_app_ok0 (bytes : List Int) (room : Int) (dead breaks : Bool) (writes tear : Int) (Av : Option Addr) (cv : Nat) (A : Option Addr) (c : Nat) (b : List Int) (w : World) (hrv : Rd w Av bytes) (hcv : bytes.length ≤ cv) (hy : Rd w A b) (hc : b.length ≤ c) (hl : bytes.length + b.length ≤ 140737488355328) (hw : -4611686018427387904 ≤ writes) (hw2 : writes ≤ 9223372036854775807) (hd : dead = false) (hf : ((bytes.length + b.length : Nat) : Int) ≤ room) (hbk : breaks = false) :
    Calls Try.prog 17 #[.agg #[.slice Av bytes.length cv, .int .i64 room, .bool dead, .bool breaks, .int .i64 writes, .int .i64 tear], .slice A b.length c, .bool false] w fun e w' => ∃ v', e = .returned (.tuple #[.agg (rcs v' ⟨bytes ++ b, room, false, false, writes, tear⟩), .int .i64 0]) ∧ Lies w' v' (bytes ++ b) ∧ Near w.heap.size w' (.slice Av bytes.length cv) v' ∧ Below w.heap.size w w' := by
  subst hd hbk
  have HF := Aside0.mk hf
  clear hf
  have HH := Aside0.mk (And.intro hrv (And.intro hy (And.intro hl (And.intro hw (And.intro hw2 (And.intro hcv hc))))))
  clear hrv hy hl hw hw2
  go_enter Try.func17, Try.ntmps17
  go_wp2_with (first | ((with_reducible refine gate_dst (N := 6) rfl ?_); refine wpList_alloc_abs (by rfl) 40 (by rfl) (.agg Z6r) (by kernel_rfl) ?_; intro w2 hb2 hs2 hg2) | ((with_reducible refine gate_dst (N := 10) rfl ?_); refine Aside0.out ?_))
  refine ⟨?_⟩
  have hg1 := heap_alloc_new w (.cells #[.slice Av bytes.length cv, .int .i64 room, .bool false, .bool false, .int .i64 writes, .int .i64 tear] 40)
  have hb1 := below_alloc (Below.refl w.heap.size w) (.cells #[.slice Av bytes.length cv, .int .i64 room, .bool false, .bool false, .int .i64 writes, .int .i64 tear] 40)
  have z1 : (w.alloc (.cells #[.slice Av bytes.length cv, .int .i64 room, .bool false, .bool false, .int .i64 writes, .int .i64 tear] 40)).heap.size = w.heap.size + 1 := by rw [World.size_alloc]
  generalize w.alloc (.cells #[.slice Av bytes.length cv, .int .i64 room, .bool false, .bool false, .int .i64 writes, .int .i64 tear] 40) = w1 at *
  have f2 := Fr.of_below hb2 (fun _ => False)
  have F2 := (Fr.of_below hb1 (fun _ => False)).trans f2 (fun _ h => h.elim)
  have hg12 := f2.blk hg1 (fun h => h)
  refine wpList_copyb rfl (by rfl) (fun _ => by rfl) (fun _ _ => by rfl) (by first | (go_simp; done) | (go_simp; rfl)) _ (by rfl) A b.length c b (fun _ => rfl) rfl (HH.out.2.1.fr F2 (fun _ _ h => h)) _ _ (by rfl) (fun _ _ => rfl) (fun _ _ => rfl) (by have := HH.out; omega) ?_
  intro u4 v4 w4 hO4 hb4
  obtain ⟨A4, c4, rfl, hc4⟩ := hO4.slice
  have f4 := Fr.of_below hb4 (fun _ => False)
  have hg3 := f4.blk hg12 (fun h => h)
  have hg6 : w4.heap[w1.heap.size]? = some (.cells Z6r 40 (0, 0)) := f4.blk hg2 (fun h => h)
  rw [z1] at hg6
  have F4 := F2.trans f4 (fun _ h => h.elim)
  have H4 := Aside0.mk (And.intro F4 (And.intro hO4 (And.intro z1 (And.intro hs2 (f4.size)))))
  have z2 := hb2.size
  have k := set6 hg3
  have cells : w4.cell? ⟨w.heap.size, 0, none⟩ = some (.slice Av bytes.length cv) ∧ w4.cell? ⟨w.heap.size, 1, none⟩ = some (.int .i64 room) ∧ w4.cell? ⟨w.heap.size, 2, none⟩ = some (.bool false) ∧ w4.cell? ⟨w.heap.size, 3, none⟩ = some (.bool false) ∧ w4.cell? ⟨w.heap.size, 4, none⟩ = some (.int .i64 writes) ∧ w4.cell? ⟨w.heap.size, 5, none⟩ = some (.int .i64 tear) := by simp [World.cell?, hg3]
  obtain ⟨k0, k1, k2, k3, k4, k5⟩ := cells
  clear hO4 hb4 f4 F4 f2 F2 hg12 hb1 hb2 hg1 hg2
  go_wp2_with (first | ((with_reducible refine gate_dst (N := 15) rfl ?_); refine wpList_lit0 (by rfl) (by first | (go_simp; done) | (go_simp; rfl)) ?_; intro v5 w5 hO5 hb5; have k05 := (Fr.of_below hb5 (fun _ => False)).cell k0 (fun h => h)) | ((with_reducible refine gate_builtin (b := .append) (xs := #[.tmp 15, .tmp 17]) rfl ?_); at_builtin; refine Aside0.out ?_))
  refine ⟨?_⟩
  have f5 := Fr.of_below hb5 (fun _ => False)
  have F5 := H4.out.1.trans f5 (fun _ h => h.elim)
  have z5 := hb5.size
  refine wpList_appe rfl (by rfl) w4.heap.size _ _ (by rfl) infoB v5 [] (by rfl) hO5 Av bytes.length cv bytes (by rfl) rfl (HH.out.1.fr F5 (fun _ _ h => h)) (by have := HH.out; simp only [List.length_nil]; omega) z5 ?_
  intro v6 w6 hO6 hf6 _
  rw [List.nil_append] at hO6
  have f6 : Fr (fun _ => False) w4 w6 := f5.trans hf6 (fun k hk => .inr (hO5.base k hk.symm))
  have z6 := f6.size
  have H6 := Aside0.mk (And.intro f6 (And.intro hO6 (H4.out.1.trans f6 (fun _ h => h.elim))))
  clear hO5 hb5 hf6 hO6 f5 F5 f6 k05
  go_wp2_with (first | ((with_reducible refine gate_builtin (b := .append) (xs := #[.tmp 18, .tmp 19]) rfl ?_); at_builtin; refine Aside0.out ?_))
  refine ⟨?_⟩
  refine wpList_appe rfl (by rfl) w4.heap.size _ _ (by rfl) infoB v6 bytes (by rfl) H6.out.2.1 A b.length c b (by rfl) rfl (HH.out.2.1.fr H6.out.2.2 (fun _ _ h => h)) (by have := HH.out; omega) z6 ?_
  intro v7 w7 hO7 hf7 _
  have f7 : Fr (fun _ => False) w4 w7 := H6.out.1.trans hf7 (fun k hk => .inr (H6.out.2.1.base k hk.symm))
  have hg37 := f7.blk hg3 (fun h => h)
  have hg67 := f7.blk hg6 (fun h => h)
  obtain ⟨A7, c7, rfl, hc7⟩ := hO7.slice
  obtain ⟨X, hX⟩ : ∃ X, bytes ++ b = X := ⟨_, rfl⟩
  rw [hX] at hO7 hc7 ⊢
  have hXl : X.length = bytes.length + b.length := by rw [← hX, List.length_append]
  have HN := Aside0.mk (And.intro (H4.out.1.trans f7 (fun _ h => h.elim)) (And.intro (hO7.lower (show w.heap.size + 2 ≤ w4.heap.size by have := H4.out.2.2; have := H4.out.2.1.base; omega)) (And.intro hX (And.intro hXl hc7))))
  have cells7 : w7.cell? ⟨w.heap.size, 0, none⟩ = some (.slice Av bytes.length cv) ∧ w7.cell? ⟨w.heap.size, 1, none⟩ = some (.int .i64 room) ∧ w7.cell? ⟨w.heap.size, 2, none⟩ = some (.bool false) ∧ w7.cell? ⟨w.heap.size, 3, none⟩ = some (.bool false) ∧ w7.cell? ⟨w.heap.size, 4, none⟩ = some (.int .i64 writes) ∧ w7.cell? ⟨w.heap.size, 5, none⟩ = some (.int .i64 tear) := by simp [World.cell?, hg37]
  clear k0 k1 k2 k3 k4 k5 k H6 hO7 hf7 f7 hg3 hg6 hX hXl
  obtain ⟨k0, k1, k2, k3, k4, k5⟩ := cells7
  clear H4 hc4
  have cf : decide (room < (X.length : Int)) = false := decide_eq_false (by rw [HN.out.2.2.2.1]; exact Int.not_lt.2 HF.out)
  have fz := frozenV hg37
  have fz0 := fz 0
  have fz2 := fz 2
  have fz4 := fz 4
  clear fz
  have HFX := Aside0.mk (Fr.one w7 w.heap.size 0 (.slice A7 X.length c7))
  have hg68 := HFX.out.blk hg67 (fun h => by omega)
  go_wp2_with (first | ((with_reducible refine gate_store (p := 6) rfl ?_); refine Aside0.out ?_))
  refine ⟨?_⟩
  refine wpList_store_abs (by rfl) 40 _ _ (by rfl) (w.heap.size + 1) #[.slice A7 X.length c7, .int .i64 room, .bool false, .bool false, .int .i64 writes, .int .i64 tear] (by rfl) (by rfl) 40 Z6r hg68 (by kernel_rfl) (by rfl) (by simp [Value.oneCell']) ?_
  intro w9 hf9 hs9 hg9
  go_wp2
  refine bodyPost_ret (results_cell_row_tmp (by rfl) _ _ (w.heap.size + 1) 40 #[.slice A7 X.length c7, .int .i64 room, .bool false, .bool false, .int .i64 writes, .int .i64 tear] (0, 0) _ (by rfl) hg9 Try.underlying40 (by rfl) (by kernel_rfl)) rfl ?_
  have FX : Fr (fun k => k < w.heap.size + 2) w7 w9 := (HFX.out.mono (S' := fun k => k < w.heap.size + 2) (fun i h => by omega)).trans (hf9.mono (S' := fun k => k < w.heap.size + 2) (fun i h => by omega)) (fun i h => .inl h)
  have F9 : Fr (fun _ => False) w w9 := (HN.out.1.trans HFX.out (fun k hk => .inr (by omega))).trans hf9 (fun k hk => .inr (by omega))
  exact ⟨_, rfl, (by rw [HN.out.2.2.1]; exact ⟨A7, c7, rfl, HN.out.2.2.2.2, (QB.rd (q_of_own HN.out.2.1)).fr FX (fun ad e h => by have := HN.out.2.1.base ad.block (by rw [e]; rfl); omega)⟩), fun k hk => .inr ⟨by have := HN.out.2.1.base k hk; omega, Nat.lt_of_lt_of_le (q_lt (q_of_own HN.out.2.1) k hk) (Nat.le_trans HFX.out.size hf9.size)⟩, F9.below _ (Nat.le_refl _) (fun i h => h.elim)⟩
set_option maxHeartbeats 8000000 in
set_option maxRecDepth 100000 in
theorem rwrite_app_ok1 (bytes : List Int) (room : Int) (dead breaks : Bool) (writes tear : Int) (Av : Option Addr) (cv : Nat) (A : Option Addr) (c : Nat) (b : List Int) (w : World) (hrv : Rd w Av bytes) (hcv : bytes.length ≤ cv) (hy : Rd w A b) (hc : b.length ≤ c) (hl : bytes.length + b.length ≤ 140737488355328) (hw : -4611686018427387904 ≤ writes) (hw2 : writes ≤ 9223372036854775807) (hd : dead = false) (hf : ((bytes.length + b.length : Nat) : Int) ≤ room) (hbk : breaks = true) (hw0 : ¬ writes = 0) :
    Calls Try.prog 17 #[.agg #[.slice Av bytes.length cv, .int .i64 room, .bool dead, .bool breaks, .int .i64 writes, .int .i64 tear], .slice A b.length c, .bool false] w fun e w' => ∃ v', e = .returned (.tuple #[.agg (rcs v' ⟨bytes ++ b, room, false, true, (writes - 1), tear⟩), .int .i64 0]) ∧ Lies w' v' (bytes ++ b) ∧ Near w.heap.size w' (.slice Av bytes.length cv) v' ∧ Below w.heap.size w w' := by
  subst hd hbk
  have cw : decide (writes = 0) = false := decide_eq_false hw0
  have cw' : ¬ writes = 0 := hw0
  have cw3 : (writes == 0) = false := by simpa using hw0
  have hw1 : wrap64 (writes - 1) = writes - 1 := by clear cw cw' cw3; unfold wrap64; omega
  have HW1 := Aside0.mk hw1
  clear hw1
  have HF := Aside0.mk hf
  clear hf
  have HH := Aside0.mk (And.intro hrv (And.intro hy (And.intro hl (And.intro hw (And.intro hw2 (And.intro hcv hc))))))
  clear hrv hy hl hw hw2
  go_enter Try.func17, Try.ntmps17
  go_wp2_with (first | ((with_reducible refine gate_dst (N := 6) rfl ?_); refine wpList_alloc_abs (by rfl) 40 (by rfl) (.agg Z6r) (by kernel_rfl) ?_; intro w2 hb2 hs2 hg2) | ((with_reducible refine gate_dst (N := 10) rfl ?_); refine Aside0.out ?_))
  refine ⟨?_⟩
  have hg1 := heap_alloc_new w (.cells #[.slice Av bytes.length cv, .int .i64 room, .bool false, .bool true, .int .i64 writes, .int .i64 tear] 40)
  have hb1 := below_alloc (Below.refl w.heap.size w) (.cells #[.slice Av bytes.length cv, .int .i64 room, .bool false, .bool true, .int .i64 writes, .int .i64 tear] 40)
  have z1 : (w.alloc (.cells #[.slice Av bytes.length cv, .int .i64 room, .bool false, .bool true, .int .i64 writes, .int .i64 tear] 40)).heap.size = w.heap.size + 1 := by rw [World.size_alloc]
  generalize w.alloc (.cells #[.slice Av bytes.length cv, .int .i64 room, .bool false, .bool true, .int .i64 writes, .int .i64 tear] 40) = w1 at *
  have f2 := Fr.of_below hb2 (fun _ => False)
  have F2 := (Fr.of_below hb1 (fun _ => False)).trans f2 (fun _ h => h.elim)
  have hg12 := f2.blk hg1 (fun h => h)
  refine wpList_copyb rfl (by rfl) (fun _ => by rfl) (fun _ _ => by rfl) (by first | (go_simp; done) | (go_simp; rfl)) _ (by rfl) A b.length c b (fun _ => rfl) rfl (HH.out.2.1.fr F2 (fun _ _ h => h)) _ _ (by rfl) (fun _ _ => rfl) (fun _ _ => rfl) (by have := HH.out; omega) ?_
  intro u4 v4 w4 hO4 hb4
  obtain ⟨A4, c4, rfl, hc4⟩ := hO4.slice
  have f4 := Fr.of_below hb4 (fun _ => False)
  have hg3 := f4.blk hg12 (fun h => h)
  have hg6 : w4.heap[w1.heap.size]? = some (.cells Z6r 40 (0, 0)) := f4.blk hg2 (fun h => h)
  rw [z1] at hg6
  have F4 := F2.trans f4 (fun _ h => h.elim)
  have H4 := Aside0.mk (And.intro F4 (And.intro hO4 (And.intro z1 (And.intro hs2 (f4.size)))))
  have z2 := hb2.size
  have k := set6 hg3
  have cells : w4.cell? ⟨w.heap.size, 0, none⟩ = some (.slice Av bytes.length cv) ∧ w4.cell? ⟨w.heap.size, 1, none⟩ = some (.int .i64 room) ∧ w4.cell? ⟨w.heap.size, 2, none⟩ = some (.bool false) ∧ w4.cell? ⟨w.heap.size, 3, none⟩ = some (.bool true) ∧ w4.cell? ⟨w.heap.size, 4, none⟩ = some (.int .i64 writes) ∧ w4.cell? ⟨w.heap.size, 5, none⟩ = some (.int .i64 tear) := by simp [World.cell?, hg3]
  obtain ⟨k0, k1, k2, k3, k4, k5⟩ := cells
  clear hO4 hb4 f4 F4 f2 F2 hg12 hb1 hb2 hg1 hg2
  go_wp2_with (first | ((with_reducible refine gate_dst (N := 15) rfl ?_); refine wpList_lit0 (by rfl) (by first | (go_simp; done) | (go_simp; rfl)) ?_; intro v5 w5 hO5 hb5; have k05 := (Fr.of_below hb5 (fun _ => False)).cell k0 (fun h => h)) | ((with_reducible refine gate_builtin (b := .append) (xs := #[.tmp 15, .tmp 17]) rfl ?_); at_builtin; refine Aside0.out ?_))
  refine ⟨?_⟩
  have f5 := Fr.of_below hb5 (fun _ => False)
  have F5 := H4.out.1.trans f5 (fun _ h => h.elim)
  have z5 := hb5.size
  refine wpList_appe rfl (by rfl) w4.heap.size _ _ (by rfl) infoB v5 [] (by rfl) hO5 Av bytes.length cv bytes (by rfl) rfl (HH.out.1.fr F5 (fun _ _ h => h)) (by have := HH.out; simp only [List.length_nil]; omega) z5 ?_
  intro v6 w6 hO6 hf6 _
  rw [List.nil_append] at hO6
  have f6 : Fr (fun _ => False) w4 w6 := f5.trans hf6 (fun k hk => .inr (hO5.base k hk.symm))
  have z6 := f6.size
  have H6 := Aside0.mk (And.intro f6 (And.intro hO6 (H4.out.1.trans f6 (fun _ h => h.elim))))
  clear hO5 hb5 hf6 hO6 f5 F5 f6 k05
  go_wp2_with (first | ((with_reducible refine gate_builtin (b := .append) (xs := #[.tmp 18, .tmp 19]) rfl ?_); at_builtin; refine Aside0.out ?_))
  refine ⟨?_⟩
  refine wpList_appe rfl (by rfl) w4.heap.size _ _ (by rfl) infoB v6 bytes (by rfl) H6.out.2.1 A b.length c b (by rfl) rfl (HH.out.2.1.fr H6.out.2.2 (fun _ _ h => h)) (by have := HH.out; omega) z6 ?_
  intro v7 w7 hO7 hf7 _
  have f7 : Fr (fun _ => False) w4 w7 := H6.out.1.trans hf7 (fun k hk => .inr (H6.out.2.1.base k hk.symm))
  have hg37 := f7.blk hg3 (fun h => h)
  have hg67 := f7.blk hg6 (fun h => h)
  obtain ⟨A7, c7, rfl, hc7⟩ := hO7.slice
  obtain ⟨X, hX⟩ : ∃ X, bytes ++ b = X := ⟨_, rfl⟩
  rw [hX] at hO7 hc7 ⊢
  have hXl : X.length = bytes.length + b.length := by rw [← hX, List.length_append]
  have HN := Aside0.mk (And.intro (H4.out.1.trans f7 (fun _ h => h.elim)) (And.intro (hO7.lower (show w.heap.size + 2 ≤ w4.heap.size by have := H4.out.2.2; have := H4.out.2.1.base; omega)) (And.intro hX (And.intro hXl hc7))))
  have cells7 : w7.cell? ⟨w.heap.size, 0, none⟩ = some (.slice Av bytes.length cv) ∧ w7.cell? ⟨w.heap.size, 1, none⟩ = some (.int .i64 room) ∧ w7.cell? ⟨w.heap.size, 2, none⟩ = some (.bool false) ∧ w7.cell? ⟨w.heap.size, 3, none⟩ = some (.bool true) ∧ w7.cell? ⟨w.heap.size, 4, none⟩ = some (.int .i64 writes) ∧ w7.cell? ⟨w.heap.size, 5, none⟩ = some (.int .i64 tear) := by simp [World.cell?, hg37]
  clear k0 k1 k2 k3 k4 k5 k H6 hO7 hf7 f7 hg3 hg6 hX hXl
  obtain ⟨k0, k1, k2, k3, k4, k5⟩ := cells7
  clear H4 hc4
  have cf : decide (room < (X.length : Int)) = false := decide_eq_false (by rw [HN.out.2.2.2.1]; exact Int.not_lt.2 HF.out)
  have fz := frozenV hg37
  have fz0 := fz 0
  have fz2 := fz 2
  have fz4 := fz 4
  clear fz
  have HFX := Aside0.mk ((Fr.one w7 w.heap.size 4 (.int .i64 (writes - 1))).trans (Fr.one (w7.setCell ⟨w.heap.size, 4, none⟩ (.int .i64 (writes - 1))) w.heap.size 0 (.slice A7 X.length c7)) (fun i h => .inl h))
  have hg68 := HFX.out.blk hg67 (fun h => by omega)
  have hw1 := HW1.out
  go_wp2_with (first | ((with_reducible refine gate_store (p := 6) rfl ?_); refine Aside0.out ?_))
  refine ⟨?_⟩
  refine wpList_store_abs (by rfl) 40 _ _ (by rfl) (w.heap.size + 1) #[.slice A7 X.length c7, .int .i64 room, .bool false, .bool true, .int .i64 (writes - 1), .int .i64 tear] (by rfl) (by rfl) 40 Z6r hg68 (by kernel_rfl) (by rfl) (by simp [Value.oneCell']) ?_
  intro w9 hf9 hs9 hg9
  go_wp2
  refine bodyPost_ret (results_cell_row_tmp (by rfl) _ _ (w.heap.size + 1) 40 #[.slice A7 X.length c7, .int .i64 room, .bool false, .bool true, .int .i64 (writes - 1), .int .i64 tear] (0, 0) _ (by rfl) hg9 Try.underlying40 (by rfl) (by kernel_rfl)) rfl ?_
  have FX : Fr (fun k => k < w.heap.size + 2) w7 w9 := (HFX.out.mono (S' := fun k => k < w.heap.size + 2) (fun i h => by omega)).trans (hf9.mono (S' := fun k => k < w.heap.size + 2) (fun i h => by omega)) (fun i h => .inl h)
  have F9 : Fr (fun _ => False) w w9 := (HN.out.1.trans HFX.out (fun k hk => .inr (by omega))).trans hf9 (fun k hk => .inr (by omega))
  exact ⟨_, rfl, (by rw [HN.out.2.2.1]; exact ⟨A7, c7, rfl, HN.out.2.2.2.2, (QB.rd (q_of_own HN.out.2.1)).fr FX (fun ad e h => by have := HN.out.2.1.base ad.block (by rw [e]; rfl); omega)⟩), fun k hk => .inr ⟨by have := HN.out.2.1.base k hk; omega, Nat.lt_of_lt_of_le (q_lt (q_of_own HN.out.2.1) k hk) (Nat.le_trans HFX.out.size hf9.size)⟩, F9.below _ (Nat.le_refl _) (fun i h => h.elim)⟩
end Go.Proofs.Ytkkgjbafncmohaa.Sha
