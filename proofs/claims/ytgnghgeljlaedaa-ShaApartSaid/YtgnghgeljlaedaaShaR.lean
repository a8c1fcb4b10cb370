/-
  A hash that goes on: New, Write.
-/
import Derived.Test.YtgnghgeljlaedaaShaO
set_option linter.unusedVariables false
set_option linter.unusedSimpArgs false
namespace Go.Proofs.Ytgnghgeljlaedaa.Sha
open Go.RowKit Go.Proofs.YtgnghgeljlaedaaW.PrintWords Go.Proofs.YtgnghgeljlaedaaW.PrintLast Go.Proofs.YtgnghgeljlaedaaW.PrintMore Go.Proofs.Ytgnghgeljlaedaa.Q Go.Proofs.Ytgnghgeljlaedaa.Fr Go.Proofs.Ytgnghgeljlaedaa.Oct

/-- A hash's own block: the words, what is left, the size. -/
structure HashAt (w : World) (g base : Nat) (rv : Value) (S rest : List Int) (n : Int) : Prop where
  heap : w.heap[g]? = some (.cells (encs (Value.int .u32) S ++ [rv, .int .u64 n]).toArray 57 (0, 0))
  len : S.length = 8
  row : QB w base rv rest
  ne : rv.ownBlock ≠ some g
theorem cells_hash {w : World} {g : Nat} {rv : Value} {S : List Int} {n : Int} (hS : S.length = 8) (h : w.heap[g]? = some (.cells (encs (Value.int .u32) S ++ [rv, .int .u64 n]).toArray 57 (0, 0))) : w.cell? ⟨g, 8, none⟩ = some rv ∧ w.cell? ⟨g, 9, none⟩ = some (.int .u64 n) := by
  obtain ⟨va, vb, vc, vd, ve, vf, vg, vh, rfl⟩ := eight hS
  simp [World.cell?, h, encs]
theorem set_hash8 {w : World} {g : Nat} {rv : Value} {S : List Int} {n : Int} (hS : S.length = 8) (h : w.heap[g]? = some (.cells (encs (Value.int .u32) S ++ [rv, .int .u64 n]).toArray 57 (0, 0))) (v : Value) : (w.setCell ⟨g, 8, none⟩ v).heap[g]? = some (.cells (encs (Value.int .u32) S ++ [v, .int .u64 n]).toArray 57 (0, 0)) := by
  obtain ⟨va, vb, vc, vd, ve, vf, vg, vh, rfl⟩ := eight hS
  rw [setCell_eq_setRow w g 8 _ _ (0, 0) v h, setRow_heap w g _ _ _ _ h]
  rfl
theorem set_hash9 {w : World} {g : Nat} {rv : Value} {S : List Int} {n : Int} (hS : S.length = 8) (h : w.heap[g]? = some (.cells (encs (Value.int .u32) S ++ [rv, .int .u64 n]).toArray 57 (0, 0))) (v : Value) : (w.setCell ⟨g, 9, none⟩ v).heap[g]? = some (.cells (encs (Value.int .u32) S ++ [rv, v]).toArray 57 (0, 0)) := by
  obtain ⟨va, vb, vc, vd, ve, vf, vg, vh, rfl⟩ := eight hS
  rw [setCell_eq_setRow w g 9 _ _ (0, 0) v h, setRow_heap w g _ _ _ _ h]
  rfl

def S0T : Array Value := (encs (Value.int .u32) S0).toArray
def H0T : Array Value := (encs (Value.int .u32) S0 ++ [Value.slice none 0 0, Value.int .u64 0]).toArray
set_option maxHeartbeats 8000000 in
set_option maxRecDepth 100000 in
theorem start_calls (w : World) : Calls Try.prog 36 #[] w fun e w' => e = .returned (.agg S0T) ∧ Below w.heap.size w w' := by
  go_enter Try.func36, Try.ntmps36
  go_wp2_with (first | ((with_reducible refine gate_dst (N := 0) rfl ?_); refine wpList_alloc_abs (by rfl) 53 (by rfl) (.agg Z8) (by kernel_rfl) ?_; intro w1 hb1 hs1 hg1) | ((with_reducible refine gate_dst (N := 1) rfl ?_); refine wpList_build_abs (by rfl) 53 _ (by rfl) S0T (by kernel_rfl) ?_) | ((with_reducible refine gate_store (p := 0) rfl ?_); refine wpList_store_abs (by rfl) 53 _ _ (by rfl) w.heap.size S0T (by rfl) (by rfl) 53 Z8 hg1 (by kernel_rfl) (by decide +kernel) (by decide +kernel) ?_; intro w2 hf2 hs2 hg2))
  refine bodyPost_ret (results_cell_row (by rfl) _ _ w.heap.size 53 S0T (0, 0) _ (by rfl) hg2 Try.underlying53 (by rfl) (by kernel_rfl)) rfl ?_
  exact ⟨rfl, (Fr.of_below hb1 (fun _ => False)).trans hf2 (fun i h => .inr (by omega)) |>.below _ (Nat.le_refl _) (fun i h => h.elim)⟩
set_option maxHeartbeats 8000000 in
set_option maxRecDepth 100000 in
theorem New_calls (w : World) : Calls Try.prog 16 #[] w fun e w' => ∃ g, e = .returned (.pointer (some ⟨g, 0, none⟩)) ∧ w.heap.size ≤ g ∧ HashAt w' g w.heap.size (.slice none 0 0) S0 [] 0 ∧ Below w.heap.size w w' := by
  go_enter Try.func16, Try.ntmps16
  go_wp2_with (fail)
  refine (start_calls w).mono ?_
  rintro e w1 ⟨rfl, hb1⟩
  go_wp2_with (first | ((with_reducible refine gate_dst (N := 2) rfl ?_); refine wpList_build_abs (by rfl) 57 _ (by rfl) H0T (by kernel_rfl) ?_) | ((with_reducible refine gate_dst (N := 3) rfl ?_); refine wpList_box_abs (by rfl) 57 _ (by rfl) H0T (by rfl) ?_; intro w2 hb2 hs2 hg2))
  go_ret
  have := hb1.size
  exact ⟨_, rfl, hb1.size, ⟨hg2, rfl, QB.nil _ _, by simp [Value.ownBlock]⟩, ((Fr.of_below hb1 (fun _ => False)).trans (Fr.of_below hb2 (fun _ => False)) (fun i h => h.elim)).below _ (Nat.le_refl _) (fun i h => h.elim)⟩
end Go.Proofs.Ytgnghgeljlaedaa.Sha
