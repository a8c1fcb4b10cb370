/-
  A disk in a law: it lies apart from all that was there; the chapter's example.
-/
import Derived.Test.YtgcajmkbdhjooaaDk
import Derived.Lib.SmallJoins
import Derived.Laws.BytesArg
set_option linter.unusedVariables false
set_option linter.unusedSimpArgs false
namespace Go.Proofs.Ytgcajmkbdhjooaa.Sha
open Go.RowKit Go.Proofs.YtgcajmkbdhjooaaW.PrintWords Go.Proofs.YtgcajmkbdhjooaaW.PrintLast Go.Proofs.YtgcajmkbdhjooaaW.PrintMore Go.Proofs.Ytgcajmkbdhjooaa.Q Go.Proofs.Ytgcajmkbdhjooaa.Fr Go.Proofs.Ytgcajmkbdhjooaa.Oct

set_option maxHeartbeats 8000000 in
set_option maxRecDepth 100000 in
theorem alive_calls (w : World) : Calls Try.prog 21 #[] w fun e w' => e = .returned (.bool true) ∧ Below w.heap.size w w' := by
  go_enter Try.func21, Try.ntmps21
  go_wp2_with (fail)
  refine (dnew_calls 10 w).mono ?_
  rintro e w1 ⟨g, rfl, hD1, hb1⟩
  have h1 : Dk w w1 g _ _ := Dk.new (Fr.refl _ _) hD1 hb1
  have H1 := Aside0.mk h1
  clear hD1 hb1 h1
  have kc := Go.Joins.run_convert_bytes_const_at (P := Try.prog) w1 23 5 (encs (Value.int .u8) [97, 98]).toArray 2 2 w1.heap.size rfl Try.underlying23 Try.underlying5
  simp only [encs, List.map_cons, List.map_nil, List.size_toArray, List.length_cons, List.length_nil] at kc
  go_wp2_with (fail)
  have hr2 : Rd (w1.alloc (.cells (encs (Value.int .u8) [97, 98]).toArray 5 (2, 3))) (some ⟨w1.heap.size, 0, none⟩) [97, 98] := Rd.mark (heap_alloc_new _ _)
  have h2 : Dk w (w1.alloc (.cells (encs (Value.int .u8) [97, 98]).toArray 5 (2, 3))) g _ _ := H1.out.below (below_alloc (Below.refl w1.heap.size w1) _)
  have e2 : (dsk0 10).app [97, 98] = (0, ⟨[97, 98], 10, false, false, -1, 0⟩) := by kernel_rfl
  refine (app_calls g w.heap.size _ _ (some ⟨w1.heap.size, 0, none⟩) 2 [97, 98] _ h2.at' h2.F.size hr2 (by simp) (by simp) (fun ad e => by cases e; have := H1.out.ne; show w1.heap.size ≠ g; omega) (by decide) (by decide)).mono ?_
  rintro e w3 ⟨rfl, hf3, bv3, hD3, hn3⟩
  rw [e2] at hD3 ⊢
  have H3 := Aside0.mk (h2.call hf3 hD3)
  clear H1 hr2 h2 e2 hf3 hD3 hn3 kc
  go_wp2_with (fail)
  refine (break_calls g w.heap.size bv3 _ 0 1 w3 H3.out.at').mono ?_
  rintro e w4 ⟨rfl, hf4, hD4⟩
  have H4 := Aside0.mk (H3.out.call1 hf4 hD4)
  clear H3 hf4 hD4
  have kc := Go.Joins.run_convert_bytes_const_at (P := Try.prog) w4 23 5 (encs (Value.int .u8) [99, 100]).toArray 2 2 w4.heap.size rfl Try.underlying23 Try.underlying5
  simp only [encs, List.map_cons, List.map_nil, List.size_toArray, List.length_cons, List.length_nil] at kc
  go_wp2_with (fail)
  have hr5 : Rd (w4.alloc (.cells (encs (Value.int .u8) [99, 100]).toArray 5 (2, 3))) (some ⟨w4.heap.size, 0, none⟩) [99, 100] := Rd.mark (heap_alloc_new _ _)
  have h5 : Dk w (w4.alloc (.cells (encs (Value.int .u8) [99, 100]).toArray 5 (2, 3))) g bv3 (Dsk.brk ⟨[97, 98], 10, false, false, -1, 0⟩ 0 1) := H4.out.below (below_alloc (Below.refl w4.heap.size w4) _)
  have e5 : (Dsk.brk ⟨[97, 98], 10, false, false, -1, 0⟩ 0 1).app [99, 100] = (115, ⟨[97, 98, 99], 10, true, true, 0, 1⟩) := by kernel_rfl
  refine (app_calls g w.heap.size bv3 _ (some ⟨w4.heap.size, 0, none⟩) 2 [99, 100] _ h5.at' h5.F.size hr5 (by simp) (by simp) (fun ad e => by cases e; have := H4.out.ne; show w4.heap.size ≠ g; omega) (by decide) (by decide)).mono ?_
  rintro e w6 ⟨rfl, hf6, bv6, hD6, hn6⟩
  rw [e5] at hD6 ⊢
  have H6 := Aside0.mk (h5.call hf6 hD6)
  clear H4 hr5 h5 e5 hf6 hD6 hn6 kc
  go_wp2_with (fail)
  refine (dead_calls g w.heap.size bv6 _ w6 H6.out.at').mono ?_
  rintro e w7 ⟨rfl, rfl⟩
  go_wp2_with (fail)
  refine (mend_calls g w.heap.size bv6 _ w7 H6.out.at').mono ?_
  rintro e w8 ⟨rfl, hf8, hD8⟩
  have H8 := Aside0.mk (H6.out.call1 hf8 hD8)
  clear H6 hf8 hD8
  go_wp2_with (fail)
  refine (dead_calls g w.heap.size bv6 _ w8 H8.out.at').mono ?_
  rintro e w9 ⟨rfl, rfl⟩
  rw [show (Dsk.mend ⟨[97, 98, 99], 10, true, true, 0, 1⟩).dead = false from rfl]
  go_wp2_with (fail)
  refine (bytes_calls g w.heap.size bv6 _ w9 H8.out.at').mono ?_
  rintro e w10 ⟨v10, rfl, hO10, hb10⟩
  have hO10 : OB w10 w9.heap.size v10 [97, 98, 99] := hO10
  obtain ⟨g2, c2, rfl⟩ := hO10.form (by decide)
  have kr := run_convert_bytes_arg (P := Try.prog) w10 23 5 Try.underlying23 Try.underlying5 g2 0 3 c2 [97, 98, 99] rfl (fun i hi => by
    have := (QB.rd (q_of_own hO10)).cells (i : Int) (by omega) (by simp; omega)
    rw [Int.toNat_natCast, add_at] at this
    exact this)
  have H10 := Aside0.mk (H8.out.below hb10)
  clear H8 hO10 hb10
  have kr9 := kr 9 Try.underlying9
  rw [show strOfNums [97, 98, 99] = ⟨#[97, 98, 99]⟩ from by kernel_rfl] at kr9
  clear kr
  simp only [List.length_cons, List.length_nil]
  go_wp2
  go_ret
  exact ⟨by first | rfl | simp, H10.out.F.below _ (Nat.le_refl _) (fun i h => h.elim)⟩
set_option maxHeartbeats 8000000 in
set_option maxRecDepth 100000 in
theorem names_row (w : World) : Calls Try.prog 6 #[] w fun e w' => e = .returned (.bool true) ∧ Below w.heap.size w w' := by
  go_enter Try.func6, Try.ntmps6
  go_wp2_with (fail)
  refine (alive_calls w).mono ?_
  rintro e w1 ⟨rfl, hb1⟩
  have H1 := Aside0.mk hb1
  clear hb1
  go_wp2
  go_ret
  exact ⟨by first | rfl | simp, H1.out⟩
end Go.Proofs.Ytgcajmkbdhjooaa.Sha
