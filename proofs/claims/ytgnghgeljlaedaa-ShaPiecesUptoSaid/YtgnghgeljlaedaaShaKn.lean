/-
  The standard's examples.
-/
import Derived.Test.YtgnghgeljlaedaaShaM5
import Derived.Test.YtgnghgeljlaedaaQx1
set_option linter.unusedVariables false
set_option linter.unusedSimpArgs false
namespace Go.Proofs.Ytgnghgeljlaedaa.Sha
open Go.RowKit Go.Proofs.YtgnghgeljlaedaaW.PrintWords Go.Proofs.YtgnghgeljlaedaaW.PrintLast Go.Proofs.YtgnghgeljlaedaaW.PrintMore Go.Proofs.Ytgnghgeljlaedaa.Q Go.Proofs.Ytgnghgeljlaedaa.Fr Go.Proofs.Ytgnghgeljlaedaa.Oct

def noHash : List Int := [227, 176, 196, 66, 152, 252, 28, 20, 154, 251, 244, 200, 153, 111, 185, 36, 39, 174, 65, 228, 100, 155, 147, 76, 164, 149, 153, 27, 120, 82, 184, 85]
def longHash : List Int := [36, 141, 106, 97, 210, 6, 56, 184, 229, 192, 38, 147, 12, 62, 96, 57, 163, 60, 228, 89, 100, 255, 33, 103, 246, 236, 237, 212, 25, 219, 6, 193]
def long : List Int := [97, 98, 99, 100, 98, 99, 100, 101, 99, 100, 101, 102, 100, 101, 102, 103, 101, 102, 103, 104, 102, 103, 104, 105, 103, 104, 105, 106, 104, 105, 106, 107, 105, 106, 107, 108, 106, 107, 108, 109, 107, 108, 109, 110, 108, 109, 110, 111, 109, 110, 111, 112, 110, 111, 112, 113]
theorem no_hash : sha [] = noHash := by kernel_rfl
theorem long_hash : sha long = longHash := by kernel_rfl
section
variable {P : Program} {ops : Array Oper} {rest : List Oper} {o : Oper} {a : Act} {Q : Exit → Act → World → Prop} {w : World}
/-- A literal of bytes: the world is a letter. -/
theorem wpList_lit_abs (hgd : o.guard = none) (L : List Int)
    (hrun : (execOp a.eval o).run P w = .ok (.value (.slice (some ⟨w.heap.size, 0, none⟩) L.length L.length)) (w.alloc (.cells (encs (Value.int .u8) L).toArray 5)))
    (h : ∀ w1, Below w.heap.size w w1 → w1.heap.size = w.heap.size + 1 → Rd w1 (some ⟨w.heap.size, 0, none⟩) L → wpList P ops Q rest (a.put o.dst (.slice (some ⟨w.heap.size, 0, none⟩) L.length L.length)) w1) : wpList P ops Q (o :: rest) a w :=
  wpList_plain hgd fun K hK => by
    unfold Oper.wp
    rw [hrun]
    exact hK _ _ (h _ (below_alloc (Below.refl _ _) _) (by simp) (Rd.blk (heap_alloc_new _ _)))
end
theorem same_self (l : List Int) : catenaryref01_Same.f l l = some true := by simp [catenaryref01_Same.f]
set_option maxHeartbeats 8000000 in
set_option maxRecDepth 100000 in
theorem known_calls (w : World) : Calls Try.prog 3 #[] w fun e w' => e = .returned (.bool true) ∧ Below w.heap.size w w' := by
  go_enter Try.func3, Try.ntmps3
  go_wp2_with (fail)
  refine (alive_calls w).mono ?_
  rintro e w1 ⟨rfl, hb1⟩
  have F1 : Fr (fun _ => False) w w1 := Fr.of_below hb1 _
  clear hb1
  go_wp2_with (first | ((with_reducible refine gate_dst (N := 6) rfl ?_); refine wpList_lit_abs (by rfl) noHash (by first | kernel_rfl | (go_simp; done) | (go_simp; rfl)) ?_; intro w2 hb2 hs2 hr2) | ((with_reducible refine gate_dst (N := 7) rfl ?_); refine wpList_lit_abs (by rfl) abcHash (by first | kernel_rfl | (go_simp; done) | (go_simp; rfl)) ?_; intro w3 hb3 hs3 hr3) | ((with_reducible refine gate_dst (N := 8) rfl ?_); refine wpList_lit_abs (by rfl) longHash (by first | kernel_rfl | (go_simp; done) | (go_simp; rfl)) ?_; intro w4 hb4 hs4 hr4) | fail)
  have F2 := F1.trans (Fr.of_below hb2 (fun _ => False)) (fun i h => h.elim)
  have F4 := (F2.trans (Fr.of_below hb3 (fun _ => False)) (fun i h => h.elim)).trans (Fr.of_below hb4 (fun _ => False)) (fun i h => h.elim)
  have r2 : Rd w4 (some ⟨w1.heap.size, 0, none⟩) noHash := (hr2.fr (Fr.of_below hb3 (fun _ => False)) (fun _ _ h => h)).fr (Fr.of_below hb4 (fun _ => False)) (fun _ _ h => h)
  have r3 : Rd w4 (some ⟨w2.heap.size, 0, none⟩) abcHash := hr3.fr (Fr.of_below hb4 (fun _ => False)) (fun _ _ h => h)
  rw [hs2] at r3
  rw [hs3, hs2] at hr4
  have H4 := Aside0.mk (And.intro F4 (And.intro r2 (And.intro r3 hr4)))
  clear F1 F2 F4 hb2 hb3 hb4 hr2 hr3 hr4 r2 r3
  refine (ssum_calls none 0 [] w4 (Rd.nil _ _) (by simp) (by simp)).mono ?_
  rintro e w5 ⟨v5, rfl, hq5, hb5⟩
  rw [no_hash] at hq5
  obtain ⟨A5, c5, rfl, hc5⟩ := hq5.slice
  have r5 : Rd w5 A5 noHash := QB.rd (q_of_own hq5)
  have f5 := Fr.of_below hb5 (fun _ => False)
  have H5 := Aside0.mk (And.intro (H4.out.1.trans f5 (fun i h => h.elim)) (And.intro (H4.out.2.1.fr f5 (fun _ _ h => h)) (And.intro (H4.out.2.2.1.fr f5 (fun _ _ h => h)) (And.intro (H4.out.2.2.2.fr f5 (fun _ _ h => h)) r5))))
  clear H4 hq5 hb5 r5 f5
  go_wp2_with (fail)
  refine (catenaryref01_Same.calls A5 c5 noHash (some ⟨w1.heap.size, 0, none⟩) noHash.length noHash true w5 (H5.out.2.2.2.2.C (by decide)) hc5 (H5.out.2.1.C (by decide)) (Nat.le_refl _) (same_self _)).mono ?_
  rintro e w6 ⟨rfl, nd, hw6⟩
  have f6 : Fr (fun _ => False) w5 w6 := by rw [hw6]; exact (Fr.refl _ _).of_drewN nd
  have H6 := Aside0.mk (And.intro (H5.out.1.trans f6 (fun i h => h.elim)) (And.intro (H5.out.2.2.1.fr f6 (fun _ _ h => h)) (H5.out.2.2.2.1.fr f6 (fun _ _ h => h))))
  clear H5 f6 hw6
  have kc := Go.Joins.run_convert_bytes_const_at (P := Try.prog) w6 23 5 (encs (Value.int .u8) [97, 98, 99]).toArray 3 3 w6.heap.size rfl Try.underlying23 Try.underlying5
  simp only [encs, List.map_cons, List.map_nil, List.size_toArray, List.length_cons, List.length_nil] at kc
  go_wp2_with (fail)
  have hr7 : Rd (w6.alloc (.cells (encs (Value.int .u8) [97, 98, 99]).toArray 5 (3, 4))) (some ⟨w6.heap.size, 0, none⟩) [97, 98, 99] := Rd.mark (heap_alloc_new _ _)
  have f7 : Fr (fun _ => False) w6 (w6.alloc (.cells (encs (Value.int .u8) [97, 98, 99]).toArray 5 (3, 4))) := (Fr.refl _ _).alloc _
  refine (ssum_calls (some ⟨w6.heap.size, 0, none⟩) 3 [97, 98, 99] _ hr7 (by simp) (by simp)).mono ?_
  rintro e w8 ⟨v8, rfl, hq8, hb8⟩
  rw [abc_hash] at hq8
  obtain ⟨A8, c8, rfl, hc8⟩ := hq8.slice
  have r8 : Rd w8 A8 abcHash := QB.rd (q_of_own hq8)
  have f8 := f7.trans (Fr.of_below hb8 (fun _ => False)) (fun i h => h.elim)
  have H8 := Aside0.mk (And.intro (H6.out.1.trans f8 (fun i h => h.elim)) (And.intro (H6.out.2.1.fr f8 (fun _ _ h => h)) (And.intro (H6.out.2.2.fr f8 (fun _ _ h => h)) r8)))
  clear H6 hq8 hb8 r8 f8 f7 hr7 kc
  go_wp2_with (fail)
  refine (catenaryref01_Same.calls A8 c8 abcHash (some ⟨w1.heap.size + 1, 0, none⟩) abcHash.length abcHash true w8 (H8.out.2.2.2.C (by decide)) hc8 (H8.out.2.1.C (by decide)) (Nat.le_refl _) (same_self _)).mono ?_
  rintro e w9 ⟨rfl, nd, hw9⟩
  have f9 : Fr (fun _ => False) w8 w9 := by rw [hw9]; exact (Fr.refl _ _).of_drewN nd
  have H9 := Aside0.mk (And.intro (H8.out.1.trans f9 (fun i h => h.elim)) (H8.out.2.2.1.fr f9 (fun _ _ h => h)))
  clear H8 f9 hw9
  have kc := Go.Joins.run_convert_bytes_const_at (P := Try.prog) w9 23 5 (encs (Value.int .u8) long).toArray 56 56 w9.heap.size rfl Try.underlying23 Try.underlying5
  simp only [long, encs, List.map_cons, List.map_nil, List.size_toArray, List.length_cons, List.length_nil] at kc
  go_wp2_with (fail)
  have hr10 : Rd (w9.alloc (.cells (encs (Value.int .u8) long).toArray 5 (56, 57))) (some ⟨w9.heap.size, 0, none⟩) long := Rd.mark (heap_alloc_new _ _)
  have f10 : Fr (fun _ => False) w9 (w9.alloc (.cells (encs (Value.int .u8) long).toArray 5 (56, 57))) := (Fr.refl _ _).alloc _
  refine (ssum_calls (some ⟨w9.heap.size, 0, none⟩) 56 long _ hr10 (by decide) (by decide)).mono ?_
  rintro e w11 ⟨v11, rfl, hq11, hb11⟩
  rw [long_hash] at hq11
  obtain ⟨A11, c11, rfl, hc11⟩ := hq11.slice
  have r11 : Rd w11 A11 longHash := QB.rd (q_of_own hq11)
  have f11 := f10.trans (Fr.of_below hb11 (fun _ => False)) (fun i h => h.elim)
  have H11 := Aside0.mk (And.intro (H9.out.1.trans f11 (fun i h => h.elim)) (And.intro (H9.out.2.fr f11 (fun _ _ h => h)) r11))
  clear H9 hq11 hb11 r11 f11 f10 hr10 kc
  go_wp2_with (fail)
  refine (catenaryref01_Same.calls A11 c11 longHash (some ⟨w1.heap.size + 1 + 1, 0, none⟩) longHash.length longHash true w11 (H11.out.2.2.C (by decide)) hc11 (H11.out.2.1.C (by decide)) (Nat.le_refl _) (same_self _)).mono ?_
  rintro e w12 ⟨rfl, nd, hw12⟩
  have f12 : Fr (fun _ => False) w11 w12 := by rw [hw12]; exact (Fr.refl _ _).of_drewN nd
  have H12 := Aside0.mk (H11.out.1.trans f12 (fun i h => h.elim))
  clear H11 f12 hw12
  go_wp2
  go_ret
  exact ⟨by first | rfl | simp, H12.out.below _ (Nat.le_refl _) (fun i h => h.elim)⟩
end Go.Proofs.Ytgnghgeljlaedaa.Sha
