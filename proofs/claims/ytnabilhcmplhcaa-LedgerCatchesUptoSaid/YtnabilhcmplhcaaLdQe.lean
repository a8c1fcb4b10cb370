/-
  ledger.Note: a round of its loop (told).
-/
import Derived.Test.YtnabilhcmplhcaaLgM2
import Derived.Deep.RegionHeld3
import Derived.Test.YtnabilhcmplhcaaQx4
set_option linter.unusedVariables false
set_option linter.unusedSimpArgs false
namespace Go.Proofs.Ytnabilhcmplhcaa.Sha
open Go.RowKit Go.Proofs.YtnabilhcmplhcaaW.PrintWords Go.Proofs.YtnabilhcmplhcaaW.PrintLast Go.Proofs.YtnabilhcmplhcaaW.PrintMore Go.Proofs.Ytnabilhcmplhcaa.Q Go.Proofs.Ytnabilhcmplhcaa.Fr Go.Proofs.Ytnabilhcmplhcaa.Oct
open Go.Maps Go.ChangeMaps

set_option maxHeartbeats 8000000 in
set_option maxRecDepth 100000 in
theorem roundNe (u : Nat → Value) (kind view turn slot c s : Int) (Ao : Option Addr) (co : Nat) (op : List Int) (As : Option Addr) (cs : Nat) (sg : List Int) (Ab : Option Addr) (cb : Nat) (Av : Option Addr) (cv : Nat) (V : List (Int × List Int)) (i : Nat) (si : Int) (t : List Int) (hv : V[i]? = some (si, t)) (hV : V.length ≤ 1048576) (w W : World) (base gl bm : Nat) (Bs0 : List Nat) (gb gr : Nat) (D : DataW Unit) (S : List Sn) (Bs : List Nat) (out : Value) (E : List Ev)
    (hcb : (bodyA c s op sg).length ≤ cb) (lo : op.length + sg.length ≤ 1048576) (hco : op.length ≤ co) (hcs : sg.length ≤ cs) (bo : Bys op) (bs : Bys sg) (lt : t.length ≤ 140737488355327) (bt : Bys t) (wk : (Lit.int .i64 kind).wf = true) (wv : (Lit.int .i64 view).wf = true) (wt : (Lit.int .i64 turn).wf = true) (wl : (Lit.int .i64 slot).wf = true) (wi : (Lit.int .i64 si).wf = true) (hE : E.length ≤ 1048576) (H : Nt w W base gl bm Bs0 view turn c s Ao co op As cs sg Ab Av V gb gr D S Bs out E) (hvr : vrA kind view turn slot (bodyA c s op sg) si t = true) (j : Nat) (x : Sn) (b : Nat) (hSj : S[j]? = some x) (hBj : Bs[j]? = some b) (hxk : x.key = plK kind view turn slot si) (htd : x.told = false) (hbe : bodyA x.c x.s x.op x.sg ≠ bodyA c s op sg)
    (Q : Exit → Act → World → Prop) (hQ : ∀ a' W' D' S' Bs' out' E', Fm 114 a' → sl a' 0 = .pointer (some ⟨gl, 0, none⟩) → sl a' 1 = .int .i64 kind → sl a' 3 = .int .i64 slot → sl a' 8 = .pointer (some ⟨gb, 0, none⟩) → sl a' 10 = .pointer (some ⟨gr, 0, none⟩) → sl a' 13 = out' → sl a' 14 = .slice Ab (bodyA c s op sg).length cb → sl a' 28 = .slice Av V.length cv → sl a' 29 = .int .i64 (V.length : Int) → sl a' 30 = .int .i64 ((i : Int) + 1) → Nt w W' base gl bm Bs0 view turn c s Ao co op As cs sg Ab Av V gb gr D' S' Bs' out' E' → Step kind view turn slot c s op sg S E (si, t) S' E' → Q .normal a' W') :
    Code.wp Try.prog (bodyN Try.f12 0) Q ⟨#[.pointer (some ⟨gl, 0, none⟩), .int .i64 kind, u 2, .int .i64 slot, u 4, u 5, u 6, u 7, .pointer (some ⟨gb, 0, none⟩), u 9, .pointer (some ⟨gr, 0, none⟩), u 11, u 12, out, .slice Ab (bodyA c s op sg).length cb, u 15, u 16, u 17, u 18, u 19, u 20, u 21, u 22, u 23, u 24, u 25, u 26, u 27, .slice Av V.length cv, .int .i64 (V.length : Int), .int .i64 (i : Int), u 31, u 32, u 33, u 34, u 35, u 36, u 37, u 38, u 39, u 40, u 41, u 42, u 43, u 44, u 45, u 46, u 47, u 48, u 49, u 50, u 51, u 52, u 53, u 54, u 55, u 56, u 57, u 58, u 59, u 60, u 61, u 62, u 63, u 64, u 65, u 66, u 67, u 68, u 69, u 70, u 71, u 72, u 73, u 74, u 75, u 76, u 77, u 78, u 79, u 80, u 81, u 82, u 83, u 84, u 85, u 86, u 87, u 88, u 89, u 90, u 91, u 92, u 93, u 94, u 95, u 96, u 97, u 98, u 99, u 100, u 101, u 102, u 103, u 104, u 105, u 106, u 107, u 108, u 109, u 110, u 111, u 112, u 113], []⟩ W := by
  obtain ⟨ad, A3, c3, rfl, _, x0, x1, hc3, hr3⟩ := H.vc i (si, t) hv
  simp only at x0 x1 hc3 hr3
  have hlb := bodyA_len c s op sg
  obtain ⟨m, hm⟩ : ∃ m, V.length = m := ⟨_, rfl⟩
  have hi : i < m := by rw [← hm]; exact (List.getElem?_eq_some_iff.1 hv).1
  rw [hm] at hV hQ ⊢
  have b0 : decide ((i : Int) < (m : Int)) = true := decide_eq_true (by omega)
  have b1 : (0 : Int) ≤ (i : Int) := by omega
  have b2 : (i : Int) < (m : Int) := by omega
  have b5 : wrap64 ((i : Int) + 1) = (i : Int) + 1 := by unfold wrap64; omega
  have B5 := Aside0.mk b5
  have HL := Aside0.mk (And.intro lo (And.intro lt (And.intro bt (And.intro hlb (And.intro bo (And.intro bs (And.intro hE hm)))))))
  have HW := Aside0.mk (And.intro wk (And.intro wv (And.intro wt (And.intro wl wi))))
  have HH := Aside0.mk (And.intro H (And.intro hr3 (And.intro hv hQ)))
  clear b5 hV hm H hr3 hQ hv lo lt bt hlb bo bs wk wv wt wl wi hE
  have hh : Maps.has D (plK kind view turn slot si) = true := by rw [← hxk]; exact HH.out.1.ld.keyAt hSj
  have hat : D.atKey (plK kind view turn slot si) zL = .lit (.int .i64 (b : Int)) := by rw [← hxk]; exact (HH.out.1.ld.at' j x b hSj hBj).1
  have HBE := Aside0.mk hbe
  clear hbe
  conv => arg 2; whnf
  go_wp2_with (first | ((with_reducible refine gate_dst (N := 16) rfl ?_); refine wpList_alloc_abs (by rfl) 55 (by rfl) (.agg Z2v) (by kernel_rfl) ?_; intro w2 hb2 hs2 hg2) | ((with_reducible refine gate_store (p := 16) rfl ?_); refine Aside0.out ?_))
  refine ⟨?_⟩
  refine wpList_store_abs (by rfl) 55 _ _ (by rfl) W.heap.size #[.int .i64 si, .slice A3 t.length c3] (by rfl) (by rfl) 55 Z2v hg2 (by kernel_rfl) (by rfl) (by simp [Value.oneCell']) ?_
  intro w3 hf3 hs3 hg3
  have F3 : Fr (fun _ => False) W w3 := (Fr.of_below hb2 (fun _ => False)).trans hf3 (fun k hk => .inr (by omega))
  have H3 := Aside0.mk (And.intro (HH.out.1.below F3) (And.intro (HH.out.2.1.lies F3) hg3))
  have y : w3.cell? ⟨W.heap.size, 0, none⟩ = some (.int .i64 si) ∧ w3.cell? ⟨W.heap.size, 1, none⟩ = some (.slice A3 t.length c3) := by simp [World.cell?, hg3]
  have q : w3.cell? ⟨gb, 0, none⟩ = some (.int .i64 view) ∧ w3.cell? ⟨gb, 1, none⟩ = some (.int .i64 turn) := by simp [World.cell?, H3.out.1.hb]
  obtain ⟨y0, y1⟩ := y
  obtain ⟨q0, q1⟩ := q
  have z3 := F3.size
  clear hb2 hs2 hg2 hf3 hs3 hg3 x0 x1 F3
  go_wp2_with (fail)
  have hrc := right_calls kind view turn slot Ab cb (bodyA c s op sg) si A3 c3 t w3 H3.out.1.rb hcb (by have := HL.out; omega) H3.out.2.1 hc3 (by have := HL.out; omega) HL.out.2.2.1
  rw [hvr] at hrc
  refine hrc.mono ?_
  clear hrc y0 y1 q0 q1
  rintro e w4 ⟨rfl, hb4⟩
  have f4 := Fr.of_below hb4 (fun _ => False)
  have H4 := Aside0.mk (And.intro (H3.out.1.below f4) (And.intro (H3.out.2.1.lies f4) (f4.blk H3.out.2.2 (fun h => h))))
  have y : w4.cell? ⟨W.heap.size, 0, none⟩ = some (.int .i64 si) ∧ w4.cell? ⟨W.heap.size, 1, none⟩ = some (.slice A3 t.length c3) := by simp [World.cell?, H4.out.2.2]
  have q : w4.cell? ⟨gb, 0, none⟩ = some (.int .i64 view) ∧ w4.cell? ⟨gb, 1, none⟩ = some (.int .i64 turn) := by simp [World.cell?, H4.out.1.hb]
  obtain ⟨y0, y1⟩ := y
  obtain ⟨q0, q1⟩ := q
  have z4 := f4.size
  clear H3 hb4 f4
  go_wp2_with (first | ((with_reducible refine gate_dst (N := 17) rfl ?_); refine wpList_alloc_abs (by rfl) 67 (by rfl) (.agg Z5p) (by kernel_rfl) ?_; intro w5 hb5 hs5 hg5) | ((with_reducible refine gate_store (p := 17) rfl ?_); refine Aside0.out ?_))
  refine ⟨?_⟩
  refine wpList_store_abs (by rfl) 67 _ _ (by rfl) w4.heap.size #[.int .i64 kind, .int .i64 view, .int .i64 turn, .int .i64 slot, .int .i64 si] (by rfl) (by rfl) 67 Z5p hg5 (by kernel_rfl) (by rfl) (by simp [Value.oneCell']) ?_
  intro w6 hf6 hs6 hg6
  have F6 : Fr (fun _ => False) w4 w6 := (Fr.of_below hb5 (fun _ => False)).trans hf6 (fun k hk => .inr (by omega))
  have H6 := Aside0.mk (And.intro (H4.out.1.below F6) (And.intro (H4.out.2.1.lies F6) (And.intro (F6.blk H4.out.2.2 (fun h => h)) hg6)))
  have hs6' : w6.cell? ⟨gl, 0, none⟩ = some (.map (some bm)) ∧ w6.cell? ⟨w4.heap.size, 0, none⟩ = some (.int .i64 kind) ∧ w6.cell? ⟨w4.heap.size, 1, none⟩ = some (.int .i64 view) ∧ w6.cell? ⟨w4.heap.size, 2, none⟩ = some (.int .i64 turn) ∧ w6.cell? ⟨w4.heap.size, 3, none⟩ = some (.int .i64 slot) ∧ w6.cell? ⟨w4.heap.size, 4, none⟩ = some (.int .i64 si) := by
    have h1 := H6.out.1.ld.head
    simp [World.cell?, h1, hg6]
  have hkl := plK_of HW.out.1 HW.out.2.1 HW.out.2.2.1 HW.out.2.2.2.1 HW.out.2.2.2.2
  clear H4 y0 y1 q0 q1 hb5 hs5 hg5 hf6 hs6 hg6 F6 z4 z3
  go_wp2_with (fail)
  refine wp_region_noPanic ?_
  refine wp_region_held_drew (S := (fun w' => w'.cell? ⟨gl, 0, none⟩ = some (.map (some bm)) ∧ w'.cell? ⟨w4.heap.size, 0, none⟩ = some (.int .i64 kind) ∧ w'.cell? ⟨w4.heap.size, 1, none⟩ = some (.int .i64 view) ∧ w'.cell? ⟨w4.heap.size, 2, none⟩ = some (.int .i64 turn) ∧ w'.cell? ⟨w4.heap.size, 3, none⟩ = some (.int .i64 slot) ∧ w'.cell? ⟨w4.heap.size, 4, none⟩ = some (.int .i64 si))) (by kernel_rfl) hs6' (fun hHeld => ?_)
  refine wpAnyH_take (i := 0) (oi := ⟨some 48, _, _, _, _, _⟩) (v := (.pointer (some ⟨gl, 0, none⟩))) rfl (by kernel_rfl) (by kernel_rfl) (by kernel_rfl) (fun _ _ _ h => h) (Or.inl ⟨by rfl, by (intro w' hSw; (try dsimp only at hSw); go_simp)⟩) (by assumption) ?_
  try simp only [Act.put, List.setIfInBounds_toArray, List.set_cons_zero, List.set_cons_succ]
  refine wpAnyH_take (i := 1) (oi := ⟨some 49, _, _, _, _, _⟩) (v := (.pointer (some ⟨gl, 0, none⟩))) rfl (by kernel_rfl) (by kernel_rfl) (by kernel_rfl) (fun _ _ _ h => h) (Or.inl ⟨by rfl, by (intro w' hSw; (try dsimp only at hSw); go_simp)⟩) (by assumption) ?_
  try simp only [Act.put, List.setIfInBounds_toArray, List.set_cons_zero, List.set_cons_succ]
  refine wpAnyH_take (i := 2) (oi := ⟨some 50, _, _, _, _, _⟩) (v := (.pointer (some ⟨gl, 0, none⟩))) rfl (by kernel_rfl) (by kernel_rfl) (by kernel_rfl) (fun _ _ _ h => h) (Or.inl ⟨by rfl, by (intro w' hSw; (try dsimp only at hSw); go_simp)⟩) (by assumption) ?_
  try simp only [Act.put, List.setIfInBounds_toArray, List.set_cons_zero, List.set_cons_succ]
  refine wpAnyH_take (i := 3) (oi := ⟨some 51, _, _, _, _, _⟩) (v := (.map (some bm))) rfl (by kernel_rfl) (by kernel_rfl) (by kernel_rfl) (fun _ _ _ h => h) (Or.inl ⟨by rfl, by (intro w' hSw; (try dsimp only at hSw); go_simp)⟩) (by assumption) ?_
  try simp only [Act.put, List.setIfInBounds_toArray, List.set_cons_zero, List.set_cons_succ]
  refine wpAnyH_take (i := 4) (oi := ⟨some 52, _, _, _, _, _⟩) (v := (.agg #[.int .i64 kind, .int .i64 view, .int .i64 turn, .int .i64 slot, .int .i64 si])) rfl (by kernel_rfl) (by kernel_rfl) (by kernel_rfl) (fun _ _ _ h => h) (Or.inl ⟨by rfl, by (intro w' hSw; (try dsimp only at hSw); go_simp)⟩) (by assumption) ?_
  try simp only [Act.put, List.setIfInBounds_toArray, List.set_cons_zero, List.set_cons_succ]
  refine wpAnyH_ready (rs := [5]) (by kernel_rfl) (by simp) ?_
  refine AllReadyH.cons (o := ⟨some 53, _, _, _, _, _⟩) rfl (fun K hK => ?_) AllReadyH.nil
  rw [if_pos (by rfl)]
  refine wp_lookup_abs _ _ (by rfl) bm S.length D (by rfl) H6.out.1.ld.own.drew (.agg #[.int .i64 kind, .int .i64 view, .int .i64 turn, .int .i64 slot, .int .i64 si]) (plK kind view turn slot si) (by rfl) hkl ?_
  intro vp ps hvp
  rw [hh]
  rw [hat] at hvp
  obtain rfl := ptrE_inv hvp
  refine hK.out _ _ hHeld (fun hHeld => ?_)
  try simp only [Act.put, List.setIfInBounds_toArray, List.set_cons_zero, List.set_cons_succ]
  refine wpAnyH_take (i := 6) (oi := ⟨some 47, _, _, _, _, _⟩) (v := (.tuple #[.pointer (some ⟨b, 0, none⟩), .bool true])) rfl (by kernel_rfl) (by kernel_rfl) (by kernel_rfl) (fun _ _ _ h => h) (Or.inl ⟨by rfl, by (intro w' hSw; (try dsimp only at hSw); go_simp)⟩) (by assumption) ?_
  try simp only [Act.put, List.setIfInBounds_toArray, List.set_cons_zero, List.set_cons_succ]
  refine wpAnyH_take (i := 7) (oi := ⟨some 54, _, _, _, _, _⟩) (v := (.pointer (some ⟨b, 0, none⟩))) rfl (by kernel_rfl) (by kernel_rfl) (by kernel_rfl) (fun _ _ _ h => h) (Or.inl ⟨by rfl, by (intro w' hSw; (try dsimp only at hSw); go_simp)⟩) (by assumption) ?_
  try simp only [Act.put, List.setIfInBounds_toArray, List.set_cons_zero, List.set_cons_succ]
  refine wpAnyH_take (i := 8) (oi := ⟨some 55, _, _, _, _, _⟩) (v := (.bool true)) rfl (by kernel_rfl) (by kernel_rfl) (by kernel_rfl) (fun _ _ _ h => h) (Or.inl ⟨by rfl, by (intro w' hSw; (try dsimp only at hSw); go_simp)⟩) (by assumption) ?_
  try simp only [Act.put, List.setIfInBounds_toArray, List.set_cons_zero, List.set_cons_succ]
  refine wpAnyH_take (i := 9) (oi := ⟨some 18, _, _, _, _, _⟩) (v := (.pointer (some ⟨b, 0, none⟩))) rfl (by kernel_rfl) (by kernel_rfl) (by kernel_rfl) (fun _ _ _ h => h) (Or.inl ⟨by rfl, by (intro w' hSw; (try dsimp only at hSw); go_simp)⟩) (by assumption) ?_
  try simp only [Act.put, List.setIfInBounds_toArray, List.set_cons_zero, List.set_cons_succ]
  refine wpAnyH_take (i := 10) (oi := ⟨some 19, _, _, _, _, _⟩) (v := (.bool true)) rfl (by kernel_rfl) (by kernel_rfl) (by kernel_rfl) (fun _ _ _ h => h) (Or.inl ⟨by rfl, by (intro w' hSw; (try dsimp only at hSw); go_simp)⟩) (by assumption) ?_
  try simp only [Act.put, List.setIfInBounds_toArray, List.set_cons_zero, List.set_cons_succ]
  refine wpAnyH_done (by kernel_rfl) ?_ _
  refine NoPanic.normal ?_
  clear hs6' hHeld hvp
  obtain ⟨w7, hw7⟩ : ∃ x, w6.drew = x := ⟨_, rfl⟩
  have F7 : Fr (fun _ => False) w6 w7 := by rw [← hw7]; exact (Fr.refl _ _).of_drew
  rw [hw7]
  have H7 := Aside0.mk (And.intro (H6.out.1.below F7) (And.intro (H6.out.2.1.lies F7) (And.intro (F7.blk H6.out.2.2.1 (fun h => h)) (F7.blk H6.out.2.2.2 (fun h => h)))))
  clear H6 F7 hw7
  obtain ⟨X1, e1, X2, e2, X3, e3, hgx, ox1, ox2, ox3, hxle⟩ := (H7.out.1.ld.at' j x b hSj hBj).2
  have k : w7.cell? ⟨b, 0, none⟩ = some (.int .i64 x.c) ∧ w7.cell? ⟨b, 1, none⟩ = some (.int .i64 x.s) ∧ w7.cell? ⟨b, 2, none⟩ = some (.slice X1 x.op.length e1) ∧ w7.cell? ⟨b, 3, none⟩ = some (.slice X2 x.sg.length e2) ∧ w7.cell? ⟨b, 4, none⟩ = some (.slice X3 x.t.length e3) ∧ w7.cell? ⟨b, 5, none⟩ = some (.bool false) := by simp [World.cell?, hgx, snc, htd]
  obtain ⟨k0, k1, k2, k3, k4, k5⟩ := k
  have hxo := H7.out.1.ld.ok x (List.mem_of_getElem? hSj)
  have hx2 : x.op.length ≤ e1 := by obtain ⟨_, _, e, h⟩ := ox1.slice; cases e; exact h
  have hx3 : x.sg.length ≤ e2 := by obtain ⟨_, _, e, h⟩ := ox2.slice; cases e; exact h
  have hx4 : x.t.length ≤ e3 := by obtain ⟨_, _, e, h⟩ := ox3.slice; cases e; exact h
  have HX := Aside0.mk (And.intro hgx (And.intro (QB.rd (q_of_own ox1)) (And.intro (QB.rd (q_of_own ox2)) (And.intro (QB.rd (q_of_own ox3)) hxo))))
  clear hgx ox1 ox2 ox3 hxo
  go_wp2_with (fail)
  refine (body_calls x.c x.s X1 e1 x.op X2 e2 x.sg w7 HX.out.2.1 hx2 HX.out.2.2.1 hx3 HX.out.2.2.2.2.lo).mono ?_
  rintro e w8 ⟨B0, y0, rfl, hy0, hO8, hb8⟩
  have f8 := Fr.of_below hb8 (fun _ => False)
  have H8 := Aside0.mk (And.intro (H7.out.1.below f8) (And.intro (H7.out.2.1.lies f8) (And.intro (f8.blk H7.out.2.2.1 (fun h => h)) (And.intro (f8.blk H7.out.2.2.2 (fun h => h)) (QB.rd (q_of_own hO8))))))
  have HX8 := Aside0.mk (And.intro (f8.blk HX.out.1 (fun h => h)) (And.intro (HX.out.2.1.lies f8) (And.intro (HX.out.2.2.1.lies f8) (And.intro (HX.out.2.2.2.1.lies f8) HX.out.2.2.2.2))))
  clear hO8 hb8 f8 H7 HX k0 k1 k2 k3 k4 k5
  go_wp2_with (fail)
  refine (bytes_Equal.calls B0 y0 (bodyA x.c x.s x.op x.sg) Ab cb (bodyA c s op sg) false w8 (H8.out.2.2.2.2.C (by have := bodyA_len x.c x.s x.op x.sg; have := HX8.out.2.2.2.2.lo; omega)) hy0 (H8.out.1.rb.C (by have := HL.out; omega)) hcb (equal_no HBE.out HX8.out.2.2.2.2.bo HX8.out.2.2.2.2.bs HL.out.2.2.2.2.1 HL.out.2.2.2.2.2.1)).mono ?_
  rintro e w9 ⟨rfl, hd9⟩
  have f9 := Fr.of_below hd9.below (fun _ => False)
  have H9 := Aside0.mk (And.intro (H8.out.1.below f9) (And.intro (H8.out.2.1.lies f9) (And.intro (f9.blk H8.out.2.2.1 (fun h => h)) (f9.blk H8.out.2.2.2.1 (fun h => h)))))
  have HX9 := Aside0.mk (And.intro (f9.blk HX8.out.1 (fun h => h)) (And.intro (HX8.out.2.1.lies f9) (And.intro (HX8.out.2.2.1.lies f9) (And.intro (HX8.out.2.2.2.1.lies f9) HX8.out.2.2.2.2))))
  clear hd9 f9 H8 HX8
  have k5 : w9.cell? ⟨b, 5, none⟩ = some (.bool false) := by simp [World.cell?, HX9.out.1, snc, htd]
  have fz5 := frozenV HX9.out.1 5
  have hf10 : Fr (fun k => k = b) w9 (w9.setCell ⟨b, 5, none⟩ (.bool true)) := (Fr.refl (fun k => k = b) w9).setCell (.inl rfl) _
  have hld10 := H9.out.1.ld.tell j x b hSj hBj
  have hg10 := set_told HX9.out.1
  have hmem : LF bm Bs b := .inr (List.mem_of_getElem? hBj)
  have HT := Aside0.mk (And.intro hf10 (And.intro hld10 (And.intro hg10 hmem)))
  clear hf10 hld10 hg10 hmem
  go_wp2_with (fail)
  clear k5 fz5
  generalize w9.setCell ⟨b, 5, none⟩ (.bool true) = w10 at *
  have H10 := Aside0.mk (H9.out.1.step (HT.out.1.mono (fun k e => by rw [e]; exact HT.out.2.2.2)) HT.out.2.1 (fun b hb => .inl hb))
  have hfl : Fr (LF bm Bs) w9 w10 := HT.out.1.mono (fun k e => by rw [e]; exact HT.out.2.2.2)
  have hpk := HX9.out.2.2.2.2
  have hpl := plK_inj hpk.wk hpk.wv hpk.wt hpk.wl hpk.wi HW.out.1 HW.out.2.1 HW.out.2.2.1 HW.out.2.2.2.1 HW.out.2.2.2.2 hxk
  have hgp : w10.heap[w4.heap.size]? = some (.cells #[.int .i64 x.kind, .int .i64 x.view, .int .i64 x.turn, .int .i64 x.slot, .int .i64 x.signer] 67 (0, 0)) := by
    rw [hpl.1, hpl.2.1, hpl.2.2.1, hpl.2.2.2.1, hpl.2.2.2.2]
    exact hfl.blk H9.out.2.2.2 (LF.not H9.out.1.ld H9.out.2.2.2 (by decide))
  have hgv := hfl.blk H9.out.2.2.1 (LF.not H9.out.1.ld H9.out.2.2.1 (by decide))
  have HR := Aside0.mk (And.intro (H9.out.1.ld.rd H9.out.2.1 hfl) (And.intro (H9.out.1.ld.rd HX9.out.2.1 hfl) (And.intro (H9.out.1.ld.rd HX9.out.2.2.1 hfl) (H9.out.1.ld.rd HX9.out.2.2.2.1 hfl))))
  have HG := Aside0.mk (And.intro hgp (And.intro hgv (And.intro HT.out.2.2.1 hpk)))
  clear hfl hpk hpl hgp hgv HT H9 HX9
  have hS : ∀ w', Fr (fun _ => False) w10 w' → w'.cell? ⟨w4.heap.size, 0, none⟩ = some (.int .i64 x.kind) ∧ w'.cell? ⟨w4.heap.size, 1, none⟩ = some (.int .i64 x.view) ∧ w'.cell? ⟨w4.heap.size, 2, none⟩ = some (.int .i64 x.turn) ∧ w'.cell? ⟨w4.heap.size, 3, none⟩ = some (.int .i64 x.slot) ∧ w'.cell? ⟨w4.heap.size, 4, none⟩ = some (.int .i64 x.signer) ∧ w'.cell? ⟨b, 0, none⟩ = some (.int .i64 x.c) ∧ w'.cell? ⟨b, 1, none⟩ = some (.int .i64 x.s) ∧ w'.cell? ⟨b, 2, none⟩ = some (.slice X1 x.op.length e1) ∧ w'.cell? ⟨b, 3, none⟩ = some (.slice X2 x.sg.length e2) ∧ w'.cell? ⟨b, 4, none⟩ = some (.slice X3 x.t.length e3) ∧ w'.cell? ⟨gr, 0, none⟩ = some (.int .i64 c) ∧ w'.cell? ⟨gr, 1, none⟩ = some (.int .i64 s) ∧ w'.cell? ⟨gr, 2, none⟩ = some (.slice Ao op.length co) ∧ w'.cell? ⟨gr, 3, none⟩ = some (.slice As sg.length cs) ∧ w'.cell? ⟨W.heap.size, 0, none⟩ = some (.int .i64 si) ∧ w'.cell? ⟨W.heap.size, 1, none⟩ = some (.slice A3 t.length c3) := fun w' hf => by
    have h1 := hf.blk HG.out.1 (fun h => h)
    have h2 := hf.blk HG.out.2.2.1 (fun h => h)
    have h3 := hf.blk H10.out.hr (fun h => h)
    have h4 := hf.blk HG.out.2.1 (fun h => h)
    simp [World.cell?, h1, h2, h3, h4, snc]
  obtain ⟨ev, hev⟩ : ∃ e, mkEv x c s op sg t = e := ⟨_, rfl⟩
  have HA : ∀ w1, Fr (fun _ => False) w10 w1 → Calls Try.prog 27 #[.agg #[.int .i64 x.kind, .int .i64 x.view, .int .i64 x.turn, .int .i64 x.slot, .int .i64 x.signer], .agg #[.int .i64 x.c, .int .i64 x.s, .slice X1 x.op.length e1, .slice X2 x.sg.length e2], .agg #[.int .i64 c, .int .i64 s, .slice Ao op.length co, .slice As sg.length cs], .slice X3 x.t.length e3, .slice A3 t.length c3] w1 fun e w2 => ∃ B1 d1 B2 d2 B3 d3 B4 d4 Y5 d5 Y6 d6, e = .returned (.agg #[.int .i64 13, .int .i64 ev.view, .int .i64 ev.turn, .int .i64 ev.slot, .int .i64 ev.signer, .int .i64 0, .int .i64 ev.kind, .int .i64 0, .int .i64 ev.cX, .int .i64 ev.sX, .slice B1 ev.opX.length d1, .slice B2 ev.sgX.length d2, .int .i64 ev.cY, .int .i64 ev.sY, .slice B4 ev.opY.length d4, .slice Y5 ev.sgY.length d5, .slice Y6 ev.tY.length d6, .slice B3 ev.tX.length d3, .slice none 0 0, .slice none 0 0, .slice none 0 0, .slice none 0 0, .slice none 0 0]) ∧ (w2.cell? ⟨w4.heap.size, 0, none⟩ = some (.int .i64 x.kind) ∧ w2.cell? ⟨w4.heap.size, 1, none⟩ = some (.int .i64 x.view) ∧ w2.cell? ⟨w4.heap.size, 2, none⟩ = some (.int .i64 x.turn) ∧ w2.cell? ⟨w4.heap.size, 3, none⟩ = some (.int .i64 x.slot) ∧ w2.cell? ⟨w4.heap.size, 4, none⟩ = some (.int .i64 x.signer) ∧ w2.cell? ⟨b, 0, none⟩ = some (.int .i64 x.c) ∧ w2.cell? ⟨b, 1, none⟩ = some (.int .i64 x.s) ∧ w2.cell? ⟨b, 2, none⟩ = some (.slice X1 x.op.length e1) ∧ w2.cell? ⟨b, 3, none⟩ = some (.slice X2 x.sg.length e2) ∧ w2.cell? ⟨b, 4, none⟩ = some (.slice X3 x.t.length e3) ∧ w2.cell? ⟨gr, 0, none⟩ = some (.int .i64 c) ∧ w2.cell? ⟨gr, 1, none⟩ = some (.int .i64 s) ∧ w2.cell? ⟨gr, 2, none⟩ = some (.slice Ao op.length co) ∧ w2.cell? ⟨gr, 3, none⟩ = some (.slice As sg.length cs) ∧ w2.cell? ⟨W.heap.size, 0, none⟩ = some (.int .i64 si) ∧ w2.cell? ⟨W.heap.size, 1, none⟩ = some (.slice A3 t.length c3)) ∧ Aside0 (Fr (fun _ => False) w10 w2 ∧ EvIs w2 (.agg #[.int .i64 13, .int .i64 ev.view, .int .i64 ev.turn, .int .i64 ev.slot, .int .i64 ev.signer, .int .i64 0, .int .i64 ev.kind, .int .i64 0, .int .i64 ev.cX, .int .i64 ev.sX, .slice B1 ev.opX.length d1, .slice B2 ev.sgX.length d2, .int .i64 ev.cY, .int .i64 ev.sY, .slice B4 ev.opY.length d4, .slice Y5 ev.sgY.length d5, .slice Y6 ev.tY.length d6, .slice B3 ev.tX.length d3, .slice none 0 0, .slice none 0 0, .slice none 0 0, .slice none 0 0, .slice none 0 0]) ev) := by
    intro w1 hf1
    have he := evid_calls x HG.out.2.2.2 X1 e1 X2 e2 X3 e3 c s Ao co op As cs sg A3 c3 t w1 (HR.out.2.1.lies hf1) hx2 (HR.out.2.2.1.lies hf1) hx3 (HR.out.2.2.2.lies hf1) hx4 (H10.out.ro.lies hf1) hco (H10.out.rs.lies hf1) hcs (HR.out.1.lies hf1) hc3 HL.out.1 (vrA_len hvr)
    rw [hev] at he
    refine he.mono ?_
    rintro e w2 ⟨v, rfl, hE, hb⟩
    have f2 := hf1.trans (Fr.of_below hb (fun _ => False)) (fun _ h => h.elim)
    have hE' := hE
    obtain ⟨B1, d1, B2, d2, B3, d3, B4, d4, Y5, d5, Y6, d6, rfl, _⟩ := hE'
    exact ⟨B1, d1, B2, d2, B3, d3, B4, d4, Y5, d5, Y6, d6, rfl, hS _ f2, ⟨f2, hE⟩⟩
  have HS := Aside0.mk hS
  have hs10 := hS _ (Fr.refl _ _)
  have HA := Aside0.mk HA
  clear hS
  refine wp_region_noPanic ?_
  refine wp_region_held_drew (S := (fun w' => w'.cell? ⟨w4.heap.size, 0, none⟩ = some (.int .i64 x.kind) ∧ w'.cell? ⟨w4.heap.size, 1, none⟩ = some (.int .i64 x.view) ∧ w'.cell? ⟨w4.heap.size, 2, none⟩ = some (.int .i64 x.turn) ∧ w'.cell? ⟨w4.heap.size, 3, none⟩ = some (.int .i64 x.slot) ∧ w'.cell? ⟨w4.heap.size, 4, none⟩ = some (.int .i64 x.signer) ∧ w'.cell? ⟨b, 0, none⟩ = some (.int .i64 x.c) ∧ w'.cell? ⟨b, 1, none⟩ = some (.int .i64 x.s) ∧ w'.cell? ⟨b, 2, none⟩ = some (.slice X1 x.op.length e1) ∧ w'.cell? ⟨b, 3, none⟩ = some (.slice X2 x.sg.length e2) ∧ w'.cell? ⟨b, 4, none⟩ = some (.slice X3 x.t.length e3) ∧ w'.cell? ⟨gr, 0, none⟩ = some (.int .i64 c) ∧ w'.cell? ⟨gr, 1, none⟩ = some (.int .i64 s) ∧ w'.cell? ⟨gr, 2, none⟩ = some (.slice Ao op.length co) ∧ w'.cell? ⟨gr, 3, none⟩ = some (.slice As sg.length cs) ∧ w'.cell? ⟨W.heap.size, 0, none⟩ = some (.int .i64 si) ∧ w'.cell? ⟨W.heap.size, 1, none⟩ = some (.slice A3 t.length c3))) (by kernel_rfl) hs10 (fun hHeld => ?_)
  refine wpAnyH_take (i := 0) (oi := ⟨some 96, _, _, _, _, _⟩) (v := out) rfl (by kernel_rfl) (by kernel_rfl) (by kernel_rfl) (fun _ _ _ h => h) (Or.inl ⟨by rfl, by (intro w' hSw; (try dsimp only at hSw); go_simp)⟩) (by assumption) ?_
  try simp only [Act.put, List.setIfInBounds_toArray, List.set_cons_zero, List.set_cons_succ]
  refine wpAnyH_take (i := 1) (oi := ⟨some 97, _, _, _, _, _⟩) (v := (.agg #[.int .i64 x.kind, .int .i64 x.view, .int .i64 x.turn, .int .i64 x.slot, .int .i64 x.signer])) rfl (by kernel_rfl) (by kernel_rfl) (by kernel_rfl) (fun _ _ _ h => h) (Or.inl ⟨by rfl, by (intro w' hSw; (try dsimp only at hSw); go_simp)⟩) (by assumption) ?_
  try simp only [Act.put, List.setIfInBounds_toArray, List.set_cons_zero, List.set_cons_succ]
  refine wpAnyH_take (i := 2) (oi := ⟨some 98, _, _, _, _, _⟩) (v := (.pointer (some ⟨b, 0, none⟩))) rfl (by kernel_rfl) (by kernel_rfl) (by kernel_rfl) (fun _ _ _ h => h) (Or.inl ⟨by rfl, by (intro w' hSw; (try dsimp only at hSw); go_simp)⟩) (by assumption) ?_
  try simp only [Act.put, List.setIfInBounds_toArray, List.set_cons_zero, List.set_cons_succ]
  refine wpAnyH_take (i := 3) (oi := ⟨some 99, _, _, _, _, _⟩) (v := (.pointer (some ⟨b, 0, none⟩))) rfl (by kernel_rfl) (by kernel_rfl) (by kernel_rfl) (fun _ _ _ h => h) (Or.inl ⟨by rfl, by (intro w' hSw; (try dsimp only at hSw); go_simp)⟩) (by assumption) ?_
  try simp only [Act.put, List.setIfInBounds_toArray, List.set_cons_zero, List.set_cons_succ]
  refine wpAnyH_take (i := 4) (oi := ⟨some 100, _, _, _, _, _⟩) (v := (.pointer (some ⟨b, 0, none⟩))) rfl (by kernel_rfl) (by kernel_rfl) (by kernel_rfl) (fun _ _ _ h => h) (Or.inl ⟨by rfl, by (intro w' hSw; (try dsimp only at hSw); go_simp)⟩) (by assumption) ?_
  try simp only [Act.put, List.setIfInBounds_toArray, List.set_cons_zero, List.set_cons_succ]
  refine wpAnyH_take (i := 5) (oi := ⟨some 101, _, _, _, _, _⟩) (v := (.agg #[.int .i64 x.c, .int .i64 x.s, .slice X1 x.op.length e1, .slice X2 x.sg.length e2])) rfl (by kernel_rfl) (by kernel_rfl) (by kernel_rfl) (fun _ _ _ h => h) (Or.inl ⟨by rfl, by (intro w' hSw; (try dsimp only at hSw); go_simp)⟩) (by assumption) ?_
  try simp only [Act.put, List.setIfInBounds_toArray, List.set_cons_zero, List.set_cons_succ]
  refine wpAnyH_take (i := 6) (oi := ⟨some 102, _, _, _, _, _⟩) (v := (.agg #[.int .i64 c, .int .i64 s, .slice Ao op.length co, .slice As sg.length cs])) rfl (by kernel_rfl) (by kernel_rfl) (by kernel_rfl) (fun _ _ _ h => h) (Or.inl ⟨by rfl, by (intro w' hSw; (try dsimp only at hSw); go_simp)⟩) (by assumption) ?_
  try simp only [Act.put, List.setIfInBounds_toArray, List.set_cons_zero, List.set_cons_succ]
  refine wpAnyH_take (i := 7) (oi := ⟨some 103, _, _, _, _, _⟩) (v := (.pointer (some ⟨b, 0, none⟩))) rfl (by kernel_rfl) (by kernel_rfl) (by kernel_rfl) (fun _ _ _ h => h) (Or.inl ⟨by rfl, by (intro w' hSw; (try dsimp only at hSw); go_simp)⟩) (by assumption) ?_
  try simp only [Act.put, List.setIfInBounds_toArray, List.set_cons_zero, List.set_cons_succ]
  refine wpAnyH_take (i := 8) (oi := ⟨some 104, _, _, _, _, _⟩) (v := (.pointer (some ⟨b, 0, none⟩))) rfl (by kernel_rfl) (by kernel_rfl) (by kernel_rfl) (fun _ _ _ h => h) (Or.inl ⟨by rfl, by (intro w' hSw; (try dsimp only at hSw); go_simp)⟩) (by assumption) ?_
  try simp only [Act.put, List.setIfInBounds_toArray, List.set_cons_zero, List.set_cons_succ]
  refine wpAnyH_take (i := 9) (oi := ⟨some 105, _, _, _, _, _⟩) (v := (.pointer (some ⟨b, 4, none⟩))) rfl (by kernel_rfl) (by kernel_rfl) (by kernel_rfl) (fun _ _ _ h => h) (Or.inl ⟨by rfl, by (intro w' hSw; (try dsimp only at hSw); go_simp)⟩) (by assumption) ?_
  try simp only [Act.put, List.setIfInBounds_toArray, List.set_cons_zero, List.set_cons_succ]
  refine wpAnyH_take (i := 10) (oi := ⟨some 106, _, _, _, _, _⟩) (v := (.slice X3 x.t.length e3)) rfl (by kernel_rfl) (by kernel_rfl) (by kernel_rfl) (fun _ _ _ h => h) (Or.inl ⟨by rfl, by (intro w' hSw; (try dsimp only at hSw); go_simp)⟩) (by assumption) ?_
  try simp only [Act.put, List.setIfInBounds_toArray, List.set_cons_zero, List.set_cons_succ]
  refine wpAnyH_take (i := 11) (oi := ⟨some 107, _, _, _, _, _⟩) (v := (.pointer (some ⟨W.heap.size, 1, none⟩))) rfl (by kernel_rfl) (by kernel_rfl) (by kernel_rfl) (fun _ _ _ h => h) (Or.inl ⟨by rfl, by (intro w' hSw; (try dsimp only at hSw); go_simp)⟩) (by assumption) ?_
  try simp only [Act.put, List.setIfInBounds_toArray, List.set_cons_zero, List.set_cons_succ]
  refine wpAnyH_take (i := 12) (oi := ⟨some 108, _, _, _, _, _⟩) (v := (.slice A3 t.length c3)) rfl (by kernel_rfl) (by kernel_rfl) (by kernel_rfl) (fun _ _ _ h => h) (Or.inl ⟨by rfl, by (intro w' hSw; (try dsimp only at hSw); go_simp)⟩) (by assumption) ?_
  try simp only [Act.put, List.setIfInBounds_toArray, List.set_cons_zero, List.set_cons_succ]
  refine wpAnyH_ready (rs := [13]) (by kernel_rfl) (by simp) ?_
  refine AllReadyH.cons (o := ⟨some 109, _, _, _, _, _⟩) rfl (fun K hK => ?_) AllReadyH.nil
  go_simp
  go_at_call 27
  refine (HA.out _ (Fr.refl _ _).of_drew).mono ?_
  rintro e w11 ⟨B1, d1, B2, d2, B3, d3, B4, d4, Y5, d5, Y6, d6, rfl, hs11, H11⟩
  refine hK.out _ _ hs11 (fun hHeld => ?_)
  try simp only [Act.put, List.setIfInBounds_toArray, List.set_cons_zero, List.set_cons_succ]
  refine wpAnyH_ready (rs := [14]) (by kernel_rfl) (by simp) ?_
  refine AllReadyH.cons (o := ⟨some 110, _, _, _, _, _⟩) rfl (fun K hK => ?_) AllReadyH.nil
  go_simp
  have hb12 := below_alloc (Below.refl w11.heap.size w11) (.cells #[.int .i64 13, .int .i64 ev.view, .int .i64 ev.turn, .int .i64 ev.slot, .int .i64 ev.signer, .int .i64 0, .int .i64 ev.kind, .int .i64 0, .int .i64 ev.cX, .int .i64 ev.sX, .slice B1 ev.opX.length d1, .slice B2 ev.sgX.length d2, .int .i64 ev.cY, .int .i64 ev.sY, .slice B4 ev.opY.length d4, .slice Y5 ev.sgY.length d5, .slice Y6 ev.tY.length d6, .slice B3 ev.tX.length d3, .slice none 0 0, .slice none 0 0, .slice none 0 0, .slice none 0 0, .slice none 0 0] 48)
  have hg12 := heap_alloc_new w11 (.cells #[.int .i64 13, .int .i64 ev.view, .int .i64 ev.turn, .int .i64 ev.slot, .int .i64 ev.signer, .int .i64 0, .int .i64 ev.kind, .int .i64 0, .int .i64 ev.cX, .int .i64 ev.sX, .slice B1 ev.opX.length d1, .slice B2 ev.sgX.length d2, .int .i64 ev.cY, .int .i64 ev.sY, .slice B4 ev.opY.length d4, .slice Y5 ev.sgY.length d5, .slice Y6 ev.tY.length d6, .slice B3 ev.tX.length d3, .slice none 0 0, .slice none 0 0, .slice none 0 0, .slice none 0 0, .slice none 0 0] 48)
  generalize w11.alloc (.cells #[.int .i64 13, .int .i64 ev.view, .int .i64 ev.turn, .int .i64 ev.slot, .int .i64 ev.signer, .int .i64 0, .int .i64 ev.kind, .int .i64 0, .int .i64 ev.cX, .int .i64 ev.sX, .slice B1 ev.opX.length d1, .slice B2 ev.sgX.length d2, .int .i64 ev.cY, .int .i64 ev.sY, .slice B4 ev.opY.length d4, .slice Y5 ev.sgY.length d5, .slice Y6 ev.tY.length d6, .slice B3 ev.tX.length d3, .slice none 0 0, .slice none 0 0, .slice none 0 0, .slice none 0 0, .slice none 0 0] 48) = w12 at *
  have f12 := Fr.of_below hb12 (fun _ => False)
  have f1012 := H11.out.1.trans f12 (fun _ h => h.elim)
  have hs12 := HS.out _ f1012
  have H12 := H10.out.below f1012
  refine hK.out _ _ hs12 (fun hHeld => ?_)
  try simp only [Act.put, List.setIfInBounds_toArray, List.set_cons_zero, List.set_cons_succ]
  obtain ⟨css, hcl, hrow, hevs⟩ := H12.ev
  refine wpAnyH_ready (rs := [15]) (by kernel_rfl) (by simp) ?_
  refine AllReadyH.cons (o := ⟨some 111, _, _, _, _, _⟩) rfl (fun K hK => ?_) AllReadyH.nil
  rw [if_pos (by rfl)]
  refine wp_append_msg _ _ (by rfl) w.heap.size out E.length css.flatten (by rfl) hrow ⟨w11.heap.size, 0, none⟩ [.int .i64 13, .int .i64 ev.view, .int .i64 ev.turn, .int .i64 ev.slot, .int .i64 ev.signer, .int .i64 0, .int .i64 ev.kind, .int .i64 0, .int .i64 ev.cX, .int .i64 ev.sX, .slice B1 ev.opX.length d1, .slice B2 ev.sgX.length d2, .int .i64 ev.cY, .int .i64 ev.sY, .slice B4 ev.opY.length d4, .slice Y5 ev.sgY.length d5, .slice Y6 ev.tY.length d6, .slice B3 ev.tX.length d3, .slice none 0 0, .slice none 0 0, .slice none 0 0, .slice none 0 0, .slice none 0 0] (by rfl) rfl (fun j u hu => by
    rw [add_at, Nat.zero_add]
    simp only [World.cell?, hg12]
    simpa using hu) (by simp [Value.oneCell']) HL.out.2.2.2.2.2.2.1 H12.F.size ?_
  intro v13 w13 hrow13 hf13
  have hnm : ∀ {k : Nat} {cells : Array Value} {t : TypeId} {fr : Nat × Nat}, w12.heap[k]? = some (.cells cells t fr) → t ≠ 48 → ¬ (some k = out.ownBlock) := fun hc ht e => by
    obtain ⟨_, cells', hc'⟩ := row_type hrow _ e.symm
    rw [hc'] at hc
    injection hc with hc
    injection hc with _ hc _
    exact ht hc.symm
  have hs13 : w13.cell? ⟨w4.heap.size, 0, none⟩ = some (.int .i64 x.kind) ∧ w13.cell? ⟨w4.heap.size, 1, none⟩ = some (.int .i64 x.view) ∧ w13.cell? ⟨w4.heap.size, 2, none⟩ = some (.int .i64 x.turn) ∧ w13.cell? ⟨w4.heap.size, 3, none⟩ = some (.int .i64 x.slot) ∧ w13.cell? ⟨w4.heap.size, 4, none⟩ = some (.int .i64 x.signer) ∧ w13.cell? ⟨b, 0, none⟩ = some (.int .i64 x.c) ∧ w13.cell? ⟨b, 1, none⟩ = some (.int .i64 x.s) ∧ w13.cell? ⟨b, 2, none⟩ = some (.slice X1 x.op.length e1) ∧ w13.cell? ⟨b, 3, none⟩ = some (.slice X2 x.sg.length e2) ∧ w13.cell? ⟨b, 4, none⟩ = some (.slice X3 x.t.length e3) ∧ w13.cell? ⟨gr, 0, none⟩ = some (.int .i64 c) ∧ w13.cell? ⟨gr, 1, none⟩ = some (.int .i64 s) ∧ w13.cell? ⟨gr, 2, none⟩ = some (.slice Ao op.length co) ∧ w13.cell? ⟨gr, 3, none⟩ = some (.slice As sg.length cs) ∧ w13.cell? ⟨W.heap.size, 0, none⟩ = some (.int .i64 si) ∧ w13.cell? ⟨W.heap.size, 1, none⟩ = some (.slice A3 t.length c3) := by
    have g1 := f1012.blk HG.out.1 (fun h => h)
    have g2 := f1012.blk HG.out.2.2.1 (fun h => h)
    have g3 := f1012.blk H10.out.hr (fun h => h)
    have g4 := f1012.blk HG.out.2.1 (fun h => h)
    have h1 := hf13.blk g1 (hnm g1 (by decide))
    have h2 := hf13.blk g2 (hnm g2 (by decide))
    have h3 := hf13.blk g3 (hnm g3 (by decide))
    have h4 := hf13.blk g4 (hnm g4 (by decide))
    simp [World.cell?, h1, h2, h3, h4, snc]
  refine hK.out _ _ hs13 (fun hHeld => ?_)
  try simp only [Act.put, List.setIfInBounds_toArray, List.set_cons_zero, List.set_cons_succ]
  refine wpAnyH_take (i := 16) (oi := ⟨some 13, _, _, _, _, _⟩) (v := v13) rfl (by kernel_rfl) (by kernel_rfl) (by kernel_rfl) (fun _ _ _ h => h) (Or.inl ⟨by rfl, by (intro w' hSw; (try dsimp only at hSw); go_simp)⟩) (by assumption) ?_
  try simp only [Act.put, List.setIfInBounds_toArray, List.set_cons_zero, List.set_cons_succ]
  refine wpAnyH_done (by kernel_rfl) ?_ _
  refine NoPanic.normal ?_
  have hbt : ∀ k cells, w12.heap[k]? = some (.cells cells 5 (0, 0)) → ¬ (some k = out.ownBlock) := fun k cells hc => hnm hc (by decide)
  have hev13 : EvRow w13 w.heap.size v13 (E ++ [ev]) := by
    refine ⟨css ++ [[.int .i64 13, .int .i64 ev.view, .int .i64 ev.turn, .int .i64 ev.slot, .int .i64 ev.signer, .int .i64 0, .int .i64 ev.kind, .int .i64 0, .int .i64 ev.cX, .int .i64 ev.sX, .slice B1 ev.opX.length d1, .slice B2 ev.sgX.length d2, .int .i64 ev.cY, .int .i64 ev.sY, .slice B4 ev.opY.length d4, .slice Y5 ev.sgY.length d5, .slice Y6 ev.tY.length d6, .slice B3 ev.tX.length d3, .slice none 0 0, .slice none 0 0, .slice none 0 0, .slice none 0 0, .slice none 0 0]], by simp [hcl], ?_, fun j' e' c' hj' hc' => ?_⟩
    · rw [List.length_append, List.length_singleton, List.flatten_append]
      simpa using hrow13
    · by_cases hjl : j' < E.length
      · rw [List.getElem?_append_left hjl] at hj'
        rw [List.getElem?_append_left (by rw [hcl]; exact hjl)] at hc'
        exact ⟨(hevs j' e' c' hj' hc').1, (hevs j' e' c' hj' hc').2.frT hf13 hbt⟩
      · have hj2 : j' = E.length := by
          have := (List.getElem?_eq_some_iff.1 hj').1
          simp only [List.length_append, List.length_singleton] at this
          omega
        subst hj2
        have e1 : e' = ev := by simpa using hj'.symm
        rw [← hcl] at hc'
        have e2 : c' = [.int .i64 13, .int .i64 ev.view, .int .i64 ev.turn, .int .i64 ev.slot, .int .i64 ev.signer, .int .i64 0, .int .i64 ev.kind, .int .i64 0, .int .i64 ev.cX, .int .i64 ev.sX, .slice B1 ev.opX.length d1, .slice B2 ev.sgX.length d2, .int .i64 ev.cY, .int .i64 ev.sY, .slice B4 ev.opY.length d4, .slice Y5 ev.sgY.length d5, .slice Y6 ev.tY.length d6, .slice B3 ev.tX.length d3, .slice none 0 0, .slice none 0 0, .slice none 0 0, .slice none 0 0, .slice none 0 0] := by simpa using hc'.symm
        subst e1 e2
        exact ⟨rfl, (H11.out.2.frT f12 (fun _ _ _ e => e)).frT hf13 hbt⟩
  have H13 := Aside0.mk (H12.app hf13 hev13)
  clear hs10 hs11 hs12 hs13 hHeld HA HS H10 H11 HG HR hrow hrow13 hevs hnm hbt hev13
  have b5 := B5.out
  go_wp2
  exact HH.out.2.2.2 _ _ _ _ _ _ _ ⟨rfl, rfl⟩ rfl rfl rfl rfl rfl rfl rfl rfl rfl rfl H13.out (.inr (.inr (.inr (.inr ⟨hvr, j, x, hSj, hxk, htd, HBE.out, rfl, by rw [hev]⟩))))
end Go.Proofs.Ytnabilhcmplhcaa.Sha
