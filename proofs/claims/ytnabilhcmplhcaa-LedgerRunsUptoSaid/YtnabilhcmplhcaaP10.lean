/- Parts of the proof of LedgerRunsUptoSaid: laid together and cut down to what LedgerRuns' proof uses (parts: LrG). -/
import Derived.Test.YtnabilhcmplhcaaP9
import Derived.Deep.RegionHeld3
import Derived.Test.YtnabilhcmplhcaaP5
section
/-
  The document's Note: a round.
-/
set_option linter.unusedVariables false
set_option linter.unusedSimpArgs false
namespace Go.Proofs.Ytnabilhcmplhcaa.Sha
open Go.RowKit Go.Proofs.YtnabilhcmplhcaaW.PrintWords Go.Proofs.YtnabilhcmplhcaaW.PrintLast Go.Proofs.YtnabilhcmplhcaaW.PrintMore Go.Proofs.Ytnabilhcmplhcaa.Q Go.Proofs.Ytnabilhcmplhcaa.Fr Go.Proofs.Ytnabilhcmplhcaa.Oct

set_option maxHeartbeats 8000000 in
set_option maxRecDepth 100000 in
theorem roundRn (u : Nat → Value) (kind view turn slot c s : Int) (Ao : Option Addr) (co : Nat) (op : List Int) (As : Option Addr) (cs : Nat) (sg : List Int) (Av : Option Addr) (cv : Nat) (V : List (Int × List Int)) (i : Nat) (si : Int) (t : List Int) (hv : V[i]? = some (si, t)) (hV : V.length ≤ 1048576) (w0 W : World) (gb gr : Nat) (l : Value) (S : List Sn) (out : Value) (E : List Ev)
    (lo : op.length + sg.length ≤ 1048576) (bo : Bys op) (bs : Bys sg) (lt : t.length ≤ 140737488355327) (bt : Bys t) (wk : (Lit.int .i64 kind).wf = true) (wv : (Lit.int .i64 view).wf = true) (wt : (Lit.int .i64 turn).wf = true) (wl : (Lit.int .i64 slot).wf = true) (wi : (Lit.int .i64 si).wf = true) (hE : E.length ≤ 1048575) (hSl : S.length ≤ 1048575) (H : Rt w0 W view turn c s Ao co op As cs sg Av V gb gr l S out E)
    (Q : Exit → Act → World → Prop) (hQ : ∀ a' W' l' S' out' E', Fm 105 a' → sl a' 0 = l' → sl a' 1 = .int .i64 kind → sl a' 3 = .int .i64 slot → sl a' 8 = .pointer (some ⟨gb, 0, none⟩) → sl a' 10 = .pointer (some ⟨gr, 0, none⟩) → sl a' 14 = out' → sl a' 30 = .slice Av V.length cv → sl a' 31 = .int .i64 (V.length : Int) → sl a' 32 = .int .i64 ((i : Int) + 1) → Rt w0 W' view turn c s Ao co op As cs sg Av V gb gr l' S' out' E' → Step kind view turn slot c s op sg S E (si, t) S' E' → Q .normal a' W') :
    Code.wp Try.prog (bodyN Try.f15 0) Q ⟨#[l, .int .i64 kind, u 2, .int .i64 slot, u 4, u 5, u 6, u 7, .pointer (some ⟨gb, 0, none⟩), u 9, .pointer (some ⟨gr, 0, none⟩), u 11, u 12, u 13, out, u 15, u 16, u 17, u 18, u 19, u 20, u 21, u 22, u 23, u 24, u 25, u 26, u 27, u 28, u 29, .slice Av V.length cv, .int .i64 (V.length : Int), .int .i64 (i : Int), u 33, u 34, u 35, u 36, u 37, u 38, u 39, u 40, u 41, u 42, u 43, u 44, u 45, u 46, u 47, u 48, u 49, u 50, u 51, u 52, u 53, u 54, u 55, u 56, u 57, u 58, u 59, u 60, u 61, u 62, u 63, u 64, u 65, u 66, u 67, u 68, u 69, u 70, u 71, u 72, u 73, u 74, u 75, u 76, u 77, u 78, u 79, u 80, u 81, u 82, u 83, u 84, u 85, u 86, u 87, u 88, u 89, u 90, u 91, u 92, u 93, u 94, u 95, u 96, u 97, u 98, u 99, u 100, u 101, u 102, u 103, u 104], []⟩ W := by
  have hFw := H.F
  obtain ⟨ad, A3, c3, rfl, x0, x1, hc3, hr3⟩ := H.vr i (si, t) hv
  simp only at x0 x1 hc3 hr3
  replace x0 := hFw.cell x0 (fun h => h)
  replace x1 := hFw.cell x1 (fun h => h)
  have hlb := bodyA_len c s op sg
  obtain ⟨m, hm⟩ : ∃ m, V.length = m := ⟨_, rfl⟩
  have hi : i < m := by rw [← hm]; exact (List.getElem?_eq_some_iff.1 hv).1
  rw [hm] at hV hQ ⊢
  obtain ⟨Al, cl, rfl, hcl, _⟩ := H.lr.wr hFw H.ok (by omega)
  have b0 : decide ((i : Int) < (m : Int)) = true := decide_eq_true (by omega)
  have b1 : (0 : Int) ≤ (i : Int) := by omega
  have b2 : (i : Int) < (m : Int) := by omega
  have b5 : wrap64 ((i : Int) + 1) = (i : Int) + 1 := by unfold wrap64; omega
  have B5 := Aside0.mk b5
  have HL := Aside0.mk (And.intro lo (And.intro lt (And.intro bt (And.intro hlb (And.intro bo (And.intro bs (And.intro hE (And.intro hSl hm))))))))
  have HW := Aside0.mk (And.intro wk (And.intro wv (And.intro wt (And.intro wl wi))))
  have HH := Aside0.mk (And.intro H (And.intro hr3 (And.intro hv hQ)))
  obtain ⟨vb, hvr⟩ : ∃ b, vrA kind view turn slot (bodyA c s op sg) si t = b := ⟨_, rfl⟩
  have HVR := Aside0.mk hvr
  clear b5 hV hm H hr3 hQ hv lo lt bt hlb bo bs wk wv wt wl wi hE hSl hFw hvr
  conv => arg 2; whnf
  go_wp2_with (first | ((with_reducible refine gate_dst (N := 16) rfl ?_); refine wpList_alloc_abs (by rfl) 55 (by rfl) (.agg Z2v) (by kernel_rfl) ?_; intro w2 hb2 hs2 hg2) | ((with_reducible refine gate_store (p := 16) rfl ?_); refine Aside0.out ?_))
  refine ⟨?_⟩
  refine wpList_store_abs (by rfl) 55 _ _ (by rfl) W.heap.size #[.int .i64 si, .slice A3 t.length c3] (by rfl) (by rfl) 55 Z2v hg2 (by kernel_rfl) (by rfl) (by simp [Value.oneCell']) ?_
  intro w3 hf3 hs3 hg3
  have F3 : Fr (fun _ => False) W w3 := (Fr.of_below hb2 (fun _ => False)).trans hf3 (fun k hk => .inr (by omega))
  have H3 := Aside0.mk (And.intro (HH.out.1.below F3) hg3)
  clear hb2 hs2 hg2 hf3 hs3 hg3 x0 x1 F3
  obtain ⟨bb, hbb⟩ : ∃ l, bodyA c s op sg = l := ⟨_, rfl⟩
  have HBB := Aside0.mk hbb
  clear hbb
  have hS : ∀ w', Fr (fun _ => False) w3 w' → w'.cell? ⟨gb, 0, none⟩ = some (.int .i64 view) ∧ w'.cell? ⟨gb, 1, none⟩ = some (.int .i64 turn) ∧ w'.cell? ⟨gr, 0, none⟩ = some (.int .i64 c) ∧ w'.cell? ⟨gr, 1, none⟩ = some (.int .i64 s) ∧ w'.cell? ⟨gr, 2, none⟩ = some (.slice Ao op.length co) ∧ w'.cell? ⟨gr, 3, none⟩ = some (.slice As sg.length cs) ∧ w'.cell? ⟨W.heap.size, 0, none⟩ = some (.int .i64 si) ∧ w'.cell? ⟨W.heap.size, 1, none⟩ = some (.slice A3 t.length c3) := fun w' hf => by
    have h1 := hf.blk H3.out.1.hb (fun h => h)
    have h2 := hf.blk H3.out.1.hr (fun h => h)
    have h3 := hf.blk H3.out.2 (fun h => h)
    simp [World.cell?, h1, h2, h3]
  have HA : ∀ w1, Fr (fun _ => False) w3 w1 → Calls Try.prog 29 #[.agg #[.int .i64 c, .int .i64 s, .slice Ao op.length co, .slice As sg.length cs]] w1 fun e w2 => ∃ A y, e = .returned (.slice A bb.length y) ∧ (w2.cell? ⟨gb, 0, none⟩ = some (.int .i64 view) ∧ w2.cell? ⟨gb, 1, none⟩ = some (.int .i64 turn) ∧ w2.cell? ⟨gr, 0, none⟩ = some (.int .i64 c) ∧ w2.cell? ⟨gr, 1, none⟩ = some (.int .i64 s) ∧ w2.cell? ⟨gr, 2, none⟩ = some (.slice Ao op.length co) ∧ w2.cell? ⟨gr, 3, none⟩ = some (.slice As sg.length cs) ∧ w2.cell? ⟨W.heap.size, 0, none⟩ = some (.int .i64 si) ∧ w2.cell? ⟨W.heap.size, 1, none⟩ = some (.slice A3 t.length c3)) ∧ Aside0 (Fr (fun _ => False) w3 w2 ∧ Rd w2 A bb ∧ bb.length ≤ y) := by
    intro w1 hf1
    have F := H3.out.1.F.trans hf1 (fun _ h => h.elim)
    refine (rbody_calls c s Ao co op As cs sg w1 (H3.out.1.ro.2.lies F) H3.out.1.ro.1 (H3.out.1.rs.2.lies F) H3.out.1.rs.1 HL.out.1).mono ?_
    rintro e w2 ⟨v, rfl, hO, hb⟩
    rw [HBB.out] at hO
    obtain ⟨A, y, rfl, hy⟩ := hO.slice
    have f2 := hf1.trans (Fr.of_below hb (fun _ => False)) (fun _ h => h.elim)
    exact ⟨A, y, rfl, hS _ f2, ⟨f2, QB.rd (q_of_own hO), hy⟩⟩
  have HB : ∀ w1 A y, Aside0 (Fr (fun _ => False) w3 w1 ∧ Rd w1 A bb ∧ bb.length ≤ y) → Calls Try.prog 28 #[.int .i64 kind, .agg #[.int .i64 view, .int .i64 turn], .int .i64 slot, .slice A bb.length y, .agg #[.int .i64 si, .slice A3 t.length c3]] w1 fun e w2 => e = .returned (.bool vb) ∧ (w2.cell? ⟨gb, 0, none⟩ = some (.int .i64 view) ∧ w2.cell? ⟨gb, 1, none⟩ = some (.int .i64 turn) ∧ w2.cell? ⟨gr, 0, none⟩ = some (.int .i64 c) ∧ w2.cell? ⟨gr, 1, none⟩ = some (.int .i64 s) ∧ w2.cell? ⟨gr, 2, none⟩ = some (.slice Ao op.length co) ∧ w2.cell? ⟨gr, 3, none⟩ = some (.slice As sg.length cs) ∧ w2.cell? ⟨W.heap.size, 0, none⟩ = some (.int .i64 si) ∧ w2.cell? ⟨W.heap.size, 1, none⟩ = some (.slice A3 t.length c3)) ∧ Aside0 (Fr (fun _ => False) w3 w2) := by
    intro w1 A y Hx
    have F := H3.out.1.F.trans Hx.out.1 (fun _ h => h.elim)
    have hrc := rright_calls kind view turn slot A y bb si A3 c3 t w1 Hx.out.2.1 Hx.out.2.2 (by rw [← HBB.out]; have := HL.out; omega) (by rw [← HBB.out]; exact bodyA_bys HL.out.2.2.2.2.1 HL.out.2.2.2.2.2.1) (HH.out.2.1.lies F) hc3 (by have := HL.out; omega) HL.out.2.2.1
    rw [← HBB.out, HVR.out] at hrc
    rw [← HBB.out]
    refine hrc.mono ?_
    rintro e w2 ⟨rfl, hb⟩
    have f2 := Hx.out.1.trans (Fr.of_below hb (fun _ => False)) (fun _ h => h.elim)
    exact ⟨rfl, hS _ f2, ⟨f2⟩⟩
  have hs3' := hS _ (Fr.refl _ _)
  have HA := Aside0.mk HA
  have HB := Aside0.mk HB
  clear hS
  go_wp2_with (fail)
  refine wp_cut (fun a' w' => Fm 105 a' ∧ sl a' 0 = .slice Al S.length cl ∧ sl a' 1 = .int .i64 kind ∧ sl a' 3 = .int .i64 slot ∧ sl a' 8 = .pointer (some ⟨gb, 0, none⟩) ∧ sl a' 10 = .pointer (some ⟨gr, 0, none⟩) ∧ sl a' 14 = out ∧ sl a' 16 = .pointer (some ⟨W.heap.size, 0, none⟩) ∧ sl a' 30 = .slice (some ad) m cv ∧ sl a' 31 = .int .i64 (m : Int) ∧ sl a' 32 = .int .i64 (i : Int) ∧ sl a' 43 = .bool (!vb) ∧ Aside0 (Fr (fun _ => False) w3 w')) ?_ ?_
  · refine wp_region_noPanic ?_
    refine wp_region_held_drew (S := (fun w' => w'.cell? ⟨gb, 0, none⟩ = some (.int .i64 view) ∧ w'.cell? ⟨gb, 1, none⟩ = some (.int .i64 turn) ∧ w'.cell? ⟨gr, 0, none⟩ = some (.int .i64 c) ∧ w'.cell? ⟨gr, 1, none⟩ = some (.int .i64 s) ∧ w'.cell? ⟨gr, 2, none⟩ = some (.slice Ao op.length co) ∧ w'.cell? ⟨gr, 3, none⟩ = some (.slice As sg.length cs) ∧ w'.cell? ⟨W.heap.size, 0, none⟩ = some (.int .i64 si) ∧ w'.cell? ⟨W.heap.size, 1, none⟩ = some (.slice A3 t.length c3))) (by kernel_rfl) hs3' (fun hHeld => ?_)
    refine wpAnyH_take (i := 0) (oi := ⟨some 36, _, _, _, _, _⟩) (v := (.int .i64 kind)) rfl (by kernel_rfl) (by kernel_rfl) (by kernel_rfl) (fun _ _ _ h => h) (Or.inl ⟨by rfl, by (intro w' hSw; (try dsimp only at hSw); go_simp)⟩) (by assumption) ?_
    try simp only [Act.put, List.setIfInBounds_toArray, List.set_cons_zero, List.set_cons_succ]
    refine wpAnyH_take (i := 1) (oi := ⟨some 37, _, _, _, _, _⟩) (v := (.agg #[.int .i64 view, .int .i64 turn])) rfl (by kernel_rfl) (by kernel_rfl) (by kernel_rfl) (fun _ _ _ h => h) (Or.inl ⟨by rfl, by (intro w' hSw; (try dsimp only at hSw); go_simp)⟩) (by assumption) ?_
    try simp only [Act.put, List.setIfInBounds_toArray, List.set_cons_zero, List.set_cons_succ]
    refine wpAnyH_take (i := 2) (oi := ⟨some 38, _, _, _, _, _⟩) (v := (.int .i64 slot)) rfl (by kernel_rfl) (by kernel_rfl) (by kernel_rfl) (fun _ _ _ h => h) (Or.inl ⟨by rfl, by (intro w' hSw; (try dsimp only at hSw); go_simp)⟩) (by assumption) ?_
    try simp only [Act.put, List.setIfInBounds_toArray, List.set_cons_zero, List.set_cons_succ]
    refine wpAnyH_take (i := 3) (oi := ⟨some 39, _, _, _, _, _⟩) (v := (.agg #[.int .i64 c, .int .i64 s, .slice Ao op.length co, .slice As sg.length cs])) rfl (by kernel_rfl) (by kernel_rfl) (by kernel_rfl) (fun _ _ _ h => h) (Or.inl ⟨by rfl, by (intro w' hSw; (try dsimp only at hSw); go_simp)⟩) (by assumption) ?_
    try simp only [Act.put, List.setIfInBounds_toArray, List.set_cons_zero, List.set_cons_succ]
    refine wpAnyH_take (i := 5) (oi := ⟨some 41, _, _, _, _, _⟩) (v := (.agg #[.int .i64 si, .slice A3 t.length c3])) rfl (by kernel_rfl) (by kernel_rfl) (by kernel_rfl) (fun _ _ _ h => h) (Or.inl ⟨by rfl, by (intro w' hSw; (try dsimp only at hSw); go_simp)⟩) (by assumption) ?_
    try simp only [Act.put, List.setIfInBounds_toArray, List.set_cons_zero, List.set_cons_succ]
    refine wpAnyH_ready (rs := [4]) (by kernel_rfl) (by simp) ?_
    refine AllReadyH.cons (o := ⟨some 40, _, _, _, _, _⟩) rfl (fun K hK => ?_) AllReadyH.nil
    go_simp
    go_at_call 29
    refine (HA.out _ (Fr.refl _ _).of_drew).mono ?_
    rintro e w4 ⟨A4, y4, rfl, hs4, H4⟩
    refine hK.out _ _ hs4 (fun hHeld => ?_)
    try simp only [Act.put, List.setIfInBounds_toArray, List.set_cons_zero, List.set_cons_succ]
    refine wpAnyH_ready (rs := [6]) (by kernel_rfl) (by simp) ?_
    refine AllReadyH.cons (o := ⟨some 42, _, _, _, _, _⟩) rfl (fun K hK => ?_) AllReadyH.nil
    go_simp
    go_at_call 28
    refine (HB.out _ _ y4 H4).mono ?_
    rintro e w5 ⟨rfl, hs5, H5⟩
    refine hK.out _ _ hs5 (fun hHeld => ?_)
    try simp only [Act.put, List.setIfInBounds_toArray, List.set_cons_zero, List.set_cons_succ]
    refine wpAnyH_take (i := 7) (oi := ⟨some 43, _, _, _, _, _⟩) (v := (.bool (!vb))) rfl (by kernel_rfl) (by kernel_rfl) (by kernel_rfl) (fun _ _ _ h => h) (Or.inl ⟨by rfl, by (intro w' hSw; (try dsimp only at hSw); go_simp)⟩) (by assumption) ?_
    try simp only [Act.put, List.setIfInBounds_toArray, List.set_cons_zero, List.set_cons_succ]
    refine wpAnyH_done (by kernel_rfl) ?_ _
    refine NoPanic.normal ?_
    exact ⟨rfl, ⟨rfl, rfl⟩, rfl, rfl, rfl, rfl, rfl, rfl, rfl, rfl, rfl, rfl, rfl, H5⟩
  rintro a' w5 ⟨hFm, j0, j1, j3, j8, j10, j14, j16, j30, j31, j32, j43, f5⟩
  rw [fm105 hFm, j0, j1, j3, j8, j10, j14, j16, j30, j31, j32, j43]
  clear hFm j0 j1 j3 j8 j10 j14 j16 j30 j31 j32 j43 HA HB hs3'
  have f5 := f5.out
  have H5 := Aside0.mk (And.intro (H3.out.1.below f5) (f5.blk H3.out.2 (fun h => h)))
  clear H3 f5
  cases vb with
  | false =>
    have b5 := B5.out
    go_wp2
    exact HH.out.2.2.2 _ _ _ _ _ _ ⟨rfl, rfl⟩ rfl rfl rfl rfl rfl rfl rfl rfl (congrArg (Value.int .i64) B5.out) H5.out.1 (.inl ⟨HVR.out, rfl, rfl⟩)
  | true =>
    by_cases hh : ∃ (j : Nat) (x : Sn), S[j]? = some x ∧ isAt x kind view turn slot si
    · obtain ⟨j, x, hj, hx⟩ := hh
      have HX := Aside0.mk (And.intro hj hx)
      have hjl : j < S.length := (List.getElem?_eq_some_iff.1 hj).1
      clear hj hx
      have y : w5.cell? ⟨W.heap.size, 0, none⟩ = some (.int .i64 si) ∧ w5.cell? ⟨W.heap.size, 1, none⟩ = some (.slice A3 t.length c3) := by simp [World.cell?, H5.out.2]
      have q : w5.cell? ⟨gb, 0, none⟩ = some (.int .i64 view) ∧ w5.cell? ⟨gb, 1, none⟩ = some (.int .i64 turn) := by simp [World.cell?, H5.out.1.hb]
      obtain ⟨y0, y1⟩ := y
      obtain ⟨q0, q1⟩ := q
      obtain ⟨A', c', e', _, hwr⟩ := H5.out.1.lr.wr H5.out.1.F H5.out.1.ok (by have := HL.out; omega)
      injection e' with e1 _ e3
      subst e1 e3
      have HWR := Aside0.mk hwr
      clear hwr
      go_wp2_with (fail)
      refine (find_yes S (by have := HL.out; omega) Al cl w5 HWR.out hcl kind view turn slot si j x HX.out.1 HX.out.2 H5.out.1.nd).mono ?_
      rintro e w6 ⟨rfl, hb6⟩
      have f6 := Fr.of_below hb6 (fun _ => False)
      have H6 := Aside0.mk (And.intro (H5.out.1.below f6) (f6.blk H5.out.2 (fun h => h)))
      clear hb6 f6 H5 HWR y0 y1 q0 q1
      by_cases htd : x.told = true
      · have cj : decide ((j : Int) < 0) = false := decide_eq_false (by omega)
        have b3 : (0 : Int) ≤ (j : Int) := by omega
        have b4 : (j : Int) < (S.length : Int) := by omega
        obtain ⟨g, cap, X1, e1, X2, e2, X3, e3, cur, hel, hgc, hcur, lx1, lx2, lx3⟩ := H6.out.1.lr.elem HX.out.1
        injection hel with el1 _ el3
        obtain ⟨ad2, had⟩ : ∃ z, (⟨g, 0, none⟩ : Addr) = z := ⟨_, rfl⟩
        rw [had] at el1
        subst el1 el3
        have hp : ad2.add (j * 11) = ⟨g, j * 11, none⟩ := by rw [← had, add_at, Nat.zero_add]
        have hS : ∀ w', Fr (fun _ => False) w6 w' → w'.cell? ⟨(ad2.add (j * 11)).block, (ad2.add (j * 11)).off + 10, none⟩ = some (.bool true) := fun w' hf => by
          have h1 := hf.blk hgc (fun h => h)
          have hc : ∀ (k : Nat) (u : Value), (snW X1 e1 X2 e2 X3 e3 x)[k]? = some u → w'.cell? ⟨g, j * 11 + k, none⟩ = some u := fun k u hu => by
            simp only [World.cell?, h1]
            simpa using hcur k u hu
          have c10 := hc 10 _ rfl
          rw [htd] at c10
          rw [hp]
          exact c10
        have hs6' := hS _ (Fr.refl _ _)
        clear hS
        have HG := Aside0.mk (And.intro hgc (And.intro hp had))
        clear hgc hcur hp
        go_wp2_with (fail)
        refine wp_cut (fun a' w' => Fm 105 a' ∧ sl a' 0 = .slice (some ad2) S.length cl ∧ sl a' 1 = .int .i64 kind ∧ sl a' 3 = .int .i64 slot ∧ sl a' 8 = .pointer (some ⟨gb, 0, none⟩) ∧ sl a' 10 = .pointer (some ⟨gr, 0, none⟩) ∧ sl a' 14 = out ∧ sl a' 16 = .pointer (some ⟨W.heap.size, 0, none⟩) ∧ sl a' 30 = .slice (some ad) m cv ∧ sl a' 31 = .int .i64 (m : Int) ∧ sl a' 32 = .int .i64 (i : Int) ∧ sl a' 17 = .int .i64 (j : Int) ∧ sl a' 86 = .bool false ∧ Aside0 (Fr (fun _ => False) w6 w')) ?_ ?_
        · refine wp_region_noPanic ?_
          refine wp_region_held_drew (S := (fun w' => w'.cell? ⟨(ad2.add (j * 11)).block, (ad2.add (j * 11)).off + 10, none⟩ = some (.bool true))) (by kernel_rfl) hs6' (fun hHeld => ?_)
          refine wpAnyH_take (i := 0) (oi := ⟨some 69, _, _, _, _, _⟩) (v := (.slice (some ad2) S.length cl)) rfl (by kernel_rfl) (by kernel_rfl) (by kernel_rfl) (fun _ _ _ h => h) (Or.inl ⟨by rfl, by (intro w' hSw; (try dsimp only at hSw); go_simp)⟩) (by assumption) ?_
          try simp only [Act.put, List.setIfInBounds_toArray, List.set_cons_zero, List.set_cons_succ]
          refine wpAnyH_take (i := 1) (oi := ⟨some 70, _, _, _, _, _⟩) (v := (.int .i64 (j : Int))) rfl (by kernel_rfl) (by kernel_rfl) (by kernel_rfl) (fun _ _ _ h => h) (Or.inl ⟨by rfl, by (intro w' hSw; (try dsimp only at hSw); go_simp)⟩) (by assumption) ?_
          try simp only [Act.put, List.setIfInBounds_toArray, List.set_cons_zero, List.set_cons_succ]
          refine wpAnyH_take (i := 2) (oi := ⟨some 71, _, _, _, _, _⟩) (v := (.pointer (some (ad2.add (j * 11))))) rfl (by kernel_rfl) (by kernel_rfl) (by kernel_rfl) (fun _ _ _ h => h) (Or.inl ⟨by rfl, by (intro w' hSw; (try dsimp only at hSw); go_simp)⟩) (by assumption) ?_
          try simp only [Act.put, List.setIfInBounds_toArray, List.set_cons_zero, List.set_cons_succ]
          refine wpAnyH_take (i := 3) (oi := ⟨some 72, _, _, _, _, _⟩) (v := (.pointer (some ⟨(ad2.add (j * 11)).block, (ad2.add (j * 11)).off + 10, none⟩))) rfl (by kernel_rfl) (by kernel_rfl) (by kernel_rfl) (fun _ _ _ h => h) (Or.inl ⟨by rfl, by (intro w' hSw; (try dsimp only at hSw); go_simp)⟩) (by assumption) ?_
          try simp only [Act.put, List.setIfInBounds_toArray, List.set_cons_zero, List.set_cons_succ]
          refine wpAnyH_take (i := 4) (oi := ⟨some 73, _, _, _, _, _⟩) (v := (.bool true)) rfl (by kernel_rfl) (by kernel_rfl) (by kernel_rfl) (fun _ _ _ h => h) (Or.inl ⟨by rfl, by (intro w' hSw; (try dsimp only at hSw); go_simp)⟩) (by assumption) ?_
          try simp only [Act.put, List.setIfInBounds_toArray, List.set_cons_zero, List.set_cons_succ]
          refine wpAnyH_take (i := 5) (oi := ⟨some 74, _, _, _, _, _⟩) (v := (.bool false)) rfl (by kernel_rfl) (by kernel_rfl) (by kernel_rfl) (fun _ _ _ h => h) (Or.inl ⟨by rfl, by (intro w' hSw; (try dsimp only at hSw); go_simp)⟩) (by assumption) ?_
          try simp only [Act.put, List.setIfInBounds_toArray, List.set_cons_zero, List.set_cons_succ]
          refine wpAnyH_take (i := 6) (oi := ⟨some 75, _, _, _, _, _⟩) (v := (.bool false)) rfl (by kernel_rfl) (by kernel_rfl) (by kernel_rfl) (fun _ _ _ h => h) (Or.inl ⟨by rfl, by (intro w' hSw; (try dsimp only at hSw); go_simp)⟩) (by assumption) ?_
          try simp only [Act.put, List.setIfInBounds_toArray, List.set_cons_zero, List.set_cons_succ]
          refine wpAnyH_take (i := 7) (oi := ⟨some 76, _, _, _, _, _⟩) (v := undef) rfl (by kernel_rfl) (by kernel_rfl) (by kernel_rfl) (fun _ _ _ h => h) (Or.inr ⟨by rfl, rfl⟩) (by assumption) ?_
          try simp only [Act.put, List.setIfInBounds_toArray, List.set_cons_zero, List.set_cons_succ]
          refine wpAnyH_take (i := 8) (oi := ⟨some 77, _, _, _, _, _⟩) (v := undef) rfl (by kernel_rfl) (by kernel_rfl) (by kernel_rfl) (fun _ _ _ h => h) (Or.inr ⟨by rfl, rfl⟩) (by assumption) ?_
          try simp only [Act.put, List.setIfInBounds_toArray, List.set_cons_zero, List.set_cons_succ]
          refine wpAnyH_take (i := 9) (oi := ⟨some 78, _, _, _, _, _⟩) (v := undef) rfl (by kernel_rfl) (by kernel_rfl) (by kernel_rfl) (fun _ _ _ h => h) (Or.inr ⟨by rfl, rfl⟩) (by assumption) ?_
          try simp only [Act.put, List.setIfInBounds_toArray, List.set_cons_zero, List.set_cons_succ]
          refine wpAnyH_take (i := 10) (oi := ⟨some 79, _, _, _, _, _⟩) (v := undef) rfl (by kernel_rfl) (by kernel_rfl) (by kernel_rfl) (fun _ _ _ h => h) (Or.inr ⟨by rfl, rfl⟩) (by assumption) ?_
          try simp only [Act.put, List.setIfInBounds_toArray, List.set_cons_zero, List.set_cons_succ]
          refine wpAnyH_take (i := 11) (oi := ⟨some 80, _, _, _, _, _⟩) (v := undef) rfl (by kernel_rfl) (by kernel_rfl) (by kernel_rfl) (fun _ _ _ h => h) (Or.inr ⟨by rfl, rfl⟩) (by assumption) ?_
          try simp only [Act.put, List.setIfInBounds_toArray, List.set_cons_zero, List.set_cons_succ]
          refine wpAnyH_take (i := 12) (oi := ⟨some 81, _, _, _, _, _⟩) (v := undef) rfl (by kernel_rfl) (by kernel_rfl) (by kernel_rfl) (fun _ _ _ h => h) (Or.inr ⟨by rfl, rfl⟩) (by assumption) ?_
          try simp only [Act.put, List.setIfInBounds_toArray, List.set_cons_zero, List.set_cons_succ]
          refine wpAnyH_take (i := 13) (oi := ⟨some 82, _, _, _, _, _⟩) (v := undef) rfl (by kernel_rfl) (by kernel_rfl) (by kernel_rfl) (fun _ _ _ h => h) (Or.inr ⟨by rfl, rfl⟩) (by assumption) ?_
          try simp only [Act.put, List.setIfInBounds_toArray, List.set_cons_zero, List.set_cons_succ]
          refine wpAnyH_take (i := 14) (oi := ⟨some 83, _, _, _, _, _⟩) (v := undef) rfl (by kernel_rfl) (by kernel_rfl) (by kernel_rfl) (fun _ _ _ h => h) (Or.inr ⟨by rfl, rfl⟩) (by assumption) ?_
          try simp only [Act.put, List.setIfInBounds_toArray, List.set_cons_zero, List.set_cons_succ]
          refine wpAnyH_take (i := 15) (oi := ⟨some 84, _, _, _, _, _⟩) (v := undef) rfl (by kernel_rfl) (by kernel_rfl) (by kernel_rfl) (fun _ _ _ h => h) (Or.inr ⟨by rfl, rfl⟩) (by assumption) ?_
          try simp only [Act.put, List.setIfInBounds_toArray, List.set_cons_zero, List.set_cons_succ]
          refine wpAnyH_take (i := 16) (oi := ⟨some 85, _, _, _, _, _⟩) (v := undef) rfl (by kernel_rfl) (by kernel_rfl) (by kernel_rfl) (fun _ _ _ h => h) (Or.inr ⟨by rfl, rfl⟩) (by assumption) ?_
          try simp only [Act.put, List.setIfInBounds_toArray, List.set_cons_zero, List.set_cons_succ]
          refine wpAnyH_take (i := 17) (oi := ⟨some 86, _, _, _, _, _⟩) (v := (.bool false)) rfl (by kernel_rfl) (by kernel_rfl) (by kernel_rfl) (fun _ _ _ h => h) (Or.inl ⟨by rfl, by (intro w' hSw; (try dsimp only at hSw); go_simp)⟩) (by assumption) ?_
          try simp only [Act.put, List.setIfInBounds_toArray, List.set_cons_zero, List.set_cons_succ]
          refine wpAnyH_done (by kernel_rfl) ?_ _
          refine NoPanic.normal ?_
          exact ⟨rfl, ⟨rfl, rfl⟩, rfl, rfl, rfl, rfl, rfl, rfl, rfl, rfl, rfl, rfl, rfl, rfl, ⟨(Fr.refl _ _).of_drew⟩⟩
        rintro a' w7 ⟨hFm, j0, j1, j3, j8, j10, j14, j16, j30, j31, j32, j17, j86, f7⟩
        rw [fm105 hFm, j0, j1, j3, j8, j10, j14, j16, j17, j30, j31, j32, j86]
        clear hFm j0 j1 j3 j8 j10 j14 j16 j30 j31 j32 j17 j86 hs6'
        have f7 := f7.out
        have H7 := Aside0.mk (And.intro (H6.out.1.below f7) (f7.blk H6.out.2 (fun h => h)))
        have HG7 := Aside0.mk (And.intro (f7.blk HG.out.1 (fun h => h)) HG.out.2)
        clear H6 f7 HG
        have b5 := B5.out
        go_wp2
        exact HH.out.2.2.2 _ _ _ _ _ _ ⟨rfl, rfl⟩ rfl rfl rfl rfl rfl rfl rfl rfl (congrArg (Value.int .i64) B5.out) H7.out.1 (.inr (.inr (.inr (.inl ⟨HVR.out, j, x, HX.out.1, HX.out.2.key, .inl htd, rfl, rfl⟩))))
      · have htd : x.told = false := by simpa using htd
        obtain ⟨eb, hbe⟩ : ∃ b, decide (bodyA x.c x.s x.op x.sg = bodyA c s op sg) = b := ⟨_, rfl⟩
        have HBE := Aside0.mk hbe
        clear hbe
        have cj : decide ((j : Int) < 0) = false := decide_eq_false (by omega)
        have b3 : (0 : Int) ≤ (j : Int) := by omega
        have b4 : (j : Int) < (S.length : Int) := by omega
        obtain ⟨g, cap, X1, e1, X2, e2, X3, e3, cur, hel, hgc, hcur, lx1, lx2, lx3⟩ := H6.out.1.lr.elem HX.out.1
        injection hel with el1 _ el3
        obtain ⟨ad2, had⟩ : ∃ z, (⟨g, 0, none⟩ : Addr) = z := ⟨_, rfl⟩
        rw [had] at el1
        subst el1 el3
        have hp : ad2.add (j * 11) = ⟨g, j * 11, none⟩ := by rw [← had, add_at, Nat.zero_add]
        have hS : ∀ w', Fr (fun _ => False) w6 w' → w'.cell? ⟨(ad2.add (j * 11)).block, (ad2.add (j * 11)).off + 5, none⟩ = some (.int .i64 x.c) ∧ w'.cell? ⟨(ad2.add (j * 11)).block, (ad2.add (j * 11)).off + 6, none⟩ = some (.int .i64 x.s) ∧ w'.cell? ⟨(ad2.add (j * 11)).block, (ad2.add (j * 11)).off + 7, none⟩ = some (.slice X1 x.op.length e1) ∧ w'.cell? ⟨(ad2.add (j * 11)).block, (ad2.add (j * 11)).off + 8, none⟩ = some (.slice X2 x.sg.length e2) ∧ w'.cell? ⟨(ad2.add (j * 11)).block, (ad2.add (j * 11)).off + 10, none⟩ = some (.bool false) ∧ w'.cell? ⟨gr, 0, none⟩ = some (.int .i64 c) ∧ w'.cell? ⟨gr, 1, none⟩ = some (.int .i64 s) ∧ w'.cell? ⟨gr, 2, none⟩ = some (.slice Ao op.length co) ∧ w'.cell? ⟨gr, 3, none⟩ = some (.slice As sg.length cs) := fun w' hf => by
          have h1 := hf.blk hgc (fun h => h)
          have hc : ∀ (k : Nat) (u : Value), (snW X1 e1 X2 e2 X3 e3 x)[k]? = some u → w'.cell? ⟨g, j * 11 + k, none⟩ = some u := fun k u hu => by
            simp only [World.cell?, h1]
            simpa using hcur k u hu
          have c10 := hc 10 _ rfl
          rw [htd] at c10
          rw [hp]
          have h2 := hf.blk H6.out.1.hr (fun h => h)
          exact ⟨hc 5 _ rfl, hc 6 _ rfl, hc 7 _ rfl, hc 8 _ rfl, c10, by simp [World.cell?, h2], by simp [World.cell?, h2], by simp [World.cell?, h2], by simp [World.cell?, h2]⟩
        have hxo := H6.out.1.ok x (List.mem_of_getElem? HX.out.1)
        obtain ⟨bx, hbx⟩ : ∃ l, bodyA x.c x.s x.op x.sg = l := ⟨_, rfl⟩
        have hlx := bodyA_len x.c x.s x.op x.sg
        have HBX := Aside0.mk (And.intro hbx (And.intro hlx (And.intro hxo (And.intro lx1 (And.intro lx2 (And.intro lx3 HBE.out))))))
        clear hbx hlx hxo lx1 lx2 lx3
        have HA : ∀ w1, Fr (fun _ => False) w6 w1 → Calls Try.prog 29 #[.agg #[.int .i64 x.c, .int .i64 x.s, .slice X1 x.op.length e1, .slice X2 x.sg.length e2]] w1 fun e w2 => ∃ A y, e = .returned (.slice A bx.length y) ∧ (w2.cell? ⟨(ad2.add (j * 11)).block, (ad2.add (j * 11)).off + 5, none⟩ = some (.int .i64 x.c) ∧ w2.cell? ⟨(ad2.add (j * 11)).block, (ad2.add (j * 11)).off + 6, none⟩ = some (.int .i64 x.s) ∧ w2.cell? ⟨(ad2.add (j * 11)).block, (ad2.add (j * 11)).off + 7, none⟩ = some (.slice X1 x.op.length e1) ∧ w2.cell? ⟨(ad2.add (j * 11)).block, (ad2.add (j * 11)).off + 8, none⟩ = some (.slice X2 x.sg.length e2) ∧ w2.cell? ⟨(ad2.add (j * 11)).block, (ad2.add (j * 11)).off + 10, none⟩ = some (.bool false) ∧ w2.cell? ⟨gr, 0, none⟩ = some (.int .i64 c) ∧ w2.cell? ⟨gr, 1, none⟩ = some (.int .i64 s) ∧ w2.cell? ⟨gr, 2, none⟩ = some (.slice Ao op.length co) ∧ w2.cell? ⟨gr, 3, none⟩ = some (.slice As sg.length cs)) ∧ Aside0 (Fr (fun _ => False) w6 w2 ∧ Rd w2 A bx ∧ bx.length ≤ y) := by
          intro w1 hf1
          have F := H6.out.1.F.trans hf1 (fun _ h => h.elim)
          refine (rbody_calls x.c x.s X1 e1 x.op X2 e2 x.sg w1 (HBX.out.2.2.2.1.2.lies F) HBX.out.2.2.2.1.1 (HBX.out.2.2.2.2.1.2.lies F) HBX.out.2.2.2.2.1.1 HBX.out.2.2.1.lo).mono ?_
          rintro e w2 ⟨v, rfl, hO, hb⟩
          rw [HBX.out.1] at hO
          obtain ⟨A, y, rfl, hy⟩ := hO.slice
          have f2 := hf1.trans (Fr.of_below hb (fun _ => False)) (fun _ h => h.elim)
          exact ⟨A, y, rfl, hS _ f2, ⟨f2, QB.rd (q_of_own hO), hy⟩⟩
        have HB : ∀ w1 A y, Aside0 (Fr (fun _ => False) w6 w1 ∧ Rd w1 A bx ∧ bx.length ≤ y) → Calls Try.prog 29 #[.agg #[.int .i64 c, .int .i64 s, .slice Ao op.length co, .slice As sg.length cs]] w1 fun e w2 => ∃ A2 y2, e = .returned (.slice A2 bb.length y2) ∧ (w2.cell? ⟨(ad2.add (j * 11)).block, (ad2.add (j * 11)).off + 5, none⟩ = some (.int .i64 x.c) ∧ w2.cell? ⟨(ad2.add (j * 11)).block, (ad2.add (j * 11)).off + 6, none⟩ = some (.int .i64 x.s) ∧ w2.cell? ⟨(ad2.add (j * 11)).block, (ad2.add (j * 11)).off + 7, none⟩ = some (.slice X1 x.op.length e1) ∧ w2.cell? ⟨(ad2.add (j * 11)).block, (ad2.add (j * 11)).off + 8, none⟩ = some (.slice X2 x.sg.length e2) ∧ w2.cell? ⟨(ad2.add (j * 11)).block, (ad2.add (j * 11)).off + 10, none⟩ = some (.bool false) ∧ w2.cell? ⟨gr, 0, none⟩ = some (.int .i64 c) ∧ w2.cell? ⟨gr, 1, none⟩ = some (.int .i64 s) ∧ w2.cell? ⟨gr, 2, none⟩ = some (.slice Ao op.length co) ∧ w2.cell? ⟨gr, 3, none⟩ = some (.slice As sg.length cs)) ∧ Aside0 (Fr (fun _ => False) w6 w2 ∧ Rd w2 A bx ∧ bx.length ≤ y ∧ Rd w2 A2 bb ∧ bb.length ≤ y2) := by
          intro w1 A y Hx
          have F := H6.out.1.F.trans Hx.out.1 (fun _ h => h.elim)
          refine (rbody_calls c s Ao co op As cs sg w1 (H6.out.1.ro.2.lies F) H6.out.1.ro.1 (H6.out.1.rs.2.lies F) H6.out.1.rs.1 HL.out.1).mono ?_
          rintro e w2 ⟨v, rfl, hO, hb⟩
          rw [HBB.out] at hO
          obtain ⟨A2, y2, rfl, hy⟩ := hO.slice
          have fb := Fr.of_below hb (fun _ => False)
          have f2 := Hx.out.1.trans fb (fun _ h => h.elim)
          exact ⟨A2, y2, rfl, hS _ f2, ⟨f2, Hx.out.2.1.lies fb, Hx.out.2.2, QB.rd (q_of_own hO), hy⟩⟩
        have HC : ∀ w1 A y A2 y2, Aside0 (Fr (fun _ => False) w6 w1 ∧ Rd w1 A bx ∧ bx.length ≤ y ∧ Rd w1 A2 bb ∧ bb.length ≤ y2) → Calls Try.prog 31 #[.slice A bx.length y, .slice A2 bb.length y2] w1 fun e w2 => e = .returned (.bool eb) ∧ (w2.cell? ⟨(ad2.add (j * 11)).block, (ad2.add (j * 11)).off + 5, none⟩ = some (.int .i64 x.c) ∧ w2.cell? ⟨(ad2.add (j * 11)).block, (ad2.add (j * 11)).off + 6, none⟩ = some (.int .i64 x.s) ∧ w2.cell? ⟨(ad2.add (j * 11)).block, (ad2.add (j * 11)).off + 7, none⟩ = some (.slice X1 x.op.length e1) ∧ w2.cell? ⟨(ad2.add (j * 11)).block, (ad2.add (j * 11)).off + 8, none⟩ = some (.slice X2 x.sg.length e2) ∧ w2.cell? ⟨(ad2.add (j * 11)).block, (ad2.add (j * 11)).off + 10, none⟩ = some (.bool false) ∧ w2.cell? ⟨gr, 0, none⟩ = some (.int .i64 c) ∧ w2.cell? ⟨gr, 1, none⟩ = some (.int .i64 s) ∧ w2.cell? ⟨gr, 2, none⟩ = some (.slice Ao op.length co) ∧ w2.cell? ⟨gr, 3, none⟩ = some (.slice As sg.length cs)) ∧ Aside0 (Fr (fun _ => False) w6 w2) := by
          intro w1 A y A2 y2 Hx
          have k1 : Bys bx := by rw [← HBX.out.1]; exact bodyA_bys HBX.out.2.2.1.bo HBX.out.2.2.1.bs
          have k2 : Bys bb := by rw [← HBB.out]; exact bodyA_bys HL.out.2.2.2.2.1 HL.out.2.2.2.2.2.1
          refine (catenaryref01_Same.calls A y bx A2 y2 bb eb w1 (Hx.out.2.1.C (by have := HBX.out.2.1; have := HBX.out.2.2.1.lo; rw [← HBX.out.1]; omega)) Hx.out.2.2.1 (Hx.out.2.2.2.1.C (by rw [← HBB.out]; have := HL.out; omega)) Hx.out.2.2.2.2 (by rw [same_f k1 k2, ← HBX.out.1, ← HBB.out, HBX.out.2.2.2.2.2.2])).mono ?_
          rintro e w2 ⟨rfl, hd⟩
          have f2 := Hx.out.1.trans (Fr.of_below hd.below (fun _ => False)) (fun _ h => h.elim)
          exact ⟨rfl, hS _ f2, ⟨f2⟩⟩
        have HA := Aside0.mk HA
        have HB := Aside0.mk HB
        have HC := Aside0.mk HC
        have hs6' := hS _ (Fr.refl _ _)
        clear hS
        have HG := Aside0.mk (And.intro hgc (And.intro hp had))
        clear hgc hcur hp
        go_wp2_with (fail)
        refine wp_cut (fun a' w' => Fm 105 a' ∧ sl a' 0 = .slice (some ad2) S.length cl ∧ sl a' 1 = .int .i64 kind ∧ sl a' 3 = .int .i64 slot ∧ sl a' 8 = .pointer (some ⟨gb, 0, none⟩) ∧ sl a' 10 = .pointer (some ⟨gr, 0, none⟩) ∧ sl a' 14 = out ∧ sl a' 16 = .pointer (some ⟨W.heap.size, 0, none⟩) ∧ sl a' 30 = .slice (some ad) m cv ∧ sl a' 31 = .int .i64 (m : Int) ∧ sl a' 32 = .int .i64 (i : Int) ∧ sl a' 17 = .int .i64 (j : Int) ∧ sl a' 86 = .bool (!eb) ∧ Aside0 (Fr (fun _ => False) w6 w')) ?_ ?_
        · refine wp_region_noPanic ?_
          refine wp_region_held_drew (S := (fun w' => w'.cell? ⟨(ad2.add (j * 11)).block, (ad2.add (j * 11)).off + 5, none⟩ = some (.int .i64 x.c) ∧ w'.cell? ⟨(ad2.add (j * 11)).block, (ad2.add (j * 11)).off + 6, none⟩ = some (.int .i64 x.s) ∧ w'.cell? ⟨(ad2.add (j * 11)).block, (ad2.add (j * 11)).off + 7, none⟩ = some (.slice X1 x.op.length e1) ∧ w'.cell? ⟨(ad2.add (j * 11)).block, (ad2.add (j * 11)).off + 8, none⟩ = some (.slice X2 x.sg.length e2) ∧ w'.cell? ⟨(ad2.add (j * 11)).block, (ad2.add (j * 11)).off + 10, none⟩ = some (.bool false) ∧ w'.cell? ⟨gr, 0, none⟩ = some (.int .i64 c) ∧ w'.cell? ⟨gr, 1, none⟩ = some (.int .i64 s) ∧ w'.cell? ⟨gr, 2, none⟩ = some (.slice Ao op.length co) ∧ w'.cell? ⟨gr, 3, none⟩ = some (.slice As sg.length cs))) (by kernel_rfl) hs6' (fun hHeld => ?_)
          refine wpAnyH_take (i := 0) (oi := ⟨some 69, _, _, _, _, _⟩) (v := (.slice (some ad2) S.length cl)) rfl (by kernel_rfl) (by kernel_rfl) (by kernel_rfl) (fun _ _ _ h => h) (Or.inl ⟨by rfl, by (intro w' hSw; (try dsimp only at hSw); go_simp)⟩) (by assumption) ?_
          try simp only [Act.put, List.setIfInBounds_toArray, List.set_cons_zero, List.set_cons_succ]
          refine wpAnyH_take (i := 1) (oi := ⟨some 70, _, _, _, _, _⟩) (v := (.int .i64 (j : Int))) rfl (by kernel_rfl) (by kernel_rfl) (by kernel_rfl) (fun _ _ _ h => h) (Or.inl ⟨by rfl, by (intro w' hSw; (try dsimp only at hSw); go_simp)⟩) (by assumption) ?_
          try simp only [Act.put, List.setIfInBounds_toArray, List.set_cons_zero, List.set_cons_succ]
          refine wpAnyH_take (i := 2) (oi := ⟨some 71, _, _, _, _, _⟩) (v := (.pointer (some (ad2.add (j * 11))))) rfl (by kernel_rfl) (by kernel_rfl) (by kernel_rfl) (fun _ _ _ h => h) (Or.inl ⟨by rfl, by (intro w' hSw; (try dsimp only at hSw); go_simp)⟩) (by assumption) ?_
          try simp only [Act.put, List.setIfInBounds_toArray, List.set_cons_zero, List.set_cons_succ]
          refine wpAnyH_take (i := 3) (oi := ⟨some 72, _, _, _, _, _⟩) (v := (.pointer (some ⟨(ad2.add (j * 11)).block, (ad2.add (j * 11)).off + 10, none⟩))) rfl (by kernel_rfl) (by kernel_rfl) (by kernel_rfl) (fun _ _ _ h => h) (Or.inl ⟨by rfl, by (intro w' hSw; (try dsimp only at hSw); go_simp)⟩) (by assumption) ?_
          try simp only [Act.put, List.setIfInBounds_toArray, List.set_cons_zero, List.set_cons_succ]
          refine wpAnyH_take (i := 4) (oi := ⟨some 73, _, _, _, _, _⟩) (v := (.bool false)) rfl (by kernel_rfl) (by kernel_rfl) (by kernel_rfl) (fun _ _ _ h => h) (Or.inl ⟨by rfl, by (intro w' hSw; (try dsimp only at hSw); go_simp)⟩) (by assumption) ?_
          try simp only [Act.put, List.setIfInBounds_toArray, List.set_cons_zero, List.set_cons_succ]
          refine wpAnyH_take (i := 5) (oi := ⟨some 74, _, _, _, _, _⟩) (v := (.bool true)) rfl (by kernel_rfl) (by kernel_rfl) (by kernel_rfl) (fun _ _ _ h => h) (Or.inl ⟨by rfl, by (intro w' hSw; (try dsimp only at hSw); go_simp)⟩) (by assumption) ?_
          try simp only [Act.put, List.setIfInBounds_toArray, List.set_cons_zero, List.set_cons_succ]
          refine wpAnyH_take (i := 6) (oi := ⟨some 75, _, _, _, _, _⟩) (v := (.bool true)) rfl (by kernel_rfl) (by kernel_rfl) (by kernel_rfl) (fun _ _ _ h => h) (Or.inl ⟨by rfl, by (intro w' hSw; (try dsimp only at hSw); go_simp)⟩) (by assumption) ?_
          try simp only [Act.put, List.setIfInBounds_toArray, List.set_cons_zero, List.set_cons_succ]
          refine wpAnyH_take (i := 7) (oi := ⟨some 76, _, _, _, _, _⟩) (v := (.slice (some ad2) S.length cl)) rfl (by kernel_rfl) (by kernel_rfl) (by kernel_rfl) (fun _ _ _ h => h) (Or.inl ⟨by rfl, by (intro w' hSw; (try dsimp only at hSw); go_simp)⟩) (by assumption) ?_
          try simp only [Act.put, List.setIfInBounds_toArray, List.set_cons_zero, List.set_cons_succ]
          refine wpAnyH_take (i := 8) (oi := ⟨some 77, _, _, _, _, _⟩) (v := (.int .i64 (j : Int))) rfl (by kernel_rfl) (by kernel_rfl) (by kernel_rfl) (fun _ _ _ h => h) (Or.inl ⟨by rfl, by (intro w' hSw; (try dsimp only at hSw); go_simp)⟩) (by assumption) ?_
          try simp only [Act.put, List.setIfInBounds_toArray, List.set_cons_zero, List.set_cons_succ]
          refine wpAnyH_take (i := 9) (oi := ⟨some 78, _, _, _, _, _⟩) (v := (.pointer (some (ad2.add (j * 11))))) rfl (by kernel_rfl) (by kernel_rfl) (by kernel_rfl) (fun _ _ _ h => h) (Or.inl ⟨by rfl, by (intro w' hSw; (try dsimp only at hSw); go_simp)⟩) (by assumption) ?_
          try simp only [Act.put, List.setIfInBounds_toArray, List.set_cons_zero, List.set_cons_succ]
          refine wpAnyH_take (i := 10) (oi := ⟨some 79, _, _, _, _, _⟩) (v := (.pointer (some ⟨(ad2.add (j * 11)).block, (ad2.add (j * 11)).off + 5, none⟩))) rfl (by kernel_rfl) (by kernel_rfl) (by kernel_rfl) (fun _ _ _ h => h) (Or.inl ⟨by rfl, by (intro w' hSw; (try dsimp only at hSw); go_simp)⟩) (by assumption) ?_
          try simp only [Act.put, List.setIfInBounds_toArray, List.set_cons_zero, List.set_cons_succ]
          refine wpAnyH_take (i := 11) (oi := ⟨some 80, _, _, _, _, _⟩) (v := (.agg #[.int .i64 x.c, .int .i64 x.s, .slice X1 x.op.length e1, .slice X2 x.sg.length e2])) rfl (by kernel_rfl) (by kernel_rfl) (by kernel_rfl) (fun _ _ _ h => h) (Or.inl ⟨by rfl, by (intro w' hSw; (try dsimp only at hSw); go_simp)⟩) (by assumption) ?_
          try simp only [Act.put, List.setIfInBounds_toArray, List.set_cons_zero, List.set_cons_succ]
          refine wpAnyH_take (i := 13) (oi := ⟨some 82, _, _, _, _, _⟩) (v := (.agg #[.int .i64 c, .int .i64 s, .slice Ao op.length co, .slice As sg.length cs])) rfl (by kernel_rfl) (by kernel_rfl) (by kernel_rfl) (fun _ _ _ h => h) (Or.inl ⟨by rfl, by (intro w' hSw; (try dsimp only at hSw); go_simp)⟩) (by assumption) ?_
          try simp only [Act.put, List.setIfInBounds_toArray, List.set_cons_zero, List.set_cons_succ]
          refine wpAnyH_ready (rs := [12]) (by kernel_rfl) (by simp) ?_
          refine AllReadyH.cons (o := ⟨some 81, _, _, _, _, _⟩) rfl (fun K hK => ?_) AllReadyH.nil
          rw [if_pos (by rfl)]
          go_simp
          go_at_call 29
          refine (HA.out _ (Fr.refl _ _).of_drew).mono ?_
          rintro e w7 ⟨A7, y7, rfl, hs7, H7⟩
          refine hK.out _ _ hs7 (fun hHeld => ?_)
          try simp only [Act.put, List.setIfInBounds_toArray, List.set_cons_zero, List.set_cons_succ]
          refine wpAnyH_ready (rs := [14]) (by kernel_rfl) (by simp) ?_
          refine AllReadyH.cons (o := ⟨some 83, _, _, _, _, _⟩) rfl (fun K hK => ?_) AllReadyH.nil
          rw [if_pos (by rfl)]
          go_simp
          go_at_call 29
          refine (HB.out _ _ y7 H7).mono ?_
          rintro e w8 ⟨A8, y8, rfl, hs8, H8⟩
          refine hK.out _ _ hs8 (fun hHeld => ?_)
          try simp only [Act.put, List.setIfInBounds_toArray, List.set_cons_zero, List.set_cons_succ]
          refine wpAnyH_ready (rs := [15]) (by kernel_rfl) (by simp) ?_
          refine AllReadyH.cons (o := ⟨some 84, _, _, _, _, _⟩) rfl (fun K hK => ?_) AllReadyH.nil
          rw [if_pos (by rfl)]
          go_simp
          go_at_call 31
          refine (HC.out _ _ _ _ _ H8).mono ?_
          rintro e w9 ⟨rfl, hs9, H9⟩
          refine hK.out _ _ hs9 (fun hHeld => ?_)
          try simp only [Act.put, List.setIfInBounds_toArray, List.set_cons_zero, List.set_cons_succ]
          refine wpAnyH_take (i := 16) (oi := ⟨some 85, _, _, _, _, _⟩) (v := (.bool (!eb))) rfl (by kernel_rfl) (by kernel_rfl) (by kernel_rfl) (fun _ _ _ h => h) (Or.inl ⟨by rfl, by (intro w' hSw; (try dsimp only at hSw); go_simp)⟩) (by assumption) ?_
          try simp only [Act.put, List.setIfInBounds_toArray, List.set_cons_zero, List.set_cons_succ]
          refine wpAnyH_take (i := 17) (oi := ⟨some 86, _, _, _, _, _⟩) (v := (.bool (!eb))) rfl (by kernel_rfl) (by kernel_rfl) (by kernel_rfl) (fun _ _ _ h => h) (Or.inl ⟨by rfl, by (intro w' hSw; (try dsimp only at hSw); go_simp)⟩) (by assumption) ?_
          try simp only [Act.put, List.setIfInBounds_toArray, List.set_cons_zero, List.set_cons_succ]
          refine wpAnyH_done (by kernel_rfl) ?_ _
          refine NoPanic.normal ?_
          exact ⟨rfl, ⟨rfl, rfl⟩, rfl, rfl, rfl, rfl, rfl, rfl, rfl, rfl, rfl, rfl, rfl, rfl, H9⟩
        rintro a' w7 ⟨hFm, j0, j1, j3, j8, j10, j14, j16, j30, j31, j32, j17, j86, f7⟩
        rw [fm105 hFm, j0, j1, j3, j8, j10, j14, j16, j17, j30, j31, j32, j86]
        clear hFm j0 j1 j3 j8 j10 j14 j16 j30 j31 j32 j17 j86 hs6' HA HB HC
        have f7 := f7.out
        have H7 := Aside0.mk (And.intro (H6.out.1.below f7) (f7.blk H6.out.2 (fun h => h)))
        have HG7 := Aside0.mk (And.intro (f7.blk HG.out.1 (fun h => h)) HG.out.2)
        clear H6 f7 HG
        cases eb with
        | true =>
          have b5 := B5.out
          go_wp2
          exact HH.out.2.2.2 _ _ _ _ _ _ ⟨rfl, rfl⟩ rfl rfl rfl rfl rfl rfl rfl rfl (congrArg (Value.int .i64) B5.out) H7.out.1 (.inr (.inr (.inr (.inl ⟨HVR.out, j, x, HX.out.1, HX.out.2.key, .inr (of_decide_eq_true HBE.out), rfl, rfl⟩))))
        | false =>
          obtain ⟨g', cap', Y1, y1, Y2, y2, Y3, y3, cur', hel', hgc', hcur', hz1, hz2, hz3⟩ := H7.out.1.lr.elem HX.out.1
          have eg : g' = g := by
            injection hel' with e1 _ _
            rw [← HG7.out.2.2] at e1
            injection e1 with e1
            injection e1 with e1 _ _
            exact e1.symm
          subst eg
          have k10 : w7.cell? ⟨(ad2.add (j * 11)).block, (ad2.add (j * 11)).off + 10, none⟩ = some (.bool false) := by
            rw [HG7.out.2.1]
            simp only [World.cell?, hgc']
            have := hcur' 10 _ rfl
            rw [htd] at this
            simpa using this
          have fz10 : w7.frozen? ⟨(ad2.add (j * 11)).block, (ad2.add (j * 11)).off + 10, none⟩ = false := by
            rw [HG7.out.2.1]
            exact frozenV hgc' _
          clear hel' hgc' hcur' hz1 hz2 hz3 Y1 y1 Y2 y2 Y3 y3 cur' cap'
          have e10 : w7.setCell ⟨(ad2.add (j * 11)).block, (ad2.add (j * 11)).off + 10, none⟩ (.bool true) = w7.setCell ⟨g', j * 11 + 10, none⟩ (.bool true) := by rw [HG7.out.2.1]
          have hf8 : Fr (fun k => some k = (Value.slice (some ad2) S.length cl).ownBlock) w7 (w7.setCell ⟨(ad2.add (j * 11)).block, (ad2.add (j * 11)).off + 10, none⟩ (.bool true)) := by
            rw [e10]
            refine (Fr.refl (fun k => some k = (Value.slice (some ad2) S.length cl).ownBlock) w7).setCell (.inl ?_) _
            rw [← HG7.out.2.2]
            rfl
          have hlr8 : LRow (w7.setCell ⟨(ad2.add (j * 11)).block, (ad2.add (j * 11)).off + 10, none⟩ (.bool true)) w0 w0.heap.size (.slice (some ad2) S.length cl) (S.set j { x with told := true }) := by
            have h := H7.out.1.lr
            rw [e10]
            rw [← HG7.out.2.2] at h ⊢
            exact LRow.tell h HX.out.1
          have H8 := Aside0.mk (And.intro (H7.out.1.row hf8 hlr8 (tell_ok HX.out.1 H7.out.1.ok) (by rw [tell_keys HX.out.1]; exact H7.out.1.nd)) (And.intro (hf8.blk H7.out.2 (by
            obtain ⟨_, _, hq, _⟩ := H7.out.1.lr
            exact not_of hq H7.out.2 (by decide))) (show (w7.setCell ⟨(ad2.add (j * 11)).block, (ad2.add (j * 11)).off + 10, none⟩ (.bool true)).heap.size = (w7.setCell ⟨(ad2.add (j * 11)).block, (ad2.add (j * 11)).off + 10, none⟩ (.bool true)).heap.size from rfl)))
          clear hf8 hlr8 e10
          go_wp2_with (fail)
          clear k10 fz10
          generalize w7.setCell ⟨(ad2.add (j * 11)).block, (ad2.add (j * 11)).off + 10, none⟩ (.bool true) = w8 at *
          have hx8 : (S.set j { x with told := true })[j]? = some { x with told := true } := List.getElem?_set_self hjl
          obtain ⟨g, cap, Y1, y1, Y2, y2, Y3, y3, cur, hel, hgc, hcur, ly1, ly2, ly3⟩ := H8.out.1.lr.elem hx8
          have eg : g = g' := by
            injection hel with e1 _ _
            rw [← HG7.out.2.2] at e1
            injection e1 with e1
            injection e1 with e1 _ _
            exact e1.symm
          subst eg
          have hxo := H8.out.1.ok _ (List.mem_of_getElem? hx8)
          have hT : ∀ w' : World, w'.heap[g]? = some (.cells cur 71 (0, 0)) → w'.heap[gr]? = some (.cells #[.int .i64 c, .int .i64 s, .slice Ao op.length co, .slice As sg.length cs] 31 (0, 0)) → w'.heap[W.heap.size]? = some (.cells #[.int .i64 si, .slice A3 t.length c3] 55 (0, 0)) → w'.cell? (ad2.add (j * 11)) = some (.int .i64 x.kind) ∧ w'.cell? ⟨(ad2.add (j * 11)).block, (ad2.add (j * 11)).off + 1, none⟩ = some (.int .i64 x.slot) ∧ w'.cell? ⟨(ad2.add (j * 11)).block, (ad2.add (j * 11)).off + 2, none⟩ = some (.int .i64 x.signer) ∧ w'.cell? ⟨(ad2.add (j * 11)).block, (ad2.add (j * 11)).off + 3, none⟩ = some (.int .i64 x.view) ∧ w'.cell? ⟨(ad2.add (j * 11)).block, (ad2.add (j * 11)).off + 4, none⟩ = some (.int .i64 x.turn) ∧ w'.cell? ⟨(ad2.add (j * 11)).block, (ad2.add (j * 11)).off + 5, none⟩ = some (.int .i64 x.c) ∧ w'.cell? ⟨(ad2.add (j * 11)).block, (ad2.add (j * 11)).off + 6, none⟩ = some (.int .i64 x.s) ∧ w'.cell? ⟨(ad2.add (j * 11)).block, (ad2.add (j * 11)).off + 7, none⟩ = some (.slice Y1 x.op.length y1) ∧ w'.cell? ⟨(ad2.add (j * 11)).block, (ad2.add (j * 11)).off + 8, none⟩ = some (.slice Y2 x.sg.length y2) ∧ w'.cell? ⟨(ad2.add (j * 11)).block, (ad2.add (j * 11)).off + 9, none⟩ = some (.slice Y3 x.t.length y3) ∧ w'.cell? ⟨(ad2.add (j * 11)).block, (ad2.add (j * 11)).off + 10, none⟩ = some (.bool true) ∧ w'.cell? ⟨gr, 0, none⟩ = some (.int .i64 c) ∧ w'.cell? ⟨gr, 1, none⟩ = some (.int .i64 s) ∧ w'.cell? ⟨gr, 2, none⟩ = some (.slice Ao op.length co) ∧ w'.cell? ⟨gr, 3, none⟩ = some (.slice As sg.length cs) ∧ w'.cell? ⟨W.heap.size, 0, none⟩ = some (.int .i64 si) ∧ w'.cell? ⟨W.heap.size, 1, none⟩ = some (.slice A3 t.length c3) := fun w' h1 h2 h3 => by
            have hc : ∀ (k : Nat) (u : Value), (snW Y1 y1 Y2 y2 Y3 y3 { x with told := true })[k]? = some u → w'.cell? ⟨g, j * 11 + k, none⟩ = some u := fun k u hu => by
              simp only [World.cell?, h1]
              simpa using hcur k u hu
            rw [HG7.out.2.1]
            exact ⟨hc 0 _ rfl, hc 1 _ rfl, hc 2 _ rfl, hc 3 _ rfl, hc 4 _ rfl, hc 5 _ rfl, hc 6 _ rfl, hc 7 _ rfl, hc 8 _ rfl, hc 9 _ rfl, hc 10 _ rfl, by simp [World.cell?, h2], by simp [World.cell?, h2], by simp [World.cell?, h2], by simp [World.cell?, h2], by simp [World.cell?, h3], by simp [World.cell?, h3]⟩
          have hS : ∀ w', Fr (fun _ => False) w8 w' → w'.cell? (ad2.add (j * 11)) = some (.int .i64 x.kind) ∧ w'.cell? ⟨(ad2.add (j * 11)).block, (ad2.add (j * 11)).off + 1, none⟩ = some (.int .i64 x.slot) ∧ w'.cell? ⟨(ad2.add (j * 11)).block, (ad2.add (j * 11)).off + 2, none⟩ = some (.int .i64 x.signer) ∧ w'.cell? ⟨(ad2.add (j * 11)).block, (ad2.add (j * 11)).off + 3, none⟩ = some (.int .i64 x.view) ∧ w'.cell? ⟨(ad2.add (j * 11)).block, (ad2.add (j * 11)).off + 4, none⟩ = some (.int .i64 x.turn) ∧ w'.cell? ⟨(ad2.add (j * 11)).block, (ad2.add (j * 11)).off + 5, none⟩ = some (.int .i64 x.c) ∧ w'.cell? ⟨(ad2.add (j * 11)).block, (ad2.add (j * 11)).off + 6, none⟩ = some (.int .i64 x.s) ∧ w'.cell? ⟨(ad2.add (j * 11)).block, (ad2.add (j * 11)).off + 7, none⟩ = some (.slice Y1 x.op.length y1) ∧ w'.cell? ⟨(ad2.add (j * 11)).block, (ad2.add (j * 11)).off + 8, none⟩ = some (.slice Y2 x.sg.length y2) ∧ w'.cell? ⟨(ad2.add (j * 11)).block, (ad2.add (j * 11)).off + 9, none⟩ = some (.slice Y3 x.t.length y3) ∧ w'.cell? ⟨(ad2.add (j * 11)).block, (ad2.add (j * 11)).off + 10, none⟩ = some (.bool true) ∧ w'.cell? ⟨gr, 0, none⟩ = some (.int .i64 c) ∧ w'.cell? ⟨gr, 1, none⟩ = some (.int .i64 s) ∧ w'.cell? ⟨gr, 2, none⟩ = some (.slice Ao op.length co) ∧ w'.cell? ⟨gr, 3, none⟩ = some (.slice As sg.length cs) ∧ w'.cell? ⟨W.heap.size, 0, none⟩ = some (.int .i64 si) ∧ w'.cell? ⟨W.heap.size, 1, none⟩ = some (.slice A3 t.length c3) := fun w' hf => hT w' (hf.blk hgc (fun h => h)) (hf.blk H8.out.1.hr (fun h => h)) (hf.blk H8.out.2.1 (fun h => h))
          have HT := Aside0.mk (And.intro hT hgc)
          clear hT
          obtain ⟨ev, hev⟩ : ∃ e, mkEv x c s op sg t = e := ⟨_, rfl⟩
          have HY := Aside0.mk (And.intro ly1 (And.intro ly2 (And.intro ly3 hxo)))
          have HEV := Aside0.mk hev
          have hev' : mkEv { x with told := true } c s op sg t = ev := hev
          have HA : ∀ w1, Fr (fun _ => False) w8 w1 → Calls Try.prog 32 #[.agg #[.int .i64 x.kind, .int .i64 x.slot, .int .i64 x.signer, .int .i64 x.view, .int .i64 x.turn, .int .i64 x.c, .int .i64 x.s, .slice Y1 x.op.length y1, .slice Y2 x.sg.length y2, .slice Y3 x.t.length y3, .bool true], .agg #[.int .i64 c, .int .i64 s, .slice Ao op.length co, .slice As sg.length cs], .slice A3 t.length c3] w1 fun e w2 => ∃ G1 d1 G2 d2 G3 d3 G4 d4 G5 d5 G6 d6, e = .returned (.agg #[.int .i64 13, .int .i64 ev.view, .int .i64 ev.turn, .int .i64 ev.slot, .int .i64 ev.signer, .int .i64 0, .int .i64 ev.kind, .int .i64 0, .int .i64 ev.cX, .int .i64 ev.sX, .slice G1 ev.opX.length d1, .slice G2 ev.sgX.length d2, .int .i64 ev.cY, .int .i64 ev.sY, .slice G4 ev.opY.length d4, .slice G5 ev.sgY.length d5, .slice G6 ev.tY.length d6, .slice G3 ev.tX.length d3, .slice none 0 0, .slice none 0 0, .slice none 0 0, .slice none 0 0, .slice none 0 0]) ∧ (w2.cell? (ad2.add (j * 11)) = some (.int .i64 x.kind) ∧ w2.cell? ⟨(ad2.add (j * 11)).block, (ad2.add (j * 11)).off + 1, none⟩ = some (.int .i64 x.slot) ∧ w2.cell? ⟨(ad2.add (j * 11)).block, (ad2.add (j * 11)).off + 2, none⟩ = some (.int .i64 x.signer) ∧ w2.cell? ⟨(ad2.add (j * 11)).block, (ad2.add (j * 11)).off + 3, none⟩ = some (.int .i64 x.view) ∧ w2.cell? ⟨(ad2.add (j * 11)).block, (ad2.add (j * 11)).off + 4, none⟩ = some (.int .i64 x.turn) ∧ w2.cell? ⟨(ad2.add (j * 11)).block, (ad2.add (j * 11)).off + 5, none⟩ = some (.int .i64 x.c) ∧ w2.cell? ⟨(ad2.add (j * 11)).block, (ad2.add (j * 11)).off + 6, none⟩ = some (.int .i64 x.s) ∧ w2.cell? ⟨(ad2.add (j * 11)).block, (ad2.add (j * 11)).off + 7, none⟩ = some (.slice Y1 x.op.length y1) ∧ w2.cell? ⟨(ad2.add (j * 11)).block, (ad2.add (j * 11)).off + 8, none⟩ = some (.slice Y2 x.sg.length y2) ∧ w2.cell? ⟨(ad2.add (j * 11)).block, (ad2.add (j * 11)).off + 9, none⟩ = some (.slice Y3 x.t.length y3) ∧ w2.cell? ⟨(ad2.add (j * 11)).block, (ad2.add (j * 11)).off + 10, none⟩ = some (.bool true) ∧ w2.cell? ⟨gr, 0, none⟩ = some (.int .i64 c) ∧ w2.cell? ⟨gr, 1, none⟩ = some (.int .i64 s) ∧ w2.cell? ⟨gr, 2, none⟩ = some (.slice Ao op.length co) ∧ w2.cell? ⟨gr, 3, none⟩ = some (.slice As sg.length cs) ∧ w2.cell? ⟨W.heap.size, 0, none⟩ = some (.int .i64 si) ∧ w2.cell? ⟨W.heap.size, 1, none⟩ = some (.slice A3 t.length c3)) ∧ Aside0 (Fr (fun _ => False) w8 w2 ∧ EvR w0 (.agg #[.int .i64 13, .int .i64 ev.view, .int .i64 ev.turn, .int .i64 ev.slot, .int .i64 ev.signer, .int .i64 0, .int .i64 ev.kind, .int .i64 0, .int .i64 ev.cX, .int .i64 ev.sX, .slice G1 ev.opX.length d1, .slice G2 ev.sgX.length d2, .int .i64 ev.cY, .int .i64 ev.sY, .slice G4 ev.opY.length d4, .slice G5 ev.sgY.length d5, .slice G6 ev.tY.length d6, .slice G3 ev.tX.length d3, .slice none 0 0, .slice none 0 0, .slice none 0 0, .slice none 0 0, .slice none 0 0]) ev) := by
            intro w1 hf1
            have F := H8.out.1.F.trans hf1 (fun _ h => h.elim)
            have he := revid_calls { x with told := true } HY.out.2.2.2.lo Y1 y1 Y2 y2 Y3 y3 c s Ao co op As cs sg A3 c3 t w1 (HY.out.1.2.lies F) HY.out.1.1 (HY.out.2.1.2.lies F) HY.out.2.1.1 (HY.out.2.2.1.2.lies F) HY.out.2.2.1.1 (H8.out.1.ro.2.lies F) H8.out.1.ro.1 (H8.out.1.rs.2.lies F) H8.out.1.rs.1 (HH.out.2.1.lies F) hc3 HL.out.1
            rw [hev'] at he
            refine he.mono ?_
            rintro e w2 ⟨v, rfl, ⟨G1, d1, G2, d2, G3, d3, G4, d4, G5, d5, G6, d6, rfl, hu⟩, hb⟩
            have f2 := hf1.trans (Fr.of_below hb (fun _ => False)) (fun _ h => h.elim)
            exact ⟨G1, d1, G2, d2, G3, d3, G4, d4, G5, d5, G6, d6, rfl, hS _ f2, ⟨f2, hu w0 HY.out.1 HY.out.2.1 HY.out.2.2.1 H8.out.1.ro H8.out.1.rs ⟨hc3, HH.out.2.1⟩⟩⟩
          have HS := Aside0.mk hS
          have hs8' := hS _ (Fr.refl _ _)
          have HA := Aside0.mk HA
          clear hS hel hgc hcur ly1 ly2 ly3 hxo hev hev' hx8
          have b3 : (0 : Int) ≤ (j : Int) := by omega
          have b4 : (j : Int) < (S.length : Int) := by omega
          refine wp_region_noPanic ?_
          refine wp_region_held_drew (S := (fun w' => w'.cell? (ad2.add (j * 11)) = some (.int .i64 x.kind) ∧ w'.cell? ⟨(ad2.add (j * 11)).block, (ad2.add (j * 11)).off + 1, none⟩ = some (.int .i64 x.slot) ∧ w'.cell? ⟨(ad2.add (j * 11)).block, (ad2.add (j * 11)).off + 2, none⟩ = some (.int .i64 x.signer) ∧ w'.cell? ⟨(ad2.add (j * 11)).block, (ad2.add (j * 11)).off + 3, none⟩ = some (.int .i64 x.view) ∧ w'.cell? ⟨(ad2.add (j * 11)).block, (ad2.add (j * 11)).off + 4, none⟩ = some (.int .i64 x.turn) ∧ w'.cell? ⟨(ad2.add (j * 11)).block, (ad2.add (j * 11)).off + 5, none⟩ = some (.int .i64 x.c) ∧ w'.cell? ⟨(ad2.add (j * 11)).block, (ad2.add (j * 11)).off + 6, none⟩ = some (.int .i64 x.s) ∧ w'.cell? ⟨(ad2.add (j * 11)).block, (ad2.add (j * 11)).off + 7, none⟩ = some (.slice Y1 x.op.length y1) ∧ w'.cell? ⟨(ad2.add (j * 11)).block, (ad2.add (j * 11)).off + 8, none⟩ = some (.slice Y2 x.sg.length y2) ∧ w'.cell? ⟨(ad2.add (j * 11)).block, (ad2.add (j * 11)).off + 9, none⟩ = some (.slice Y3 x.t.length y3) ∧ w'.cell? ⟨(ad2.add (j * 11)).block, (ad2.add (j * 11)).off + 10, none⟩ = some (.bool true) ∧ w'.cell? ⟨gr, 0, none⟩ = some (.int .i64 c) ∧ w'.cell? ⟨gr, 1, none⟩ = some (.int .i64 s) ∧ w'.cell? ⟨gr, 2, none⟩ = some (.slice Ao op.length co) ∧ w'.cell? ⟨gr, 3, none⟩ = some (.slice As sg.length cs) ∧ w'.cell? ⟨W.heap.size, 0, none⟩ = some (.int .i64 si) ∧ w'.cell? ⟨W.heap.size, 1, none⟩ = some (.slice A3 t.length c3))) (by kernel_rfl) hs8' (fun hHeld => ?_)
          refine wpAnyH_take (i := 0) (oi := ⟨some 91, _, _, _, _, _⟩) (v := out) rfl (by kernel_rfl) (by kernel_rfl) (by kernel_rfl) (fun _ _ _ h => h) (Or.inl ⟨by rfl, by (intro w' hSw; (try dsimp only at hSw); go_simp)⟩) (by assumption) ?_
          try simp only [Act.put, List.setIfInBounds_toArray, List.set_cons_zero, List.set_cons_succ]
          refine wpAnyH_take (i := 1) (oi := ⟨some 92, _, _, _, _, _⟩) (v := (.slice (some ad2) S.length cl)) rfl (by kernel_rfl) (by kernel_rfl) (by kernel_rfl) (fun _ _ _ h => h) (Or.inl ⟨by rfl, by (intro w' hSw; (try dsimp only at hSw); go_simp)⟩) (by assumption) ?_
          try simp only [Act.put, List.setIfInBounds_toArray, List.set_cons_zero, List.set_cons_succ]
          refine wpAnyH_take (i := 2) (oi := ⟨some 93, _, _, _, _, _⟩) (v := (.int .i64 (j : Int))) rfl (by kernel_rfl) (by kernel_rfl) (by kernel_rfl) (fun _ _ _ h => h) (Or.inl ⟨by rfl, by (intro w' hSw; (try dsimp only at hSw); go_simp)⟩) (by assumption) ?_
          try simp only [Act.put, List.setIfInBounds_toArray, List.set_cons_zero, List.set_cons_succ]
          refine wpAnyH_take (i := 3) (oi := ⟨some 94, _, _, _, _, _⟩) (v := (.pointer (some (ad2.add (j * 11))))) rfl (by kernel_rfl) (by kernel_rfl) (by kernel_rfl) (fun _ _ _ h => h) (Or.inl ⟨by rfl, by (intro w' hSw; (try dsimp only at hSw); go_simp)⟩) (by assumption) ?_
          try simp only [Act.put, List.setIfInBounds_toArray, List.set_cons_zero, List.set_cons_succ]
          refine wpAnyH_take (i := 4) (oi := ⟨some 95, _, _, _, _, _⟩) (v := (.agg #[.int .i64 x.kind, .int .i64 x.slot, .int .i64 x.signer, .int .i64 x.view, .int .i64 x.turn, .int .i64 x.c, .int .i64 x.s, .slice Y1 x.op.length y1, .slice Y2 x.sg.length y2, .slice Y3 x.t.length y3, .bool true])) rfl (by kernel_rfl) (by kernel_rfl) (by kernel_rfl) (fun _ _ _ h => h) (Or.inl ⟨by rfl, by (intro w' hSw; (try dsimp only at hSw); go_simp)⟩) (by assumption) ?_
          try simp only [Act.put, List.setIfInBounds_toArray, List.set_cons_zero, List.set_cons_succ]
          refine wpAnyH_take (i := 5) (oi := ⟨some 96, _, _, _, _, _⟩) (v := (.agg #[.int .i64 c, .int .i64 s, .slice Ao op.length co, .slice As sg.length cs])) rfl (by kernel_rfl) (by kernel_rfl) (by kernel_rfl) (fun _ _ _ h => h) (Or.inl ⟨by rfl, by (intro w' hSw; (try dsimp only at hSw); go_simp)⟩) (by assumption) ?_
          try simp only [Act.put, List.setIfInBounds_toArray, List.set_cons_zero, List.set_cons_succ]
          refine wpAnyH_take (i := 6) (oi := ⟨some 97, _, _, _, _, _⟩) (v := (.pointer (some ⟨W.heap.size, 1, none⟩))) rfl (by kernel_rfl) (by kernel_rfl) (by kernel_rfl) (fun _ _ _ h => h) (Or.inl ⟨by rfl, by (intro w' hSw; (try dsimp only at hSw); go_simp)⟩) (by assumption) ?_
          try simp only [Act.put, List.setIfInBounds_toArray, List.set_cons_zero, List.set_cons_succ]
          refine wpAnyH_take (i := 7) (oi := ⟨some 98, _, _, _, _, _⟩) (v := (.slice A3 t.length c3)) rfl (by kernel_rfl) (by kernel_rfl) (by kernel_rfl) (fun _ _ _ h => h) (Or.inl ⟨by rfl, by (intro w' hSw; (try dsimp only at hSw); go_simp)⟩) (by assumption) ?_
          try simp only [Act.put, List.setIfInBounds_toArray, List.set_cons_zero, List.set_cons_succ]
          refine wpAnyH_ready (rs := [8]) (by kernel_rfl) (by simp) ?_
          refine AllReadyH.cons (o := ⟨some 99, _, _, _, _, _⟩) rfl (fun K hK => ?_) AllReadyH.nil
          go_simp
          go_at_call 32
          refine (HA.out _ (Fr.refl _ _).of_drew).mono ?_
          rintro e w11 ⟨G1, d1, G2, d2, G3, d3, G4, d4, G5, d5, G6, d6, rfl, hs11, H11⟩
          refine hK.out _ _ hs11 (fun hHeld => ?_)
          try simp only [Act.put, List.setIfInBounds_toArray, List.set_cons_zero, List.set_cons_succ]
          refine wpAnyH_ready (rs := [9]) (by kernel_rfl) (by simp) ?_
          refine AllReadyH.cons (o := ⟨some 100, _, _, _, _, _⟩) rfl (fun K hK => ?_) AllReadyH.nil
          go_simp
          have hb12 := below_alloc (Below.refl w11.heap.size w11) (.cells #[.int .i64 13, .int .i64 ev.view, .int .i64 ev.turn, .int .i64 ev.slot, .int .i64 ev.signer, .int .i64 0, .int .i64 ev.kind, .int .i64 0, .int .i64 ev.cX, .int .i64 ev.sX, .slice G1 ev.opX.length d1, .slice G2 ev.sgX.length d2, .int .i64 ev.cY, .int .i64 ev.sY, .slice G4 ev.opY.length d4, .slice G5 ev.sgY.length d5, .slice G6 ev.tY.length d6, .slice G3 ev.tX.length d3, .slice none 0 0, .slice none 0 0, .slice none 0 0, .slice none 0 0, .slice none 0 0] 48)
          have hg12 := heap_alloc_new w11 (.cells #[.int .i64 13, .int .i64 ev.view, .int .i64 ev.turn, .int .i64 ev.slot, .int .i64 ev.signer, .int .i64 0, .int .i64 ev.kind, .int .i64 0, .int .i64 ev.cX, .int .i64 ev.sX, .slice G1 ev.opX.length d1, .slice G2 ev.sgX.length d2, .int .i64 ev.cY, .int .i64 ev.sY, .slice G4 ev.opY.length d4, .slice G5 ev.sgY.length d5, .slice G6 ev.tY.length d6, .slice G3 ev.tX.length d3, .slice none 0 0, .slice none 0 0, .slice none 0 0, .slice none 0 0, .slice none 0 0] 48)
          generalize w11.alloc (.cells #[.int .i64 13, .int .i64 ev.view, .int .i64 ev.turn, .int .i64 ev.slot, .int .i64 ev.signer, .int .i64 0, .int .i64 ev.kind, .int .i64 0, .int .i64 ev.cX, .int .i64 ev.sX, .slice G1 ev.opX.length d1, .slice G2 ev.sgX.length d2, .int .i64 ev.cY, .int .i64 ev.sY, .slice G4 ev.opY.length d4, .slice G5 ev.sgY.length d5, .slice G6 ev.tY.length d6, .slice G3 ev.tX.length d3, .slice none 0 0, .slice none 0 0, .slice none 0 0, .slice none 0 0, .slice none 0 0] 48) = w12 at *
          have f12 := Fr.of_below hb12 (fun _ => False)
          have f812 := H11.out.1.trans f12 (fun _ h => h.elim)
          have hs12 := HS.out _ f812
          have H12 := H8.out.1.below f812
          refine hK.out _ _ hs12 (fun hHeld => ?_)
          try simp only [Act.put, List.setIfInBounds_toArray, List.set_cons_zero, List.set_cons_succ]
          obtain ⟨css, hcl, hrow, hevs⟩ := H12.er
          refine wpAnyH_ready (rs := [10]) (by kernel_rfl) (by simp) ?_
          refine AllReadyH.cons (o := ⟨some 101, _, _, _, _, _⟩) rfl (fun K hK => ?_) AllReadyH.nil
          rw [if_pos (by rfl)]
          refine wp_append_msg _ _ (by rfl) w0.heap.size out E.length css.flatten (by rfl) hrow ⟨w11.heap.size, 0, none⟩ [.int .i64 13, .int .i64 ev.view, .int .i64 ev.turn, .int .i64 ev.slot, .int .i64 ev.signer, .int .i64 0, .int .i64 ev.kind, .int .i64 0, .int .i64 ev.cX, .int .i64 ev.sX, .slice G1 ev.opX.length d1, .slice G2 ev.sgX.length d2, .int .i64 ev.cY, .int .i64 ev.sY, .slice G4 ev.opY.length d4, .slice G5 ev.sgY.length d5, .slice G6 ev.tY.length d6, .slice G3 ev.tX.length d3, .slice none 0 0, .slice none 0 0, .slice none 0 0, .slice none 0 0, .slice none 0 0] (by rfl) rfl (fun j u hu => by
            rw [add_at, Nat.zero_add]
            simp only [World.cell?, hg12]
            simpa using hu) (by simp [Value.oneCell']) (by have := HL.out; omega) H12.F.size ?_
          intro v13 w13 hrow13 hf13
          have hev13 := ERow.snoc hcl hevs (e := ev) (c := [.int .i64 13, .int .i64 ev.view, .int .i64 ev.turn, .int .i64 ev.slot, .int .i64 ev.signer, .int .i64 0, .int .i64 ev.kind, .int .i64 0, .int .i64 ev.cX, .int .i64 ev.sX, .slice G1 ev.opX.length d1, .slice G2 ev.sgX.length d2, .int .i64 ev.cY, .int .i64 ev.sY, .slice G4 ev.opY.length d4, .slice G5 ev.sgY.length d5, .slice G6 ev.tY.length d6, .slice G3 ev.tX.length d3, .slice none 0 0, .slice none 0 0, .slice none 0 0, .slice none 0 0, .slice none 0 0]) rfl H11.out.2 hrow13
          have H13 := Aside0.mk (H12.app hf13 hev13)
          have hs13 : w13.cell? (ad2.add (j * 11)) = some (.int .i64 x.kind) ∧ w13.cell? ⟨(ad2.add (j * 11)).block, (ad2.add (j * 11)).off + 1, none⟩ = some (.int .i64 x.slot) ∧ w13.cell? ⟨(ad2.add (j * 11)).block, (ad2.add (j * 11)).off + 2, none⟩ = some (.int .i64 x.signer) ∧ w13.cell? ⟨(ad2.add (j * 11)).block, (ad2.add (j * 11)).off + 3, none⟩ = some (.int .i64 x.view) ∧ w13.cell? ⟨(ad2.add (j * 11)).block, (ad2.add (j * 11)).off + 4, none⟩ = some (.int .i64 x.turn) ∧ w13.cell? ⟨(ad2.add (j * 11)).block, (ad2.add (j * 11)).off + 5, none⟩ = some (.int .i64 x.c) ∧ w13.cell? ⟨(ad2.add (j * 11)).block, (ad2.add (j * 11)).off + 6, none⟩ = some (.int .i64 x.s) ∧ w13.cell? ⟨(ad2.add (j * 11)).block, (ad2.add (j * 11)).off + 7, none⟩ = some (.slice Y1 x.op.length y1) ∧ w13.cell? ⟨(ad2.add (j * 11)).block, (ad2.add (j * 11)).off + 8, none⟩ = some (.slice Y2 x.sg.length y2) ∧ w13.cell? ⟨(ad2.add (j * 11)).block, (ad2.add (j * 11)).off + 9, none⟩ = some (.slice Y3 x.t.length y3) ∧ w13.cell? ⟨(ad2.add (j * 11)).block, (ad2.add (j * 11)).off + 10, none⟩ = some (.bool true) ∧ w13.cell? ⟨gr, 0, none⟩ = some (.int .i64 c) ∧ w13.cell? ⟨gr, 1, none⟩ = some (.int .i64 s) ∧ w13.cell? ⟨gr, 2, none⟩ = some (.slice Ao op.length co) ∧ w13.cell? ⟨gr, 3, none⟩ = some (.slice As sg.length cs) ∧ w13.cell? ⟨W.heap.size, 0, none⟩ = some (.int .i64 si) ∧ w13.cell? ⟨W.heap.size, 1, none⟩ = some (.slice A3 t.length c3) := by
            have g1 := f812.blk HT.out.2 (fun h => h)
            have g2 := f812.blk H8.out.1.hr (fun h => h)
            have g3 := f812.blk H8.out.2.1 (fun h => h)
            exact HT.out.1 w13 (hf13.blk g1 (not_of hrow g1 (by decide))) (hf13.blk g2 (not_of hrow g2 (by decide))) (hf13.blk g3 (not_of hrow g3 (by decide)))
          refine hK.out _ _ hs13 (fun hHeld => ?_)
          try simp only [Act.put, List.setIfInBounds_toArray, List.set_cons_zero, List.set_cons_succ]
          refine wpAnyH_take (i := 11) (oi := ⟨some 14, _, _, _, _, _⟩) (v := v13) rfl (by kernel_rfl) (by kernel_rfl) (by kernel_rfl) (fun _ _ _ h => h) (Or.inl ⟨by rfl, by (intro w' hSw; (try dsimp only at hSw); go_simp)⟩) (by assumption) ?_
          try simp only [Act.put, List.setIfInBounds_toArray, List.set_cons_zero, List.set_cons_succ]
          refine wpAnyH_done (by kernel_rfl) ?_ _
          refine NoPanic.normal ?_
          clear hs8' hs11 hs12 hs13 hHeld HA HS HT H8 H11 HG7 HY hrow hrow13 hevs hev13
          have b5 := B5.out
          go_wp2
          exact HH.out.2.2.2 _ _ _ _ _ _ ⟨rfl, rfl⟩ rfl rfl rfl rfl rfl rfl rfl rfl rfl H13.out (.inr (.inr (.inr (.inr ⟨HVR.out, j, x, HX.out.1, HX.out.2.key, htd, of_decide_eq_false HBE.out, rfl, by rw [HEV.out]⟩))))
    · have hn : ∀ x ∈ S, ¬ isAt x kind view turn slot si := fun x hx hat => by
        obtain ⟨j, hj, rfl⟩ := List.getElem_of_mem hx
        exact hh ⟨j, S[j], List.getElem?_eq_getElem hj, hat⟩
      have HN := Aside0.mk hn
      clear hn
      have y : w5.cell? ⟨W.heap.size, 0, none⟩ = some (.int .i64 si) ∧ w5.cell? ⟨W.heap.size, 1, none⟩ = some (.slice A3 t.length c3) := by simp [World.cell?, H5.out.2]
      have q : w5.cell? ⟨gb, 0, none⟩ = some (.int .i64 view) ∧ w5.cell? ⟨gb, 1, none⟩ = some (.int .i64 turn) := by simp [World.cell?, H5.out.1.hb]
      obtain ⟨y0, y1⟩ := y
      obtain ⟨q0, q1⟩ := q
      obtain ⟨A', c', e', _, hwr⟩ := H5.out.1.lr.wr H5.out.1.F H5.out.1.ok (by have := HL.out; omega)
      injection e' with e1 _ e3
      subst e1 e3
      have HWR := Aside0.mk hwr
      clear hwr
      go_wp2_with (fail)
      refine (find_no S (by have := HL.out; omega) Al cl w5 HWR.out hcl kind view turn slot si HN.out).mono ?_
      rintro e w6 ⟨rfl, hb6⟩
      have f6 := Fr.of_below hb6 (fun _ => False)
      have H6 := Aside0.mk (And.intro (H5.out.1.below f6) (f6.blk H5.out.2 (fun h => h)))
      clear hb6 f6 H5 HWR y0 y1 q0 q1
      by_cases hn8 : S.length < 8192
      · have cl8 : decide ((S.length : Int) < 8192) = true := decide_eq_true (by omega)
        have y : w6.cell? ⟨W.heap.size, 0, none⟩ = some (.int .i64 si) ∧ w6.cell? ⟨W.heap.size, 1, none⟩ = some (.slice A3 t.length c3) := by simp [World.cell?, H6.out.2]
        have q : w6.cell? ⟨gb, 0, none⟩ = some (.int .i64 view) ∧ w6.cell? ⟨gb, 1, none⟩ = some (.int .i64 turn) := by simp [World.cell?, H6.out.1.hb]
        have r : w6.cell? ⟨gr, 0, none⟩ = some (.int .i64 c) ∧ w6.cell? ⟨gr, 1, none⟩ = some (.int .i64 s) ∧ w6.cell? ⟨gr, 2, none⟩ = some (.slice Ao op.length co) ∧ w6.cell? ⟨gr, 3, none⟩ = some (.slice As sg.length cs) := by simp [World.cell?, H6.out.1.hr]
        obtain ⟨y0, y1⟩ := y
        obtain ⟨q0, q1⟩ := q
        obtain ⟨r0, r1, r2, r3⟩ := r
        obtain ⟨css, h1, hq, h3⟩ := H6.out.1.lr
        have HR := Aside0.mk (And.intro hq (And.intro h1 h3))
        clear hq h1 h3
        go_wp2_with (first | ((with_reducible refine gate_builtin (b := .append) (xs := #[.tmp 57, .tmp 67]) rfl ?_); at_builtin; refine Aside0.out ?_))
        refine ⟨?_⟩
        have hg7 := heap_alloc_new w6 (.cells #[.int .i64 kind, .int .i64 slot, .int .i64 si, .int .i64 view, .int .i64 turn, .int .i64 c, .int .i64 s, .slice Ao op.length co, .slice As sg.length cs, .slice A3 t.length c3, .bool false] 71)
        have f7 := Fr.of_below (below_alloc (Below.refl w6.heap.size w6) (.cells #[.int .i64 kind, .int .i64 slot, .int .i64 si, .int .i64 view, .int .i64 turn, .int .i64 c, .int .i64 s, .slice Ao op.length co, .slice As sg.length cs, .slice A3 t.length c3, .bool false] 71)) (fun _ => False)
        generalize w6.alloc (.cells #[.int .i64 kind, .int .i64 slot, .int .i64 si, .int .i64 view, .int .i64 turn, .int .i64 c, .int .i64 s, .slice Ao op.length co, .slice As sg.length cs, .slice A3 t.length c3, .bool false] 71) = w7 at *
        have H7 := Aside0.mk (H6.out.1.below f7)
        refine wpList_append_seen rfl (by rfl) w0.heap.size _ _ (by rfl) _ S.length css.flatten (by rfl) (row_fr0 HR.out.1 f7) (some ⟨w6.heap.size, 0, none⟩) 1 1 [.int .i64 kind, .int .i64 slot, .int .i64 si, .int .i64 view, .int .i64 turn, .int .i64 c, .int .i64 s, .slice Ao op.length co, .slice As sg.length cs, .slice A3 t.length c3, .bool false] (by rfl) rfl (fun j u hu => ⟨_, rfl, by
          rw [add_at, Nat.zero_add]
          simp only [World.cell?, hg7]
          simpa using hu⟩) (by simp [Value.oneCell']) (by have := HL.out; omega) H7.out.F.size ?_
        intro v8 w8 hq8 hf8
        have hx : SnIs w0 [.int .i64 kind, .int .i64 slot, .int .i64 si, .int .i64 view, .int .i64 turn, .int .i64 c, .int .i64 s, .slice Ao op.length co, .slice As sg.length cs, .slice A3 t.length c3, .bool false] ⟨kind, view, turn, slot, si, c, s, op, sg, t, false⟩ := ⟨Ao, co, As, cs, A3, c3, rfl, H7.out.ro, H7.out.rs, ⟨hc3, HH.out.2.1⟩⟩
        have hlr := LRow.snoc HR.out.2.1 HR.out.2.2 hx hq8
        have H8 := Aside0.mk (H7.out.row hf8 hlr (fun z hz => by
          rcases List.mem_append.1 hz with hz | hz
          · exact H7.out.ok z hz
          · obtain rfl : z = _ := by simpa using hz
            exact ⟨HW.out.1, HW.out.2.1, HW.out.2.2.1, HW.out.2.2.2.1, HW.out.2.2.2.2, HL.out.1, vrA_len HVR.out, HL.out.2.2.2.2.1, HL.out.2.2.2.2.2.1⟩) (by
          rw [List.map_append]
          refine List.nodup_append.2 ⟨H7.out.nd, by simp, fun a ha b hb e => ?_⟩
          have e2 : b = plK kind view turn slot si := by simpa [Sn.key] using hb
          rw [e, e2] at ha
          exact not_key H7.out.ok HW.out.1 HW.out.2.1 HW.out.2.2.1 HW.out.2.2.2.1 HW.out.2.2.2.2 HN.out ha))
        clear hlr hx hq8 hf8 hg7 f7 H6 H7 HR y0 y1 q0 q1 r0 r1 r2 r3
        have b5 := B5.out
        go_wp2
        exact HH.out.2.2.2 _ _ _ _ _ _ ⟨rfl, rfl⟩ rfl rfl rfl rfl rfl rfl rfl rfl (congrArg (Value.int .i64) B5.out) H8.out (.inr (.inl ⟨HVR.out, not_key HH.out.1.ok HW.out.1 HW.out.2.1 HW.out.2.2.1 HW.out.2.2.2.1 HW.out.2.2.2.2 HN.out, hn8, rfl, rfl⟩))
      · have hn8 : 8192 ≤ S.length := by omega
        have cl8 : decide ((S.length : Int) < 8192) = false := decide_eq_false (by omega)
        have b5 := B5.out
        go_wp2
        exact HH.out.2.2.2 _ _ _ _ _ _ ⟨rfl, rfl⟩ rfl rfl rfl rfl rfl rfl rfl rfl (congrArg (Value.int .i64) B5.out) H6.out.1 (.inr (.inr (.inl ⟨HVR.out, not_key H6.out.1.ok HW.out.1 HW.out.2.1 HW.out.2.2.1 HW.out.2.2.2.1 HW.out.2.2.2.2 HN.out, hn8, rfl, rfl⟩)))
end Go.Proofs.Ytnabilhcmplhcaa.Sha
end
