/-
  WalCompacts, its walk: compacting is whole or not at all.
-/
import Derived.Test.YtkkgjbafncmohaaWalP
import Derived.Test.YtkkgjbafncmohaaApps
set_option linter.unusedVariables false
set_option linter.unusedSimpArgs false
namespace Go.Proofs.Ytkkgjbafncmohaa.Sha
open Go.RowKit Go.Proofs.YtkkgjbafncmohaaW.PrintWords Go.Proofs.YtkkgjbafncmohaaW.PrintLast Go.Proofs.YtkkgjbafncmohaaW.PrintMore Go.Proofs.Ytkkgjbafncmohaa.Q Go.Proofs.Ytkkgjbafncmohaa.Fr Go.Proofs.Ytkkgjbafncmohaa.Oct

theorem open_pack (d : Dsk) (L : List (List Int)) (h : d.dead = false) (hb : d.bytes = packA L) (hB : ∀ x ∈ L, Bys x) (hx : tot L ≤ 100005) : d.open = (d, L, 0) := by
  have hs : scanA d.bytes = (L, (packA L).length) := by
    have := scanA_pack L [] torn_nil (fun x hm => by have := tot_mem hm; omega) (by rw [List.append_nil]; exact packA_bys hB) (by rw [List.append_nil]; have := tot_pack L; omega)
    rw [List.append_nil] at this
    rw [hb]
    exact this
  unfold Dsk.open
  rw [if_neg (by rw [h]; decide), hs, hb, if_neg (by simp)]
set_option maxHeartbeats 8000000 in
set_option maxRecDepth 100000 in
theorem compacts_calls (Aa Ab : Option Addr) (ca cb : Nat) (la lb : List (List Int)) (br : Bool) (w : World) (hCa : CC w Aa la) (hca : la.length ≤ ca) (hCb : CC w Ab lb) (hcb : lb.length ≤ cb) (hBa : ∀ x ∈ la, Bys x) (hBb : ∀ x ∈ lb, Bys x) (hs : szL la + szL lb ≤ 1048576) :
    Calls Try.prog 6 #[.slice Aa la.length ca, .slice Ab lb.length cb, .bool br] w fun e w' => e = .returned (.bool true) ∧ Below w.heap.size w w' := by
  have hLa := szL_len la
  have hLb := szL_len lb
  have HC := Aside0.mk (And.intro hCa (And.intro hCb (And.intro hBa (And.intro hBb (And.intro hs (And.intro hLa hLb))))))
  clear hCa hCb hBa hBb hs hLa hLb
  go_enter Try.func6, Try.ntmps6
  go_wp2_with (fail)
  refine (walive_calls w).mono ?_
  rintro e w1 ⟨rfl, hb1⟩
  have H1 := Aside0.mk (Fr.of_below hb1 (fun _ => False))
  clear hb1
  go_wp2_with (fail)
  refine (copy_calls la Aa ca w1 (HC.out.1.fr H1.out) hca (by have := HC.out; omega)).mono ?_
  rintro e w2 ⟨v2, us, rfl, ho2, hV2, hfar2, hb2⟩
  have F2 := H1.out.trans (Fr.of_below hb2 (fun _ => False)) (fun _ h => h.elim)
  have H2 := Aside0.mk (And.intro F2 (And.intro ho2 (And.intro hV2 (And.intro hfar2 (And.intro hb2.size H1.out.size)))))
  clear H1 ho2 hV2 hfar2 hb2 F2
  go_wp2_with (first | ((with_reducible refine gate_builtin (b := .append) (xs := #[.tmp 21, .tmp 22]) rfl ?_); at_builtin; refine Aside0.out ?_))
  refine ⟨?_⟩
  obtain ⟨vs, hvs, hread⟩ := (HC.out.2.1.fr H2.out.1).vals
  have hrd0 : ∀ (j : Nat) (u : Value), vs[j]? = some u → ∃ ad, Ab = some ad ∧ w2.cell? (ad.add j) = some u := hread
  refine wpList_apps rfl (by rfl) w1.heap.size _ _ (by rfl) v2 us (by rfl) H2.out.2.1 Ab lb.length cb vs (by rfl) hvs.1.symm hrd0 hvs.one (by rw [H2.out.2.2.1.1, hvs.1]; have := HC.out; omega) H2.out.2.2.2.2.1 ?_
  intro v3 w3 ho3 hf3
  have F3 : Fr (fun _ => False) w w3 := H2.out.1.trans hf3 (fun k hk => .inr (by have := (q_typed (q_of_own H2.out.2.1) k hk.symm).1; have := H2.out.2.2.2.2.2; omega))
  have hVa := H2.out.2.2.1.frS hf3 H2.out.2.2.2.1
  obtain ⟨vs0, hvs0, hread0⟩ := HC.out.2.1.vals
  have hVb : Vals w3 vs lb := by
    have e : vs = vs0 := by
      refine List.ext_getElem? fun j => ?_
      by_cases hj : j < lb.length
      · have h1 : vs[j]? = some (vs[j]'(by rw [hvs.1]; exact hj)) := List.getElem?_eq_getElem _
        have h2 : vs0[j]? = some (vs0[j]'(by rw [hvs0.1]; exact hj)) := List.getElem?_eq_getElem _
        obtain ⟨ad1, e1, c1⟩ := hrd0 j _ h1
        obtain ⟨ad2, e2, c2⟩ := hread0 j _ h2
        rw [e1] at e2
        cases e2
        have c3 := H2.out.1.cell c2 (fun h => h)
        rw [c1] at c3
        rw [h1, h2]
        exact c3
      · rw [List.getElem?_eq_none (by rw [hvs.1]; omega), List.getElem?_eq_none (by rw [hvs0.1]; omega)]
    rw [e]
    exact hvs0.fr F3
  obtain ⟨A3, c3, e3, hc3, hC3⟩ := own_CC (hVa.append hVb) ho3 (by rw [List.length_append]; have := HC.out; omega)
  subst e3
  have H3 := Aside0.mk (And.intro F3 (And.intro hC3 hc3))
  clear H2 hvs hread hrd0 ho3 hf3 F3 hVa hvs0 hread0 hVb hC3 hc3
  obtain ⟨L, hL⟩ : ∃ L, la ++ lb = L := ⟨_, rfl⟩
  rw [hL] at H3 ⊢
  have HL := Aside0.mk hL
  clear hL
  have hLl : L.length ≤ 2097152 := by rw [← HL.out, List.length_append]; have := HC.out; omega
  have hLb : ∀ x ∈ L, x.length ≤ 140737488351232 := fun x hx => by
    rw [← HL.out] at hx
    rcases List.mem_append.1 hx with hx | hx
    · have := szL_mem hx; have := HC.out; omega
    · have := szL_mem hx; have := HC.out; omega
  have HLL := Aside0.mk (And.intro hLl hLb)
  clear hLl hLb
  go_wp2
  refine loopP1 (.slice Aa la.length ca) (.slice Ab lb.length cb) (.bool br) A3 c3 L (by have := HLL.out; omega) HLL.out.2 w3 H3.out.2.1 _ ?_ ?_ _ ⟨⟨rfl, rfl⟩, rfl, rfl, rfl, rfl, rfl, rfl, rfl⟩
  · intro a' hF h6
    rw [fm96 hF, h6]
    go_ret
    exact ⟨rfl, H3.out.1.below _ (Nat.le_refl _) (fun i h => h.elim)⟩
  intro ht a' hF j0 j1 j2
  rw [fm96 hF, j0, j1, j2]
  have hta : tot la ≤ 100005 := by have := tot_append la lb; rw [HL.out] at this; omega
  have htb : tot lb ≤ 100005 := by have := tot_append la lb; rw [HL.out] at this; omega
  have HT := Aside0.mk (And.intro hta htb)
  clear hF j0 j1 j2 ht hta htb
  go_wp2_with (fail)
  refine (dnew_calls 4194304 w3).mono ?_
  rintro e w4 ⟨g, rfl, hD4, hb4⟩
  have H4 := Aside0.mk (Dk.new H3.out.1 hD4 hb4)
  clear H3 hD4 hb4
  go_wp2_with (fail)
  have hop := open_calls g w.heap.size _ _ w4 H4.out.at' H4.out.F.size (by show Bys []; exact Bys.nil) (by decide) (by decide)
  rw [open_nil (dsk0 4194304) rfl rfl] at hop
  refine hop.mono ?_
  clear hop
  rintro e w5 ⟨pv, rv, A5, c5, rfl, rfl, hc5, hC5, hp1, hp2, hf5, bv5, hD5, hn5, ha5⟩
  obtain ⟨gl, rfl, hgl, hLg⟩ := hp2 rfl
  have H5 := Aside0.mk (Lk.mk (H4.out.call hf5 hD5) hLg (ha5 gl rfl) (Nat.le_trans H4.out.F.size hgl))
  clear H4 hC5 hp1 hp2 hf5 hD5 hn5 ha5 hgl hLg
  go_wp2_with (fail)
  refine (copy_calls la Aa ca w5 (HC.out.1.fr H5.out.dk.F) hca (by have := HC.out; omega)).mono ?_
  rintro e w6 ⟨v6, us6, rfl, ho6, hV6, _, hb6⟩
  obtain ⟨A6, c6, rfl, hc6, hC6⟩ := own_CC hV6 ho6 (by have := HC.out; omega)
  have H6 := Aside0.mk (And.intro (H5.out.below hb6) (And.intro hC6 hc6))
  clear H5 ho6 hV6 hb6 hC6 hc6
  go_wp2_with (fail)
  have e7 : (dsk0 4194304).rep (packA la) = (0, ⟨packA la, 4194304, false, false, -1, 0⟩) := by
    rw [Dsk.rep_ok _ _ rfl (by show ((packA la).length : Int) ≤ 4194304; have := tot_pack la; have := HT.out; omega) (by simp [dsk0])]
    rfl
  have hcp := compact_calls gl g w.heap.size bv5 _ A6 c6 la w6 H6.out.1.log H6.out.1.far H6.out.1.dk.at' H6.out.1.dk.F.size H6.out.2.1 H6.out.2.2 (by have := HC.out; omega) (by decide) (by decide)
  rw [e7] at hcp
  refine hcp.mono ?_
  clear hcp e7
  rintro e w7 ⟨rfl, hf7, bv7, hD7, hn7⟩
  have H7 := Aside0.mk (H6.out.1.call hf7 hD7 hn7)
  clear H6 hf7 hD7 hn7
  cases br with
  | true =>
    go_wp2_with (fail)
    refine (break_calls g w.heap.size bv7 _ 0 3 w7 H7.out.dk.at').mono ?_
    rintro e w8 ⟨rfl, hf8, hD8⟩
    have H8 := Aside0.mk (H7.out.call1 hf8 hD8)
    clear H7 hf8 hD8
    go_wp2_with (fail)
    refine (copy_calls lb Ab cb w8 (HC.out.2.1.fr H8.out.dk.F) hcb (by have := HC.out; omega)).mono ?_
    rintro e w9 ⟨v9, us9, rfl, ho9, hV9, _, hb9⟩
    obtain ⟨A9, c9, rfl, hc9, hC9⟩ := own_CC hV9 ho9 (by have := HC.out; omega)
    have H9 := Aside0.mk (And.intro (H8.out.below hb9) (And.intro hC9 hc9))
    clear H8 ho9 hV9 hb9 hC9 hc9
    go_wp2_with (fail)
    have e10 : (Dsk.brk ⟨packA la, 4194304, false, false, -1, 0⟩ 0 3).rep (packA lb) = (115, ⟨packA la, 4194304, true, true, 0, 3⟩) := by
      rw [Dsk.rep_break _ _ rfl (by show ((packA lb).length : Int) ≤ 4194304; have := tot_pack lb; have := HT.out; omega) ⟨rfl, rfl⟩]
      rfl
    have hcp := compact_calls gl g w.heap.size bv7 _ A9 c9 lb w9 H9.out.1.log H9.out.1.far H9.out.1.dk.at' H9.out.1.dk.F.size H9.out.2.1 H9.out.2.2 (by have := HC.out; omega) (by show (-4611686018427387904 : Int) ≤ max 0 0; decide) (by show max 0 0 ≤ (9223372036854775807 : Int); decide)
    rw [e10] at hcp
    refine hcp.mono ?_
    clear hcp e10
    rintro e w10 ⟨rfl, hf10, bv10, hD10, hn10⟩
    have H10 := Aside0.mk (H9.out.1.call hf10 hD10 hn10)
    clear H9 hf10 hD10 hn10
    go_wp2_with (fail)
    refine (mend_calls g w.heap.size bv10 _ w10 H10.out.dk.at').mono ?_
    rintro e w11 ⟨rfl, hf11, hD11⟩
    have H11 := Aside0.mk (H10.out.call1 hf11 hD11)
    clear H10 hf11 hD11
    go_wp2_with (fail)
    have hop := open_calls g w.heap.size _ _ w11 H11.out.dk.at' H11.out.dk.F.size (by show Bys (packA la); exact packA_bys HC.out.2.2.1) (by show (-4611686018427387904 : Int) ≤ 0; decide) (by show (0 : Int) ≤ 9223372036854775807; decide)
    rw [open_pack (Dsk.mend ⟨packA la, 4194304, true, true, 0, 3⟩) la rfl rfl HC.out.2.2.1 HT.out.1] at hop
    refine hop.mono ?_
    clear hop
    rintro e w12 ⟨pv12, rv12, A12, c12, rfl, rfl, hc12, hC12, hp1, hp2, hf12, bv12, hD12, hn12, ha12⟩
    have H12 := Aside0.mk (And.intro (H11.out.dk.call hf12 hD12) (And.intro hC12 hc12))
    clear H11 hC12 hp1 hp2 hf12 hD12 hn12 ha12 hc12
    go_wp2_with (fail)
    have hsl := samelist_calls la la A12 c12 Aa ca w12 H12.out.2.1 H12.out.2.2 (HC.out.1.fr H12.out.1.F) hca HC.out.2.2.1 HC.out.2.2.1
    rw [decide_eq_true rfl] at hsl
    refine hsl.mono ?_
    clear hsl
    rintro e w13 ⟨rfl, hb13⟩
    have H13 := Aside0.mk (H12.out.1.below hb13)
    clear H12 hb13
    go_wp2
    go_ret
    exact ⟨by first | rfl | simp, H13.out.F.below _ (Nat.le_refl _) (fun i h => h.elim)⟩
  | false =>
    go_wp2_with (fail)
    refine (copy_calls lb Ab cb w7 (HC.out.2.1.fr H7.out.dk.F) hcb (by have := HC.out; omega)).mono ?_
    rintro e w9 ⟨v9, us9, rfl, ho9, hV9, _, hb9⟩
    obtain ⟨A9, c9, rfl, hc9, hC9⟩ := own_CC hV9 ho9 (by have := HC.out; omega)
    have H9 := Aside0.mk (And.intro (H7.out.below hb9) (And.intro hC9 hc9))
    clear H7 ho9 hV9 hb9 hC9 hc9
    go_wp2_with (fail)
    have e10 : (⟨packA la, 4194304, false, false, -1, 0⟩ : Dsk).rep (packA lb) = (0, ⟨packA lb, 4194304, false, false, -2, 0⟩) := by
      rw [Dsk.rep_ok _ _ rfl (by show ((packA lb).length : Int) ≤ 4194304; have := tot_pack lb; have := HT.out; omega) (by simp)]
      rfl
    have hcp := compact_calls gl g w.heap.size bv7 _ A9 c9 lb w9 H9.out.1.log H9.out.1.far H9.out.1.dk.at' H9.out.1.dk.F.size H9.out.2.1 H9.out.2.2 (by have := HC.out; omega) (by show (-4611686018427387904 : Int) ≤ -1; decide) (by show (-1 : Int) ≤ 9223372036854775807; decide)
    rw [e10] at hcp
    refine hcp.mono ?_
    clear hcp e10
    rintro e w10 ⟨rfl, hf10, bv10, hD10, hn10⟩
    have H10 := Aside0.mk (H9.out.1.call hf10 hD10 hn10)
    clear H9 hf10 hD10 hn10
    go_wp2_with (fail)
    refine (mend_calls g w.heap.size bv10 _ w10 H10.out.dk.at').mono ?_
    rintro e w11 ⟨rfl, hf11, hD11⟩
    have H11 := Aside0.mk (H10.out.call1 hf11 hD11)
    clear H10 hf11 hD11
    go_wp2_with (fail)
    have hop := open_calls g w.heap.size _ _ w11 H11.out.dk.at' H11.out.dk.F.size (by show Bys (packA lb); exact packA_bys HC.out.2.2.2.1) (by show (-4611686018427387904 : Int) ≤ 0; decide) (by show (0 : Int) ≤ 9223372036854775807; decide)
    rw [open_pack (Dsk.mend ⟨packA lb, 4194304, false, false, -2, 0⟩) lb rfl rfl HC.out.2.2.2.1 HT.out.2] at hop
    refine hop.mono ?_
    clear hop
    rintro e w12 ⟨pv12, rv12, A12, c12, rfl, rfl, hc12, hC12, hp1, hp2, hf12, bv12, hD12, hn12, ha12⟩
    have H12 := Aside0.mk (And.intro (H11.out.dk.call hf12 hD12) (And.intro hC12 hc12))
    clear H11 hC12 hp1 hp2 hf12 hD12 hn12 ha12 hc12
    go_wp2_with (fail)
    have hsl := samelist_calls lb lb A12 c12 Ab cb w12 H12.out.2.1 H12.out.2.2 (HC.out.2.1.fr H12.out.1.F) hcb HC.out.2.2.2.1 HC.out.2.2.2.1
    rw [decide_eq_true rfl] at hsl
    refine hsl.mono ?_
    clear hsl
    rintro e w13 ⟨rfl, hb13⟩
    have H13 := Aside0.mk (H12.out.1.below hb13)
    clear H12 hb13
    go_wp2
    go_ret
    exact ⟨by first | rfl | simp, H13.out.F.below _ (Nat.le_refl _) (fun i h => h.elim)⟩
theorem compacts_row (A0 : Option Addr) (c0 : Nat) (l0 : List (List Int)) (A1 : Option Addr) (c1 : Nat) (l1 : List (List Int)) (a2 : Bool) (w : World) (hC0 : CC w A0 l0) (hl0 : l0.length ≤ c0) (hC1 : CC w A1 l1) (hl1 : l1.length ≤ c1) (hB0 : ∀ x ∈ l0, Bys x) (hB1 : ∀ x ∈ l1, Bys x) (hs : (l0.map fun x => x.length + 1).sum + (l1.map fun x => x.length + 1).sum ≤ 1048576) :
    Calls Try.prog 6 #[.slice A0 l0.length c0, .slice A1 l1.length c1, .bool a2] w fun e w' => e = .returned (.bool true) ∧ Below w.heap.size w w' :=
  compacts_calls A0 A1 c0 c1 l0 l1 a2 w hC0 hl0 hC1 hl1 hB0 hB1 hs
end Go.Proofs.Ytkkgjbafncmohaa.Sha
