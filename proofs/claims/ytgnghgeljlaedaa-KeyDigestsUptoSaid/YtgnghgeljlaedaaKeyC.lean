/-
  The document's Text; a key that is alive.
-/
import Derived.Test.YtgnghgeljlaedaaKeyB
import Derived.Test.YtgnghgeljlaedaaQx4
set_option linter.unusedVariables false
set_option linter.unusedSimpArgs false
namespace Go.Proofs.Ytgnghgeljlaedaa.Sha
open Go.RowKit Go.Proofs.YtgnghgeljlaedaaW.PrintWords Go.Proofs.YtgnghgeljlaedaaW.PrintLast Go.Proofs.YtgnghgeljlaedaaW.PrintMore Go.Proofs.Ytgnghgeljlaedaa.Q Go.Proofs.Ytgnghgeljlaedaa.Fr Go.Proofs.Ytgnghgeljlaedaa.Oct

set_option maxHeartbeats 8000000 in
set_option maxRecDepth 100000 in
theorem rtext_calls (k : Int) (dom : ByteArray) (A : Option Addr) (c : Nat) (l : List (List Int)) (w : World) (hC : CC w A l) (hc : l.length ≤ c) (hs : szL l + dom.size ≤ 2097000) :
    Calls Try.prog 26 #[.int .i64 k, .string dom, .slice A l.length c] w fun e w' => ∃ v : Value, e = .returned v ∧ OB w' w.heap.size v (txtA k dom l) ∧ Below w.heap.size w w' := by
  have HC := Aside0.mk (And.intro hC (And.intro hc hs))
  clear hC hc hs
  by_cases hk0 : k < 0
  · rw [txtA, if_neg (by omega)]
    have d0 : decide (k < 0) = true := decide_eq_true hk0
    clear hk0
    go_enter Try.func26, Try.ntmps26
    go_wp2
    go_ret
    exact ⟨_, rfl, OB.nil _ _, Below.refl _ _⟩
  have d0 : decide (k < 0) = false := decide_eq_false hk0
  by_cases hk1 : 127 < k
  · rw [txtA, if_neg (by omega)]
    have d1 : decide (127 < k) = true := decide_eq_true hk1
    clear hk0 hk1
    go_enter Try.func26, Try.ntmps26
    go_wp2
    go_ret
    exact ⟨_, rfl, OB.nil _ _, Below.refl _ _⟩
  have d1 : decide (127 < k) = false := decide_eq_false hk1
  rw [txtA, if_pos (by omega)]
  clear hk0 hk1
  go_enter Try.func26, Try.ntmps26
  go_wp2_with (fail)
  refine (catenaryref01_Int.calls 14 k (intA k).1 (intA k).2 w (rintA_f k 14 (Nat.le_refl _))).mono ?_
  rintro e w2 ⟨v2, rfl, hR2, hb2⟩
  have hO2 : OB w2 w.heap.size v2 (intA k).1 := Kd.own_of_R hR2
  obtain ⟨A2, c2, rfl, hc2⟩ := hO2.slice
  have hl2 := intA_len k
  obtain ⟨n2, hn2⟩ : ∃ n2, (intA k).1.length = n2 := ⟨_, rfl⟩
  rw [hn2] at hO2 hc2 hl2 ⊢
  have H2 := Aside0.mk (And.intro (Fr.of_below hb2 (fun _ => False)) (And.intro (QB.rd (q_of_own hO2)) hn2))
  clear hR2 hb2 hO2 hn2
  go_wp2_with (first | ((with_reducible refine gate_dst (N := 21) rfl ?_); refine wpList_constb rfl sgnB (by rfl) (fun _ => by rfl) (by first | (go_simp; done) | (go_simp; rfl) | (go_simp; exact ⟨rfl, rfl⟩)) _ (by rfl) (fun _ => rfl) ?_; intro g3 v3 w3 hr3 hb3 hg3 hg3') | ((with_reducible refine gate_dst (N := 25) rfl ?_); refine wpList_strb rfl (by rfl) dom _ (by rfl) (by rfl) ?_; intro g4 c4 w4 hr4 hc4 hb4 hg4 hg4') | ((with_reducible refine gate_builtin (b := .append) (xs := #[.tmp 27, .tmp 28]) rfl ?_); at_builtin; refine Aside0.out ?_))
  refine ⟨?_⟩
  have f3 := Fr.of_below hb3 (fun _ => False)
  have f4 := Fr.of_below hb4 (fun _ => False)
  have hq5 := World.ownsRow_lit (base := w4.heap.size) (e := 23) (size := 1) w4 #[.slice (some ⟨g3, 0, none⟩) sgnB.length sgnB.length, .slice A2 n2 c2, .slice (some ⟨g4, 0, none⟩) dom.size c4] 3 (Nat.le_refl _) (by decide) (by simp)
  have hb5 := below_alloc (Below.refl w4.heap.size w4) (.cells #[.slice (some ⟨g3, 0, none⟩) sgnB.length sgnB.length, .slice A2 n2 c2, .slice (some ⟨g4, 0, none⟩) dom.size c4] 23)
  generalize w4.alloc (.cells #[.slice (some ⟨g3, 0, none⟩) sgnB.length sgnB.length, .slice A2 n2 c2, .slice (some ⟨g4, 0, none⟩) dom.size c4] 23) = w5 at *
  have f5 := Fr.of_below hb5 (fun _ => False)
  have f24 := f3.trans f4 (fun _ h => h.elim)
  have F4 := H2.out.1.trans f24 (fun _ h => h.elim)
  obtain ⟨vs, hvs, hread⟩ := (HC.out.1.fr F4).vals
  have hV : Vals w4 ([.slice (some ⟨g3, 0, none⟩) sgnB.length sgnB.length, .slice A2 n2 c2, .slice (some ⟨g4, 0, none⟩) dom.size c4] ++ vs) ([sgnB, (intA k).1, strI dom] ++ l) :=
    (Vals.cons rfl (Nat.le_refl _) (by decide) (hr3.fr f4 (fun _ _ h => h)) (Vals.cons H2.out.2.2.symm hc2 (by omega) (H2.out.2.1.fr f24 (fun _ _ h => h)) (Vals.cons (strI_len dom).symm hc4 (by have := HC.out; omega) hr4 (Vals.nil _)))).append hvs
  have hll : l.length ≤ 2097000 := by have := szL_len l; have := HC.out; omega
  refine wpList_apps rfl (by rfl) w4.heap.size _ _ (by rfl) _ [.slice (some ⟨g3, 0, none⟩) sgnB.length sgnB.length, .slice A2 n2 c2, .slice (some ⟨g4, 0, none⟩) dom.size c4] (by rfl) hq5 A l.length c vs (by rfl) hvs.1.symm (fun j u hu => by
    obtain ⟨ad, e, h⟩ := hread j u hu
    exact ⟨ad, e, f5.cell h (fun h => h)⟩) hvs.one (by rw [hvs.1]; simp only [List.length_cons, List.length_nil]; omega) f5.size ?_
  intro v6 w6 hq6 hf6
  have F46 : Fr (fun _ => False) w4 w6 := f5.trans hf6 (fun k hk => .inr (by
    have : k = w4.heap.size := by simpa [Value.ownBlock] using hk
    omega))
  obtain ⟨A6, c6, e6, hc6, hC6⟩ := own_CC (hV.fr F46) hq6 (by simp only [List.length_append, List.length_cons, List.length_nil]; omega)
  obtain ⟨L, hL⟩ : ∃ L, [sgnB, (intA k).1, strI dom] ++ l = L := ⟨_, rfl⟩
  have hsz : szL L ≤ 2097152 := by
    rw [← hL]
    have : sgnB.length = 4 := rfl
    have := H2.out.2.2
    have := HC.out
    simp only [List.cons_append, List.nil_append, szL_cons, strI_len]
    omega
  rw [hL] at e6 hc6 hC6
  subst e6
  have H6 := Aside0.mk (And.intro (F4.trans F46 (fun _ h => h.elim)) (And.intro hC6 (And.intro hsz hL)))
  clear H2 hr3 hb3 hr4 hb4 f3 f4 f5 f24 F4 hq5 hb5 hV hvs hread hll hq6 hf6 F46 hC6 hsz hL hc4 hc2
  go_wp2_with (fail)
  refine (catenaryref01_Pack.calls (L.length + 15) A6 c6 L (packA L) w6 H6.out.2.1 hc6 (rpack_f _ H6.out.2.2.1 _ (Nat.le_refl _))).mono ?_
  rintro e w7 ⟨v7, rfl, hR7, hb7⟩
  have hO7 : OB w7 w6.heap.size v7 (packA L) := Kd.own_of_R hR7
  have e7 : packA L = packA (sgnB :: (intA k).1 :: strI dom :: l) := by rw [← H6.out.2.2.2]; rfl
  rw [e7] at hO7
  have H7 := Aside0.mk (And.intro (hO7.lower H6.out.1.size) (H6.out.1.trans (Fr.of_below hb7 (fun _ => False)) (fun _ h => h.elim)))
  clear H6 hR7 hb7 hO7 hc6 e7
  go_wp2
  go_ret
  exact ⟨_, rfl, H7.out.1, H7.out.2.below _ (Nat.le_refl _) (fun i h => h.elim)⟩
theorem txt_small (d b : Nat) (hd : d < 128) (hb : b < 128) : txtA 3 ⟨#[UInt8.ofNat d]⟩ [[(b : Int)]] = ([4, 115, 105, 103, 110, 1, 3, 1, (d : Int), 1, (b : Int)] : List Int) := by
  have e1 : strI ⟨#[UInt8.ofNat d]⟩ = [(d : Int)] := by
    show [(((UInt8.ofNat d).toNat : Nat) : Int)] = _
    rw [UInt8.toNat_ofNat']
    congr 2
    omega
  have e2 : intA 3 = ([3], 0) := by rw [intA_yes (by omega)]; exact congrArg (·, 0) (encI_small (n := 3) (by omega))
  rw [txtA, if_pos (by omega), e1, e2]
  simp only [packA_cons, packA_nil, bytesA, sgnB, List.length_cons, List.length_nil]
  rw [intA_yes (by omega), intA_yes (by omega)]
  simp only [Int.toNat_natCast]
  rw [encI_small (by omega), encI_small (by omega)]
  rfl
theorem alive_ne : (sha [4, 115, 105, 103, 110, 1, 3, 1, 97, 1, 98]).head? ≠ (sha [4, 115, 105, 103, 110, 1, 3, 1, 98, 1, 98]).head? := by
  have h1 : (sha [4, 115, 105, 103, 110, 1, 3, 1, 97, 1, 98]).head? = some 204 := by kernel_rfl
  have h2 : (sha [4, 115, 105, 103, 110, 1, 3, 1, 98, 1, 98]).head? = some 47 := by kernel_rfl
  rw [h1, h2]
  decide
theorem sg_ne : sgA 3 ⟨#[97]⟩ [[98]] ≠ sgA 3 ⟨#[98]⟩ [[98]] := fun h => by
  unfold sgA at h
  rw [if_pos (by omega), if_pos (by omega)] at h
  have e1 := txt_small 97 98 (by omega) (by omega)
  have e2 := txt_small 98 98 (by omega) (by omega)
  have h1 : txtA 3 ⟨#[97]⟩ [[98]] = [4, 115, 105, 103, 110, 1, 3, 1, 97, 1, 98] := e1
  have h2 : txtA 3 ⟨#[98]⟩ [[98]] = [4, 115, 105, 103, 110, 1, 3, 1, 98, 1, 98] := e2
  rw [h1, h2] at h
  exact alive_ne (by rw [h])
set_option maxHeartbeats 8000000 in
set_option maxRecDepth 100000 in
theorem kalive_calls (w : World) : Calls Try.prog 20 #[] w fun e w' => e = .returned (.bool true) ∧ Below w.heap.size w w' := by
  obtain ⟨S, hS⟩ : ∃ S, sgA 3 ⟨#[97]⟩ [[98]] = S := ⟨_, rfl⟩
  have hSl : S.length = 32 := by rw [← hS, sgA, if_pos (by omega), sha_len]
  have hSb : Bys S := by rw [← hS]; exact sgA_bys _ _ _
  have HS := Aside0.mk (And.intro hS (And.intro hSl hSb))
  clear hS hSl hSb
  go_enter Try.func20, Try.ntmps20
  go_wp2_with (first | ((with_reducible refine gate_dst (N := 2) rfl ?_); refine wpList_constb rfl [98] (by rfl) (fun _ => by rfl) (by first | (go_simp; done) | (go_simp; rfl) | (go_simp; exact ⟨rfl, rfl⟩)) _ (by rfl) (fun _ => rfl) ?_; intro g2 v2 w2 hr2 hb2 hg2 hg2'))
  have hg3 := heap_alloc_new w2 (.cells #[.slice (some ⟨g2, 0, none⟩) ([98] : List Int).length ([98] : List Int).length] 23)
  have hb3 := below_alloc (Below.refl w2.heap.size w2) (.cells #[.slice (some ⟨g2, 0, none⟩) ([98] : List Int).length ([98] : List Int).length] 23)
  generalize w2.alloc (.cells #[.slice (some ⟨g2, 0, none⟩) ([98] : List Int).length ([98] : List Int).length] 23) = w3 at *
  have f3 := Fr.of_below hb3 (fun _ => False)
  have hC3 : CC w3 (some ⟨w2.heap.size, 0, none⟩) [[98]] := CC.blk (Vals.cons (l := [98]) rfl (Nat.le_refl _) (by decide) (hr2.fr f3 (fun _ _ h => h)) (Vals.nil _)) (by decide) hg3
  have HC3 := Aside0.mk hC3
  have HF3 := Aside0.mk ((Fr.of_below hb2 (fun _ => False)).trans f3 (fun _ h => h.elim))
  clear hr2 hb2 hg3 hb3 f3 hC3
  refine (sign_calls 3 ⟨#[97]⟩ (some ⟨w2.heap.size, 0, none⟩) 1 [[98]] w3 HC3.out (by decide) (by decide)).mono ?_
  rintro e w5 ⟨v5, rfl, hO5, hb5⟩
  rw [HS.out.1] at hO5
  obtain ⟨As, cs, e5, hcs⟩ := hO5.slice
  rw [HS.out.2.1] at e5 hcs
  subst e5
  have H5 := Aside0.mk (And.intro (HF3.out.trans (Fr.of_below hb5 (fun _ => False)) (fun _ h => h.elim)) (QB.rd (q_of_own hO5)))
  clear HC3 HF3 hO5 hb5
  go_wp2_with (first | ((with_reducible refine gate_dst (N := 11) rfl ?_); refine wpList_constb rfl [98] (by rfl) (fun _ => by rfl) (by first | (go_simp; done) | (go_simp; rfl) | (go_simp; exact ⟨rfl, rfl⟩)) _ (by rfl) (fun _ => rfl) ?_; intro g11 v11 w11 hr11 hb11 hg11 hg11'))
  have hg12 := heap_alloc_new w11 (.cells #[.slice (some ⟨g11, 0, none⟩) ([98] : List Int).length ([98] : List Int).length] 23)
  have hb12 := below_alloc (Below.refl w11.heap.size w11) (.cells #[.slice (some ⟨g11, 0, none⟩) ([98] : List Int).length ([98] : List Int).length] 23)
  generalize w11.alloc (.cells #[.slice (some ⟨g11, 0, none⟩) ([98] : List Int).length ([98] : List Int).length] 23) = w12 at *
  have f12 := Fr.of_below hb12 (fun _ => False)
  have hC12 : CC w12 (some ⟨w11.heap.size, 0, none⟩) [[98]] := CC.blk (Vals.cons (l := [98]) rfl (Nat.le_refl _) (by decide) (hr11.fr f12 (fun _ _ h => h)) (Vals.nil _)) (by decide) hg12
  have HC12 := Aside0.mk hC12
  have HF12 := Aside0.mk ((Fr.of_below hb11 (fun _ => False)).trans f12 (fun _ h => h.elim))
  clear hr11 hb11 hg12 hb12 f12 hC12
  have hv := verify_calls 3 ⟨#[97]⟩ As cs S (some ⟨w11.heap.size, 0, none⟩) 1 [[98]] w12 (H5.out.2.fr HF12.out (fun _ _ h => h)) (by rw [HS.out.2.1]; exact hcs) (by rw [HS.out.2.1]; omega) HS.out.2.2 HC12.out (by decide) (by decide)
  rw [HS.out.2.1, HS.out.1, show (decide ((0 : Int) ≤ 3 ∧ (3 : Int) ≤ 127) && decide (S = S)) = true by simp] at hv
  refine hv.mono ?_
  clear hv
  rintro e w14 ⟨rfl, hb14⟩
  have f14 := HF12.out.trans (Fr.of_below hb14 (fun _ => False)) (fun _ h => h.elim)
  have H14 := Aside0.mk (And.intro (H5.out.1.trans f14 (fun _ h => h.elim)) (H5.out.2.fr f14 (fun _ _ h => h)))
  clear HC12 HF12 H5 hb14 f14
  go_wp2_with (first | ((with_reducible refine gate_dst (N := 18) rfl ?_); refine wpList_constb rfl [98] (by rfl) (fun _ => by rfl) (by first | (go_simp; done) | (go_simp; rfl) | (go_simp; exact ⟨rfl, rfl⟩)) _ (by rfl) (fun _ => rfl) ?_; intro g18 v18 w18 hr18 hb18 hg18 hg18'))
  have hg19 := heap_alloc_new w18 (.cells #[.slice (some ⟨g18, 0, none⟩) ([98] : List Int).length ([98] : List Int).length] 23)
  have hb19 := below_alloc (Below.refl w18.heap.size w18) (.cells #[.slice (some ⟨g18, 0, none⟩) ([98] : List Int).length ([98] : List Int).length] 23)
  generalize w18.alloc (.cells #[.slice (some ⟨g18, 0, none⟩) ([98] : List Int).length ([98] : List Int).length] 23) = w19 at *
  have f19 := Fr.of_below hb19 (fun _ => False)
  have hC19 : CC w19 (some ⟨w18.heap.size, 0, none⟩) [[98]] := CC.blk (Vals.cons (l := [98]) rfl (Nat.le_refl _) (by decide) (hr18.fr f19 (fun _ _ h => h)) (Vals.nil _)) (by decide) hg19
  have HC19 := Aside0.mk hC19
  have HF19 := Aside0.mk ((Fr.of_below hb18 (fun _ => False)).trans f19 (fun _ h => h.elim))
  clear hr18 hb18 hg19 hb19 f19 hC19
  have hv := verify_calls 3 ⟨#[98]⟩ As cs S (some ⟨w18.heap.size, 0, none⟩) 1 [[98]] w19 (H14.out.2.fr HF19.out (fun _ _ h => h)) (by rw [HS.out.2.1]; exact hcs) (by rw [HS.out.2.1]; omega) HS.out.2.2 HC19.out (by decide) (by decide)
  rw [HS.out.2.1, decide_eq_false (show ¬ S = sgA 3 ⟨#[98]⟩ [[98]] from fun h => sg_ne (HS.out.1.trans h)), Bool.and_false] at hv
  refine hv.mono ?_
  clear hv
  rintro e w21 ⟨rfl, hb21⟩
  have H21 := Aside0.mk ((H14.out.1.trans HF19.out (fun _ h => h.elim)).trans (Fr.of_below hb21 (fun _ => False)) (fun _ h => h.elim))
  clear HC19 HF19 H14 hb21
  go_wp2_with (fail)
  refine (key_Replica.calls 3 3 w21 (by rfl)).mono ?_
  rintro e w22 ⟨rfl, hd22⟩
  have H22 := Aside0.mk (H21.out.trans (Fr.of_below hd22.below (fun _ => False)) (fun _ h => h.elim))
  clear H21 hd22
  go_wp2_with (fail)
  refine (key_Client.calls 1 101 w22 (by first | decide | kernel_rfl | (unfold key_Client.f; simp; done) | (unfold key_Client.f; simp; decide))).mono ?_
  rintro e w23 ⟨rfl, hd23⟩
  have H23 := Aside0.mk (H22.out.trans (Fr.of_below hd23.below (fun _ => False)) (fun _ h => h.elim))
  clear H22 hd23
  go_wp2
  go_ret
  exact ⟨by first | rfl | simp, H23.out.below _ (Nat.le_refl _) (fun i h => h.elim)⟩
end Go.Proofs.Ytgnghgeljlaedaa.Sha
