/-
  key.Sign, key.Verify, key.Digest; the document's Text and Digest.
-/
import Derived.Test.YtgnghgeljlaedaaKey
import Derived.Test.YtgnghgeljlaedaaQx7
set_option linter.unusedVariables false
set_option linter.unusedSimpArgs false
namespace Go.Proofs.Ytgnghgeljlaedaa.Sha
open Go.RowKit Go.Proofs.YtgnghgeljlaedaaW.PrintWords Go.Proofs.YtgnghgeljlaedaaW.PrintLast Go.Proofs.YtgnghgeljlaedaaW.PrintMore Go.Proofs.Ytgnghgeljlaedaa.Q Go.Proofs.Ytgnghgeljlaedaa.Fr Go.Proofs.Ytgnghgeljlaedaa.Oct

theorem right_f (k : Int) : key_right.f k = some (decide (0 ≤ k ∧ k ≤ 127)) := by
  unfold key_right.f
  by_cases h0 : 0 ≤ k
  · rw [if_pos h0]
    congr 1
    simp [h0]
  · rw [if_neg h0]
    congr 1
    simp [h0]
theorem txtA_len (k : Int) (dom : ByteArray) (l : List (List Int)) (hs : szL l + dom.size ≤ 2097000) : (txtA k dom l).length ≤ 10485760 := by
  unfold txtA
  split
  · have h := packA_len (sgnB :: (intA k).1 :: strI dom :: l)
    have : sgnB.length = 4 := rfl
    have := intA_len k
    simp only [szL_cons, strI_len] at h
    omega
  · simp
theorem sha_len (b : List Int) : (sha b).length = 32 := by rw [sha, outB_len, run_len]; rfl
theorem sha_bys (b : List Int) : Bys (sha b) := Bys_out _
/-- A signature. -/
def sgA (k : Int) (dom : ByteArray) (l : List (List Int)) : List Int := if 0 ≤ k ∧ k ≤ 127 then sha (txtA k dom l) else []
theorem sgA_len (k : Int) (dom : ByteArray) (l : List (List Int)) : (sgA k dom l).length ≤ 32 := by
  unfold sgA
  split
  · rw [sha_len]; omega
  · simp
theorem sgA_bys (k : Int) (dom : ByteArray) (l : List (List Int)) : Bys (sgA k dom l) := by
  unfold sgA
  split
  · exact sha_bys _
  · exact Bys.nil
set_option maxHeartbeats 8000000 in
set_option maxRecDepth 100000 in
theorem sign_calls (k : Int) (dom : ByteArray) (A : Option Addr) (c : Nat) (l : List (List Int)) (w : World) (hC : CC w A l) (hc : l.length ≤ c) (hs : szL l + dom.size ≤ 2097000) :
    Calls Try.prog 23 #[.int .i64 k, .string dom, .slice A l.length c] w fun e w' => ∃ v : Value, e = .returned v ∧ OB w' w.heap.size v (sgA k dom l) ∧ Below w.heap.size w w' := by
  have HC := Aside0.mk (And.intro hC (And.intro hc hs))
  clear hC hc hs
  have hr := right_f k
  unfold sgA
  by_cases hk : 0 ≤ k ∧ k ≤ 127
  · rw [if_pos hk]
    rw [decide_eq_true hk] at hr
    have HK := Aside0.mk hr
    clear hr hk
    go_enter Try.func23, Try.ntmps23
    go_wp2_with (fail)
    refine (key_right.calls k true w HK.out).mono ?_
    rintro e w1 ⟨rfl, hd1⟩
    have H1 := Aside0.mk (Fr.of_below hd1.below (fun _ => False))
    clear hd1
    go_wp2_with (fail)
    refine (text_calls k dom A c l w1 (HC.out.1.fr H1.out) HC.out.2.1 HC.out.2.2).mono ?_
    rintro e w2 ⟨v2, rfl, hO2, hb2⟩
    obtain ⟨A2, c2, rfl, hc2⟩ := hO2.slice
    have H2 := Aside0.mk (And.intro (H1.out.trans (Fr.of_below hb2 (fun _ => False)) (fun _ h => h.elim)) (QB.rd (q_of_own hO2)))
    clear H1 hO2 hb2
    have hl := txtA_len k dom l HC.out.2.2
    have HL := Aside0.mk hl
    clear hl
    go_wp2_with (fail)
    refine (ssum_calls A2 c2 (txtA k dom l) w2 H2.out.2 hc2 (by have := HL.out; omega)).mono ?_
    rintro e w3 ⟨v3, rfl, hO3, hb3⟩
    have H3 := Aside0.mk (And.intro (hO3.lower H2.out.1.size) (H2.out.1.trans (Fr.of_below hb3 (fun _ => False)) (fun _ h => h.elim)))
    clear H2 hO3 hb3
    go_wp2
    go_ret
    exact ⟨_, rfl, H3.out.1, H3.out.2.below _ (Nat.le_refl _) (fun i h => h.elim)⟩
  · rw [if_neg hk]
    rw [decide_eq_false hk] at hr
    have HK := Aside0.mk hr
    clear hr hk
    go_enter Try.func23, Try.ntmps23
    go_wp2_with (fail)
    refine (key_right.calls k false w HK.out).mono ?_
    rintro e w1 ⟨rfl, hd1⟩
    have H1 := Aside0.mk hd1.below
    clear hd1
    go_wp2
    go_ret
    exact ⟨_, rfl, OB.nil _ _, H1.out⟩
set_option maxHeartbeats 8000000 in
set_option maxRecDepth 100000 in
theorem verify_calls (k : Int) (dom : ByteArray) (As : Option Addr) (cs : Nat) (s : List Int) (A : Option Addr) (c : Nat) (l : List (List Int)) (w : World) (hS : Rd w As s) (hcs : s.length ≤ cs) (hsl : s.length ≤ 9223372036854775807) (hsb : Bys s) (hC : CC w A l) (hc : l.length ≤ c) (hs : szL l + dom.size ≤ 2097000) :
    Calls Try.prog 28 #[.int .i64 k, .slice As s.length cs, .string dom, .slice A l.length c] w fun e w' => e = .returned (.bool (decide (0 ≤ k ∧ k ≤ 127) && decide (s = sgA k dom l))) ∧ Below w.heap.size w w' := by
  have HC := Aside0.mk (And.intro hC (And.intro hc (And.intro hs (And.intro hS (And.intro hsl hsb)))))
  clear hC hc hs hS hsl hsb
  have hr := right_f k
  by_cases hk : 0 ≤ k ∧ k ≤ 127
  · rw [decide_eq_true hk] at hr ⊢
    rw [Bool.true_and]
    have HK := Aside0.mk hr
    clear hr hk
    obtain ⟨b, hb⟩ : ∃ b, decide (s = sgA k dom l) = b := ⟨_, rfl⟩
    have HB := Aside0.mk hb
    rw [hb]
    clear hb
    go_enter Try.func28, Try.ntmps28
    go_wp2_with (fail)
    refine (key_right.calls k true w HK.out).mono ?_
    rintro e w1 ⟨rfl, hd1⟩
    have H1 := Aside0.mk (Fr.of_below hd1.below (fun _ => False))
    clear hd1
    go_wp2_with (fail)
    refine (sign_calls k dom A c l w1 (HC.out.1.fr H1.out) HC.out.2.1 HC.out.2.2.1).mono ?_
    rintro e w2 ⟨v2, rfl, hO2, hb2⟩
    obtain ⟨A2, c2, rfl, hc2⟩ := hO2.slice
    have H2 := Aside0.mk (And.intro (H1.out.trans (Fr.of_below hb2 (fun _ => False)) (fun _ h => h.elim)) (QB.rd (q_of_own hO2)))
    clear H1 hO2 hb2
    have hl := sgA_len k dom l
    have HL := Aside0.mk hl
    clear hl
    go_wp2_with (fail)
    refine (bytes_Equal.calls As cs s A2 c2 (sgA k dom l) b w2 ((HC.out.2.2.2.1.fr H2.out.1 (fun _ _ h => h)).C HC.out.2.2.2.2.1) hcs (H2.out.2.C (by have := HL.out; omega)) hc2 (by unfold bytes_Equal.f; rw [same_iff HC.out.2.2.2.2.2 (sgA_bys _ _ _), HB.out])).mono ?_
    rintro e w3 ⟨rfl, hd3⟩
    have H3 := Aside0.mk (H2.out.1.trans (Fr.of_below hd3.below (fun _ => False)) (fun _ h => h.elim))
    clear H2 hd3
    go_wp2
    go_ret
    exact ⟨by first | rfl | simp, H3.out.below _ (Nat.le_refl _) (fun i h => h.elim)⟩
  · rw [decide_eq_false hk] at hr ⊢
    rw [Bool.false_and]
    have HK := Aside0.mk hr
    clear hr hk
    go_enter Try.func28, Try.ntmps28
    go_wp2_with (fail)
    refine (key_right.calls k false w HK.out).mono ?_
    rintro e w1 ⟨rfl, hd1⟩
    have H1 := Aside0.mk hd1.below
    clear hd1
    go_wp2
    go_ret
    exact ⟨rfl, H1.out⟩
theorem Parts.blk {w : World} {g : Nat} {us : List Value} {PS : List (List Int)} {t : TypeId} {fr : Nat × Nat} {S : Nat → Prop} (h : Vals w us PS) (hg : w.heap[g]? = some (.cells us.toArray t fr)) (hgS : ¬ S g) (hA : ∀ (A : Option Addr) (n c : Nat), Value.slice A n c ∈ us → ∀ ad, A = some ad → ¬ S ad.block) : Parts w (some ⟨g, 0, none⟩) PS S := fun i p hp => by
  obtain ⟨A0, c0, e, hc, hr, _⟩ := h.2 i p hp
  refine ⟨_, A0, c0, rfl, ?_, hc, hgS, fun j u hu => ?_⟩
  · rw [add_at, Nat.zero_add]
    simp [World.cell?, hg, e]
  · obtain ⟨ad0, e0, h0⟩ := hr j u hu
    exact ⟨ad0, e0, hA _ _ _ (List.mem_of_getElem? e) ad0 e0, h0⟩
set_option maxHeartbeats 8000000 in
set_option maxRecDepth 100000 in
theorem digest_calls (dom : ByteArray) (A : Option Addr) (c : Nat) (l : List (List Int)) (w : World) (hC : CC w A l) (hc : l.length ≤ c) (hs : szL l + dom.size ≤ 2097000) :
    Calls Try.prog 30 #[.string dom, .slice A l.length c] w fun e w' => ∃ v : Value, e = .returned v ∧ OB w' w.heap.size v (digA dom l) ∧ Below w.heap.size w w' := by
  have HC := Aside0.mk (And.intro hC (And.intro hc hs))
  clear hC hc hs
  go_enter Try.func30, Try.ntmps30
  go_wp2_with (fail)
  refine (new_holds w).mono ?_
  rintro e w1 ⟨g, rfl, hH1, hb1⟩
  have H1 := Aside0.mk (And.intro hH1 (Fr.of_below hb1 (fun _ => False)))
  clear hH1 hb1
  go_wp2_with (first | ((with_reducible refine gate_dst (N := 8) rfl ?_); refine wpList_constb rfl digB (by rfl) (fun _ => by rfl) (by first | (go_simp; done) | (go_simp; rfl) | (go_simp; exact ⟨rfl, rfl⟩)) _ (by rfl) (fun _ => rfl) ?_; intro g3 v3 w3 hr3 hb3 hg3 hg3') | ((with_reducible refine gate_dst (N := 11) rfl ?_); refine wpList_strb rfl (by rfl) dom _ (by rfl) (by rfl) ?_; intro g4 c4 w4 hr4 hc4 hb4 hg4 hg4'))
  have f3 := Fr.of_below hb3 (fun _ => False)
  have f4 := Fr.of_below hb4 (fun _ => False)
  have hg5 := heap_alloc_new w4 (.cells #[.slice (some ⟨g3, 0, none⟩) digB.length digB.length, .slice (some ⟨g4, 0, none⟩) dom.size c4] 23)
  have hb5 := below_alloc (Below.refl w4.heap.size w4) (.cells #[.slice (some ⟨g3, 0, none⟩) digB.length digB.length, .slice (some ⟨g4, 0, none⟩) dom.size c4] 23)
  generalize w4.alloc (.cells #[.slice (some ⟨g3, 0, none⟩) digB.length digB.length, .slice (some ⟨g4, 0, none⟩) dom.size c4] 23) = w5 at *
  have f5 := Fr.of_below hb5 (fun _ => False)
  have f25 := ((f3.trans f4 (fun _ h => h.elim)).trans f5 (fun _ h => h.elim))
  have hV : Vals w5 [.slice (some ⟨g3, 0, none⟩) digB.length digB.length, .slice (some ⟨g4, 0, none⟩) dom.size c4] [digB, strI dom] :=
    Vals.cons rfl (Nat.le_refl _) (by decide) (hr3.fr (f4.trans f5 (fun _ h => h.elim)) (fun _ _ h => h)) (Vals.cons (strI_len dom).symm hc4 (by have := HC.out; omega) (hr4.fr f5 (fun _ _ h => h)) (Vals.nil _))
  have hC5 := CC.blk hV (by simp) hg5
  have z2 : szL [digB, strI dom] ≤ 8 + dom.size := by simp only [szL, List.map_cons, List.map_nil, List.sum_cons, List.sum_nil, strI_len]; have : digB.length = 6 := rfl; omega
  have hH5 := H1.out.1.fr f25 (fun _ _ h => h)
  have H5 := Aside0.mk (And.intro (H1.out.2.trans f25 (fun _ h => h.elim)) (And.intro hC5 (And.intro z2 hH5)))
  clear H1 hr3 hb3 hr4 hb4 f3 f4 f5 f25 hg5 hb5 hV hC5 z2 hc4 hH5
  refine (octet_Pack.calls 20 (some ⟨w4.heap.size, 0, none⟩) 2 [digB, strI dom] (packA [digB, strI dom]) w5 H5.out.2.1 (by simp) (pack_f _ (by have := H5.out; have := HC.out; omega) 20 (by simp))).mono ?_
  rintro e w6 ⟨v6, rfl, hR6, hb6⟩
  have hO6 : OB w6 w5.heap.size v6 (packA [digB, strI dom]) := Kd.own_of_R hR6
  have hp6 := packA_len [digB, strI dom]
  have f6 := Fr.of_below hb6 (fun _ => False)
  have H6 := Aside0.mk (And.intro (H5.out.1.trans f6 (fun _ h => h.elim)) (And.intro hO6 (And.intro H5.out.2.2.2.lt (And.intro (Nat.le_trans hp6 (Nat.mul_le_mul_left 5 H5.out.2.2.1)) (H5.out.2.2.2.fr f6 (fun _ _ h => h))))))
  clear H5 hR6 hb6 hO6 hp6 f6
  go_wp2_with (fail)
  refine (octet_Pack.calls (l.length + 9) A c l (packA l) w6 (HC.out.1.fr H6.out.1) HC.out.2.1 (pack_f _ (by have := HC.out; omega) _ (Nat.le_refl _))).mono ?_
  rintro e w7 ⟨v7, rfl, hR7, hb7⟩
  have hO7 : OB w7 w6.heap.size v7 (packA l) := Kd.own_of_R hR7
  have f7 := Fr.of_below hb7 (fun _ => False)
  have hO67 := H6.out.2.1.fr f7 (fun _ _ h => h)
  obtain ⟨A6, c6, rfl, hc6⟩ := H6.out.2.1.slice
  obtain ⟨A7, c7, rfl, hc7⟩ := hO7.slice
  have hp7 := packA_len l
  have H7 := Aside0.mk (And.intro (H6.out.1.trans f7 (fun _ h => h.elim)) (And.intro hO67 (And.intro hO7 (And.intro H6.out.2.2 (And.intro (H6.out.2.2.2.2.fr f7 (fun _ _ h => h)) (And.intro hp7 (q_lt (q_of_own H6.out.2.1))))))))
  clear H6 hR7 hb7 hO7 hO67 hp7 f7
  go_wp2_with (fail)
  have hg8 := heap_alloc_new w7 (.cells #[.slice A6 (packA [digB, strI dom]).length c6, .slice A7 (packA l).length c7] 23)
  have hb8 := below_alloc (Below.refl w7.heap.size w7) (.cells #[.slice A6 (packA [digB, strI dom]).length c6, .slice A7 (packA l).length c7] 23)
  have z8 : (w7.alloc (.cells #[.slice A6 (packA [digB, strI dom]).length c6, .slice A7 (packA l).length c7] 23)).heap.size = w7.heap.size + 1 := by rw [World.size_alloc]
  generalize w7.alloc (.cells #[.slice A6 (packA [digB, strI dom]).length c6, .slice A7 (packA l).length c7] 23) = w8 at *
  have f8 := Fr.of_below hb8 (fun _ => False)
  have hl6 : (packA [digB, strI dom]).length ≤ 10485760 := by have := H7.out.2.2.2.1.2.1; have := HC.out; omega
  have hl7 : (packA l).length ≤ 10485760 := by have := H7.out.2.2.2.2.2.1; have := HC.out; omega
  have hV : Vals w8 [.slice A6 (packA [digB, strI dom]).length c6, .slice A7 (packA l).length c7] [packA [digB, strI dom], packA l] :=
    Vals.cons rfl hc6 (by omega) ((QB.rd (q_of_own H7.out.2.1)).fr f8 (fun _ _ h => h)) (Vals.cons rfl hc7 (by omega) ((QB.rd (q_of_own H7.out.2.2.1)).fr f8 (fun _ _ h => h)) (Vals.nil _))
  have hF8 := H7.out.1.trans f8 (fun _ h => h.elim)
  have hH8 := H7.out.2.2.2.2.1.fr f8 (fun _ _ h => h)
  have hP : Parts w8 (some ⟨w7.heap.size, 0, none⟩) [packA [digB, strI dom], packA l] (Fp g (.slice none 0 0)) := Parts.blk hV hg8 (fun h => by have := H7.out.2.2.2.2.1.lt _ h; omega) (fun A n c hm ad e h => by
    subst e
    simp only [List.mem_cons, List.not_mem_nil, or_false] at hm
    rcases hm with hm | hm
    · injection hm with hm1 hm2 hm3
      have h1 := H7.out.2.2.2.1.1 _ h
      have h2 := H7.out.2.1.base ad.block (by rw [← hm1]; rfl)
      omega
    · injection hm with hm1 hm2 hm3
      have h1 := H7.out.2.2.2.1.2.2.lt _ h
      have h2 := H7.out.2.2.1.base ad.block (by rw [← hm1]; rfl)
      omega)
  have eP : [packA [digB, strI dom], packA l].flatten = packA (digB :: strI dom :: l) := by
    simp only [List.flatten_cons, List.flatten_nil, List.append_nil]
    rw [← packA_append]
    rfl
  have hlt : ([] ++ [packA [digB, strI dom], packA l].flatten : List Int).length < 140737488355328 := by
    simp only [List.flatten_cons, List.flatten_nil, List.append_nil, List.nil_append, List.length_append]
    omega
  have H8 := Aside0.mk (And.intro hF8 (And.intro hH8 (And.intro hP (And.intro hlt (And.intro eP (And.intro hl6 hl7))))))
  clear H7 hg8 hb8 f8 hV hF8 hH8 hP hc6 hc7 eP hlt hl6 hl7
  refine (write_holds g w.heap.size (.slice none 0 0) [] (some ⟨w7.heap.size, 0, none⟩) 2 [packA [digB, strI dom], packA l] (by simp) (fun p hp => ?_) w8 H8.out.2.1 H8.out.1.size H8.out.2.2.1 H8.out.2.2.2.1).mono ?_
  · simp only [List.mem_cons, List.not_mem_nil, or_false] at hp
    rcases hp with rfl | rfl
    · have := H8.out.2.2.2.2.2.1; omega
    · have := H8.out.2.2.2.2.2.2; omega
  rintro e w9 ⟨rfl, hf9, rv, hH9, hn9⟩
  rw [H8.out.2.2.2.2.1, List.nil_append] at hH9
  have H9 := Aside0.mk (And.intro (H8.out.1.trans hf9 (fun k hk => .inr (H8.out.2.1.base k hk))) hH9)
  clear H8 hf9 hH9 hn9
  go_wp2_with (fail)
  refine (sum_holds g w.heap.size rv (packA (digB :: strI dom :: l)) w9 H9.out.2).mono ?_
  rintro e w10 ⟨v10, rfl, hO10, hb10⟩
  have H10 := Aside0.mk (And.intro (hO10.lower H9.out.1.size) (H9.out.1.trans (Fr.of_below hb10 (fun _ => False)) (fun _ h => h.elim)))
  clear H9 hO10 hb10
  go_wp2
  go_ret
  exact ⟨_, rfl, H10.out.1, H10.out.2.below _ (Nat.le_refl _) (fun i h => h.elim)⟩
theorem digB_bys : Bys digB := by unfold Bys digB; decide
theorem sgnB_bys : Bys sgnB := by unfold Bys sgnB; decide
theorem own_CC {w : World} {base : Nat} {v : Value} {us : List Value} {L : List (List Int)} (hV : Vals w us L) (h : w.ownsRow base 23 1 v us.length us) (hl : L.length ≤ 9223372036854775807) : ∃ A c, v = .slice A L.length c ∧ L.length ≤ c ∧ CC w A L := by
  have hq := q_of_own h
  obtain ⟨A, c, rfl, hc⟩ := q_slice hq
  rw [hV.1] at hc
  refine ⟨A, c, by rw [hV.1], hc, ?_⟩
  by_cases h0 : L = []
  · subst h0
    exact ⟨rfl, by simp, fun h => by simp at h⟩
  · obtain ⟨ad, rfl, hcell⟩ := q_cells hq (by rw [hV.1]; exact List.length_pos_iff.2 h0)
    exact hV.CC hl hcell
set_option maxHeartbeats 8000000 in
set_option maxRecDepth 100000 in
theorem rdigest_calls (dom : ByteArray) (A : Option Addr) (c : Nat) (l : List (List Int)) (w : World) (hB : ∀ x ∈ l, Bys x) (hC : CC w A l) (hc : l.length ≤ c) (hs : szL l + dom.size ≤ 2097000) :
    Calls Try.prog 31 #[.string dom, .slice A l.length c] w fun e w' => ∃ v : Value, e = .returned v ∧ OB w' w.heap.size v (digA dom l) ∧ Below w.heap.size w w' := by
  have HC := Aside0.mk (And.intro hC (And.intro hc hs))
  clear hC hc hs
  go_enter Try.func31, Try.ntmps31
  go_wp2_with (first | ((with_reducible refine gate_dst (N := 6) rfl ?_); refine wpList_constb rfl digB (by rfl) (fun _ => by rfl) (by first | (go_simp; done) | (go_simp; rfl) | (go_simp; exact ⟨rfl, rfl⟩)) _ (by rfl) (fun _ => rfl) ?_; intro g3 v3 w3 hr3 hb3 hg3 hg3') | ((with_reducible refine gate_dst (N := 9) rfl ?_); refine wpList_strb rfl (by rfl) dom _ (by rfl) (by rfl) ?_; intro g4 c4 w4 hr4 hc4 hb4 hg4 hg4') | ((with_reducible refine gate_builtin (b := .append) (xs := #[.tmp 11, .tmp 12]) rfl ?_); at_builtin; refine Aside0.out ?_))
  refine ⟨?_⟩
  have f3 := Fr.of_below hb3 (fun _ => False)
  have f4 := Fr.of_below hb4 (fun _ => False)
  have hq5 := World.ownsRow_lit (base := w4.heap.size) (e := 23) (size := 1) w4 #[.slice (some ⟨g3, 0, none⟩) digB.length digB.length, .slice (some ⟨g4, 0, none⟩) dom.size c4] 2 (Nat.le_refl _) (by decide) (by simp)
  have hb5 := below_alloc (Below.refl w4.heap.size w4) (.cells #[.slice (some ⟨g3, 0, none⟩) digB.length digB.length, .slice (some ⟨g4, 0, none⟩) dom.size c4] 23)
  generalize w4.alloc (.cells #[.slice (some ⟨g3, 0, none⟩) digB.length digB.length, .slice (some ⟨g4, 0, none⟩) dom.size c4] 23) = w5 at *
  have f5 := Fr.of_below hb5 (fun _ => False)
  have F4 := f3.trans f4 (fun _ h => h.elim)
  have F5 := F4.trans f5 (fun _ h => h.elim)
  obtain ⟨vs, hvs, hread⟩ := (HC.out.1.fr F4).vals
  have hV : Vals w4 ([.slice (some ⟨g3, 0, none⟩) digB.length digB.length, .slice (some ⟨g4, 0, none⟩) dom.size c4] ++ vs) ([digB, strI dom] ++ l) :=
    (Vals.cons rfl (Nat.le_refl _) (by decide) (hr3.fr f4 (fun _ _ h => h)) (Vals.cons (strI_len dom).symm hc4 (by have := HC.out; omega) hr4 (Vals.nil _))).append hvs
  have hll : l.length ≤ 2097000 := by have := szL_len l; have := HC.out; omega
  refine wpList_apps rfl (by rfl) w4.heap.size _ _ (by rfl) _ [.slice (some ⟨g3, 0, none⟩) digB.length digB.length, .slice (some ⟨g4, 0, none⟩) dom.size c4] (by rfl) hq5 A l.length c vs (by rfl) hvs.1.symm (fun j u hu => by
    obtain ⟨ad, e, h⟩ := hread j u hu
    exact ⟨ad, e, f5.cell h (fun h => h)⟩) hvs.one (by rw [hvs.1]; simp only [List.length_cons, List.length_nil]; omega) f5.size ?_
  intro v6 w6 hq6 hf6
  have F46 : Fr (fun _ => False) w4 w6 := f5.trans hf6 (fun k hk => .inr (by
    have : k = w4.heap.size := by simpa [Value.ownBlock] using hk
    omega))
  obtain ⟨A6, c6, e6, hc6, hC6⟩ := own_CC (hV.fr F46) hq6 (by simp only [List.length_append, List.length_cons, List.length_nil]; omega)
  obtain ⟨L, hL⟩ : ∃ L, [digB, strI dom] ++ l = L := ⟨_, rfl⟩
  have hsz : szL L ≤ 2097152 := by
    rw [← hL]
    have : digB.length = 6 := rfl
    have := HC.out
    simp only [List.cons_append, List.nil_append, szL_cons, strI_len]
    omega
  rw [hL] at e6 hc6 hC6
  subst e6
  have H6 := Aside0.mk (And.intro (F4.trans F46 (fun _ h => h.elim)) (And.intro hC6 (And.intro hsz hL)))
  clear hr3 hb3 hr4 hb4 f3 f4 f5 F4 F5 hq5 hb5 hV hvs hread hll hq6 hf6 F46 hC6 hsz hL hc4
  go_wp2_with (fail)
  refine (catenaryref01_Pack.calls (L.length + 15) A6 c6 L (packA L) w6 H6.out.2.1 hc6 (rpack_f _ H6.out.2.2.1 _ (Nat.le_refl _))).mono ?_
  rintro e w7 ⟨v7, rfl, hR7, hb7⟩
  have hO7 : OB w7 w6.heap.size v7 (packA L) := Kd.own_of_R hR7
  obtain ⟨A7, c7, rfl, hc7⟩ := hO7.slice
  have hp7 := packA_len L
  have H7 := Aside0.mk (And.intro (H6.out.1.trans (Fr.of_below hb7 (fun _ => False)) (fun _ h => h.elim)) (And.intro (QB.rd (q_of_own hO7)) (And.intro (packA_bys (ls := L) (fun x hx => by
    rw [← H6.out.2.2.2] at hx
    simp only [List.cons_append, List.nil_append, List.mem_cons] at hx
    rcases hx with rfl | rfl | hx
    · exact digB_bys
    · exact strI_bys dom
    · exact hB x hx)) (And.intro (Nat.le_trans hp7 (Nat.mul_le_mul_left 5 H6.out.2.2.1)) H6.out.2.2.2))))
  clear H6 hR7 hb7 hO7 hp7 hc6
  go_wp2_with (fail)
  refine (rsum_calls A7 c7 (packA L) w7 (H7.out.2.1.C (by have := H7.out.2.2.2.1; omega)) hc7 H7.out.2.2.1 (by have := H7.out.2.2.2.1; omega)).mono ?_
  rintro e w8 ⟨v8, rfl, hO8, hb8⟩
  rw [← H7.out.2.2.2.2] at hO8
  have H8 := Aside0.mk (And.intro (OB.lower hO8 H7.out.1.size) (H7.out.1.trans (Fr.of_below hb8 (fun _ => False)) (fun _ h => h.elim)))
  clear H7 hO8 hb8
  go_wp2
  go_ret
  exact ⟨_, rfl, H8.out.1, H8.out.2.below _ (Nat.le_refl _) (fun i h => h.elim)⟩
end Go.Proofs.Ytgnghgeljlaedaa.Sha
