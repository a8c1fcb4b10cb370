/-
  Keys in plain Lean: what the printed functions are.
-/
import Derived.Test.YtgnghgeljlaedaaKeyC
import Derived.Test.YtgnghgeljlaedaaKx1
import Derived.Test.YtgnghgeljlaedaaKx2
import Derived.Test.YtgnghgeljlaedaaKx3
import Derived.Test.YtgnghgeljlaedaaKx4
import Derived.Test.YtgnghgeljlaedaaKx5
import Derived.Test.YtgnghgeljlaedaaKx6
import Derived.Test.YtgnghgeljlaedaaKx9
set_option linter.unusedVariables false
set_option linter.unusedSimpArgs false
namespace Go.Proofs.Ytgnghgeljlaedaa.Pure
open Go.RowKit Go.Proofs.YtgnghgeljlaedaaW.PrintWords Go.Proofs.YtgnghgeljlaedaaW.PrintLast Go.Proofs.YtgnghgeljlaedaaW.PrintMore Go.Proofs.Ytgnghgeljlaedaa.Oct Go.Proofs.Ytgnghgeljlaedaa.Sha

theorem k_copy0 : ∀ (k : Nat) (a b : List (List Int)) (c d : Int), K.catenaryref01_Copy.l0 k a b c d = Q.catenaryref01_Copy.l0 k a b c d
  | 0, _, _, _, _ => rfl
  | k + 1, a, b, c, d => by
    simp only [K.catenaryref01_Copy.l0, Q.catenaryref01_Copy.l0, k_copy0 k]
    try rfl
theorem k_copy : @K.catenaryref01_Copy.f = @Q.catenaryref01_Copy.f := by
  funext k l
  exact k_copy0 _ _ _ _ _
theorem k_same : @K.catenaryref01_Same.f = @Q.catenaryref01_Same.f := rfl
theorem k_samelist0 : ∀ (k : Nat) (a b : List (List Int)) (c d : Int), K.catenaryref01_SameList.l0 k a b c d = Q.catenaryref01_SameList.l0 k a b c d
  | 0, _, _, _, _ => rfl
  | k + 1, a, b, c, d => by
    simp only [K.catenaryref01_SameList.l0, Q.catenaryref01_SameList.l0, k_samelist0 k]
    try rfl
theorem k_samelist : @K.catenaryref01_SameList.f = @Q.catenaryref01_SameList.f := by
  funext k l m
  unfold K.catenaryref01_SameList.f Q.catenaryref01_SameList.f
  rw [k_samelist0]
theorem k_right (k : Int) : K.key_right.f k = some (decide (0 ≤ k ∧ k ≤ 127)) := right_f k
theorem text_f (k : Int) (dom : ByteArray) (l : List (List Int)) (hs : szL l + dom.size ≤ 2097000) : K.key_Text.f k dom l = some (txtA k dom l) := by
  unfold K.key_Text.f
  rw [if_pos (decide_eq_true hs)]
theorem rtext_f (k : Int) (dom : ByteArray) (l : List (List Int)) (hs : szL l + dom.size ≤ 2097000) : K.catenaryref03_Text.f k dom l = some (txtA k dom l) := by
  unfold K.catenaryref03_Text.f
  rw [if_pos (decide_eq_true hs)]
theorem sum_f (b : List Int) (h : b.length ≤ 10485760) : K.sha_Sum.f b = some (sha b) := by
  unfold K.sha_Sum.f
  rw [if_pos (by omega)]
theorem rsum_f (b : List Int) (hb : Bys b) (h : b.length ≤ 10485760) : K.catenaryref02_Sum.f b = some (sha b) := by
  unfold K.catenaryref02_Sum.f
  rw [if_pos ⟨List.all_eq_true.2 (fun x hx => decide_eq_true (hb x hx)), by omega⟩]
theorem sign_f (k : Int) (dom : ByteArray) (l : List (List Int)) (hs : szL l + dom.size ≤ 2097000) : K.key_Sign.f k dom l = some (sgA k dom l) := by
  unfold K.key_Sign.f sgA
  rw [k_right]
  simp only [Option.bind_some]
  by_cases h : 0 ≤ k ∧ k ≤ 127
  · rw [decide_eq_true h, if_pos rfl, text_f k dom l hs]
    simp only [Option.bind_some]
    rw [sum_f _ (txtA_len k dom l hs), if_pos h]
    rfl
  · rw [decide_eq_false h, if_neg (by decide), if_neg h]
theorem txtA_bys (k : Int) (dom : ByteArray) (l : List (List Int)) (hb : ∀ x ∈ l, Bys x) : Bys (txtA k dom l) := by
  unfold txtA
  split
  · refine packA_bys fun x hx => ?_
    simp only [List.mem_cons] at hx
    rcases hx with rfl | rfl | rfl | hx
    · exact sgnB_bys
    · exact intA_bys k
    · exact strI_bys dom
    · exact hb x hx
  · exact Bys.nil
theorem txtA_pos (k : Int) (dom : ByteArray) (l : List (List Int)) (h : 0 ≤ k ∧ k ≤ 127) : 0 < (txtA k dom l).length := by
  rw [txtA, if_pos h, packA_cons, List.length_append]
  have := bytesA_pos sgnB
  omega
theorem rsign_f (k : Int) (dom : ByteArray) (l : List (List Int)) (hb : ∀ x ∈ l, Bys x) (hs : szL l + dom.size ≤ 2097000) : K.catenaryref03_Sign.f k dom l = some (sgA k dom l) := by
  unfold K.catenaryref03_Sign.f sgA
  rw [rtext_f k dom l hs]
  simp only [Option.bind_some]
  by_cases h : 0 ≤ k ∧ k ≤ 127
  · have := txtA_pos k dom l h
    rw [if_neg (by omega), if_pos h, rsum_f _ (txtA_bys k dom l hb) (txtA_len k dom l hs)]
    rfl
  · rw [if_neg h, txtA, if_neg h]
    rfl
theorem verify_f (k : Int) (s : List Int) (dom : ByteArray) (l : List (List Int)) (hsb : Bys s) (hs : szL l + dom.size ≤ 2097000) : K.key_Verify.f k s dom l = some (decide (0 ≤ k ∧ k ≤ 127) && decide (s = sgA k dom l)) := by
  unfold K.key_Verify.f
  rw [k_right]
  simp only [Option.bind_some]
  by_cases h : 0 ≤ k ∧ k ≤ 127
  · rw [decide_eq_true h, if_pos rfl, sign_f k dom l hs]
    simp only [Option.bind_some]
    unfold K.bytes_Equal.f
    rw [same_iff hsb (sgA_bys _ _ _)]
    rfl
  · rw [decide_eq_false h, if_neg (by decide)]
    rfl
theorem ksame_f {a b : List Int} (ha : Bys a) (hb : Bys b) : K.catenaryref01_Same.f a b = some (decide (a = b)) := same_f ha hb
theorem kself_f (a : List Int) : K.catenaryref01_Same.f a a = some true := same_self a
theorem rverify_f (k : Int) (s : List Int) (dom : ByteArray) (l : List (List Int)) (hsb : Bys s) (hb : ∀ x ∈ l, Bys x) (hs : szL l + dom.size ≤ 2097000) : K.catenaryref03_Verify.f k s dom l = some (decide (0 ≤ k ∧ k ≤ 127) && decide (s = sgA k dom l)) := by
  unfold K.catenaryref03_Verify.f
  by_cases h0 : 0 ≤ k
  · by_cases h1 : k ≤ 127
    · rw [if_pos h0, if_pos h1, rsign_f k dom l hb hs]
      simp only [Option.bind_some]
      rw [ksame_f hsb (sgA_bys _ _ _), decide_eq_true (show 0 ≤ k ∧ k ≤ 127 from ⟨h0, h1⟩)]
      rfl
    · rw [if_pos h0, if_neg h1, decide_eq_false (show ¬ (0 ≤ k ∧ k ≤ 127) by omega)]
      rfl
  · rw [if_neg h0, decide_eq_false (show ¬ (0 ≤ k ∧ k ≤ 127) by omega)]
    rfl
theorem digest_f (dom : ByteArray) (l : List (List Int)) (hs : szL l + dom.size ≤ 2097000) : K.key_Digest.f dom l = some (digA dom l) := by
  unfold K.key_Digest.f
  rw [if_pos (decide_eq_true hs)]
theorem rdigest_f (dom : ByteArray) (l : List (List Int)) (hb : ∀ x ∈ l, Bys x) (hs : szL l + dom.size ≤ 2097000) : K.catenaryref03_Digest.f dom l = some (digA dom l) := by
  unfold K.catenaryref03_Digest.f
  rw [if_pos ⟨decide_eq_true hs, List.all_eq_true.2 fun p hp => List.all_eq_true.2 fun x hx => decide_eq_true (hb p hp x hx)⟩]
theorem kcopy_f (ls : List (List Int)) (hs : szL ls ≤ 1048576) : ∀ k, ls.length + 1 ≤ k → K.catenaryref01_Copy.f k ls = some ls := by
  rw [k_copy]
  exact copy_f ls (fun x m => by have := szL_mem m; omega) (by have := szL_len ls; omega)
theorem ksamelist_f (a b : List (List Int)) (ha : ∀ x ∈ a, Bys x) (hb : ∀ x ∈ b, Bys x) (hs : szL a ≤ 1048576) : ∀ k, a.length + 1 ≤ k → K.catenaryref01_SameList.f k a b = some (decide (a = b)) := by
  rw [k_samelist]
  exact samelist_f a b ha hb (by have := szL_len a; omega)
end Go.Proofs.Ytgnghgeljlaedaa.Pure
