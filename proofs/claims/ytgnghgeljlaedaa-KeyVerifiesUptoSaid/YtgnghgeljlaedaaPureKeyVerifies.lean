/- The law KeyVerifies, its plain part. -/
import Derived.Test.YtgnghgeljlaedaaKeyP
import Derived.Test.YtgnghgeljlaedaaKx3
set_option linter.unusedVariables false
set_option linter.unusedSimpArgs false
namespace Go.Proofs.Ytgnghgeljlaedaa.Pure
open Go.RowKit Go.Proofs.YtgnghgeljlaedaaW.PrintWords Go.Proofs.YtgnghgeljlaedaaW.PrintLast Go.Proofs.YtgnghgeljlaedaaW.PrintMore Go.Proofs.Ytgnghgeljlaedaa.Oct Go.Proofs.Ytgnghgeljlaedaa.Sha

theorem KeyVerifies (a0 : Int) (l1 : List Int) (l2 : List (List Int)) (_ : (Lit.int .i64 a0).wf = true) (h1 : Bys l1) (hb : ∀ x ∈ l2, Bys x) (hs : l1.length + (l2.map fun x => x.length + 1).sum ≤ 1048576) : ∃ k, K.catenarylaw03_KeyVerifies.f k a0 l1 l2 = some true := by
  have hz : szL l2 + l1.length ≤ 1048576 := by unfold szL; omega
  have hl := szL_len l2
  have hx : (⟨#[120]⟩ : ByteArray).size = 1 := rfl
  obtain ⟨N, hN⟩ : ∃ N, N = 16777216 := ⟨_, rfl⟩
  refine ⟨N, ?_⟩
  unfold K.catenarylaw03_KeyVerifies.f K.catenarylaw03_keyAlive.f
  simp only [Option.bind_some]
  rw [if_pos trivial, kcopy_f l2 (by omega) N (by omega)]
  simp only [Option.bind_some]
  rw [sign_f a0 _ l2 (by omega)]
  simp only [Option.bind_some, List.nil_append, List.length_nil]
  have e1 := verify_f a0 l1 ⟨#[120]⟩ l2 h1 (by omega)
  have e2 := rverify_f a0 l1 ⟨#[120]⟩ l2 h1 hb (by omega)
  have e3 := verify_f a0 (sgA a0 ⟨#[120]⟩ l2) ⟨#[120]⟩ l2 (sgA_bys _ _ _) (by omega)
  rw [decide_eq_true (rfl : sgA a0 ⟨#[120]⟩ l2 = sgA a0 ⟨#[120]⟩ l2), Bool.and_true] at e3
  have e4 : ((sgA a0 ⟨#[120]⟩ l2).length : Int) = if 0 ≤ a0 ∧ a0 ≤ 127 then 32 else 0 := by
    unfold sgA
    split
    · rw [sha_len]; rfl
    · rfl
  rw [e1, e2, e3]
  simp only [Option.bind_some]
  rw [e4]
  by_cases h0 : 0 ≤ a0
  · by_cases h7 : a0 ≤ 127
    · simp [h0, h7]; omega
    · simp [h0, h7]; omega
  · simp [h0]; omega
end Go.Proofs.Ytgnghgeljlaedaa.Pure
