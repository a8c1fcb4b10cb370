/- The law KeyDigests, its plain part. -/
import Derived.Test.YtgnghgeljlaedaaKeyP
import Derived.Test.YtgnghgeljlaedaaKx1
import Derived.Test.YtgnghgeljlaedaaKx9
set_option linter.unusedVariables false
set_option linter.unusedSimpArgs false
namespace Go.Proofs.Ytgnghgeljlaedaa.Pure
open Go.RowKit Go.Proofs.YtgnghgeljlaedaaW.PrintWords Go.Proofs.YtgnghgeljlaedaaW.PrintLast Go.Proofs.YtgnghgeljlaedaaW.PrintMore Go.Proofs.Ytgnghgeljlaedaa.Oct Go.Proofs.Ytgnghgeljlaedaa.Sha

theorem KeyDigests (a0 : ByteArray) (l1 : List (List Int)) (a2 : Int) (hb : ∀ x ∈ l1, Bys x) (hw : (Lit.int .i64 a2).wf = true) (hs : a0.data.size + (l1.map fun x => x.length + 1).sum ≤ 1048576) : ∃ k, K.catenarylaw03_KeyDigests.f k a0 l1 a2 = some true := by
  have hz : szL l1 + a0.size ≤ 1048576 := by unfold szL; show _ + a0.data.size ≤ _; omega
  have hl := szL_len l1
  obtain ⟨N, hN⟩ : ∃ N, N = 16777216 := ⟨_, rfl⟩
  refine ⟨N, ?_⟩
  unfold K.catenarylaw03_KeyDigests.f K.catenarylaw03_keyAlive.f
  simp only [Option.bind_some]
  rw [if_pos trivial, kcopy_f l1 (by omega) N (by omega)]
  simp only [Option.bind_some]
  rw [digest_f a0 l1 (by omega)]
  simp only [Option.bind_some]
  rw [rdigest_f a0 l1 hb (by omega)]
  simp only [Option.bind_some]
  rw [kself_f]
  simp only [Option.bind_some]
  rw [if_pos trivial]
  unfold K.key_Replica.f K.catenaryref03_Replica.f K.key_Client.f K.catenaryref03_Client.f
  by_cases h0 : a2 < 0
  · have e1 : ¬ 0 ≤ a2 := by omega
    have e2 : a2 < 1 := by omega
    have e3 : ¬ 1 ≤ a2 := by omega
    simp [h0, e1, e2, e3]
  · by_cases h15 : 15 < a2
    · by_cases h27 : 27 < a2
      · have e1 : 0 ≤ a2 := by omega
        have e2 : ¬ a2 < 1 := by omega
        have e3 : 1 ≤ a2 := by omega
        have e4 : ¬ a2 ≤ 15 := by omega
        have e5 : ¬ a2 ≤ 27 := by omega
        simp [h0, h15, h27, e1, e2, e3, e4, e5]
      · have e1 : 0 ≤ a2 := by omega
        have e2 : ¬ a2 < 1 := by omega
        have e3 : 1 ≤ a2 := by omega
        have e4 : ¬ a2 ≤ 15 := by omega
        have e5 : a2 ≤ 27 := by omega
        simp [h0, h15, h27, e1, e2, e3, e4, e5]
    · by_cases h1 : a2 < 1
      · have e1 : 0 ≤ a2 := by omega
        have e3 : ¬ 1 ≤ a2 := by omega
        have e4 : a2 ≤ 15 := by omega
        simp [h0, h15, h1, e1, e3, e4]
      · have e1 : 0 ≤ a2 := by omega
        have e3 : 1 ≤ a2 := by omega
        have e4 : a2 ≤ 15 := by omega
        have e5 : a2 ≤ 27 := by omega
        have e6 : ¬ 27 < a2 := by omega
        simp [h0, h15, h1, e1, e3, e4, e5, e6]
end Go.Proofs.Ytgnghgeljlaedaa.Pure
