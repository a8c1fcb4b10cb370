/- The law KeySigns, its plain part. -/
import Derived.Test.YtgnghgeljlaedaaKeyP
import Derived.Test.YtgnghgeljlaedaaKx3
set_option linter.unusedVariables false
set_option linter.unusedSimpArgs false
namespace Go.Proofs.Ytgnghgeljlaedaa.Pure
open Go.RowKit Go.Proofs.YtgnghgeljlaedaaW.PrintWords Go.Proofs.YtgnghgeljlaedaaW.PrintLast Go.Proofs.YtgnghgeljlaedaaW.PrintMore Go.Proofs.Ytgnghgeljlaedaa.Oct Go.Proofs.Ytgnghgeljlaedaa.Sha

theorem KeySigns (a0 : Int) (a1 : ByteArray) (l2 : List (List Int)) (_ : (Lit.int .i64 a0).wf = true) (hb : ∀ x ∈ l2, Bys x) (hs : a1.data.size + (l2.map fun x => x.length + 1).sum ≤ 1048576) : ∃ k, K.catenarylaw03_KeySigns.f k a0 a1 l2 = some true := by
  have hz : szL l2 + a1.size ≤ 1048576 := by unfold szL; show _ + a1.data.size ≤ _; omega
  have hl := szL_len l2
  obtain ⟨N, hN⟩ : ∃ N, N = 16777216 := ⟨_, rfl⟩
  refine ⟨N, ?_⟩
  unfold K.catenarylaw03_KeySigns.f K.catenarylaw03_keyAlive.f
  simp only [Option.bind_some]
  rw [if_pos trivial, kcopy_f l2 (by omega) N (by omega)]
  simp only [Option.bind_some]
  rw [sign_f a0 a1 l2 (by omega)]
  simp only [Option.bind_some]
  rw [text_f a0 a1 l2 (by omega)]
  simp only [Option.bind_some]
  rw [rsign_f a0 a1 l2 hb (by omega)]
  simp only [Option.bind_some]
  rw [kself_f]
  simp only [Option.bind_some]
  rw [if_pos trivial, rtext_f a0 a1 l2 (by omega)]
  simp only [Option.bind_some]
  rw [kself_f]
  simp only [Option.bind_some]
  rw [if_pos trivial, ksamelist_f l2 l2 hb hb (by omega) N (by omega)]
  simp
end Go.Proofs.Ytgnghgeljlaedaa.Pure
