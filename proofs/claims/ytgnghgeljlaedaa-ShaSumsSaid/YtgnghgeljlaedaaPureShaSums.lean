/- The law ShaSums, its plain part: both hashes are the same plain function. -/
import Derived.Test.YtgnghgeljlaedaaShaZ
import Derived.Test.YtgnghgeljlaedaaRx3
set_option linter.unusedVariables false
set_option linter.unusedSimpArgs false
namespace Go.Proofs.Ytgnghgeljlaedaa.Pure
open Go.RowKit Go.Proofs.Ytgnghgeljlaedaa.R Go.Proofs.YtgnghgeljlaedaaW.PrintWords Go.Proofs.YtgnghgeljlaedaaW.PrintLast Go.Proofs.Ytgnghgeljlaedaa.Oct

theorem shaSame (l : List Int) : catenaryref01_Same.f l l = some true := by simp [catenaryref01_Same.f]
theorem ShaSums : catenarylaw02_ShaSums.Pure := by
  intro l0 _ hl hw
  have hB : Bys l0 := Bys.of_wf hw
  have hl2 : l0.length < 140737488355000 := by omega
  have h1 : sha_Sum.f l0 = some (Sha.sha l0) := by unfold sha_Sum.f; rw [if_pos hl2]
  have h2 : catenaryref02_Sum.f l0 = some (Sha.sha l0) := by
    unfold catenaryref02_Sum.f
    rw [if_pos ⟨List.all_eq_true.2 (fun x hx => decide_eq_true (hB x hx)), hl2⟩]
  unfold catenarylaw02_ShaSums.f catenarylaw02_shaAlive.f
  simp only [Option.bind_some, List.length_nil, List.nil_append, Nat.zero_add]
  rw [if_pos trivial, if_pos (by omega), h1]
  simp only [Option.bind_some]
  rw [h2]
  simp only [Option.bind_some]
  rw [shaSame]
  simp only [Option.bind_some]
  rw [if_pos trivial, shaSame]
  rfl
end Go.Proofs.Ytgnghgeljlaedaa.Pure
