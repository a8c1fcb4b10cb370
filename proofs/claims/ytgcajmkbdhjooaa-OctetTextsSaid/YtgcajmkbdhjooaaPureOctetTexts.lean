/- The law OctetTexts, its plain part: Bytes and GetBytes answer as the document's. -/
import Derived.Test.YtgcajmkbdhjooaaOct3
set_option linter.unusedVariables false
set_option linter.unusedSimpArgs false
namespace Go.Proofs.Ytgcajmkbdhjooaa.Pure
open Go.RowKit Go.Proofs.Ytgcajmkbdhjooaa.Q Go.Proofs.YtgcajmkbdhjooaaW.PrintWords Go.Proofs.YtgcajmkbdhjooaaW.PrintLast Go.Proofs.Ytgcajmkbdhjooaa.Oct

theorem OctetTexts (l0 l1 : List Int) (a b : Int) (h0 : Bys l0) (h1 : Bys l1) (_ : (Lit.int .i64 a).wf = true) (_ : (Lit.int .i64 b).wf = true) (z0 : l0.length ≤ reachBytes) (z1 : l1.length ≤ reachBytes) :
    ∃ k, catenarylaw01_OctetTexts.f k l0 l1 a b = some true := by
  have r0 : l0.length ≤ 140737488351232 := z0
  have r1 : l1.length ≤ 140737488351232 := z1
  refine ⟨40, ?_⟩
  unfold catenarylaw01_OctetTexts.f
  rw [alive_f 40 (by omega)]
  simp only [Option.bind_some]
  rw [if_pos trivial, if_pos (by simp; omega)]
  simp only [List.nil_append]
  rw [bytes_f l0 r0 40 (by omega)]
  simp only [Option.bind_some]
  rw [if_pos (by simp; omega), gb_f l1 a b h1 r1 40 (by omega), rgb_f l1 a b h1 r1 40 (by omega), rbytes_f l0 r0 40 (by omega)]
  simp only [Option.bind_some]
  rw [same_self]
  simp only [Option.bind_some]
  rw [if_pos trivial, same_self]
  simp

end Go.Proofs.Ytgcajmkbdhjooaa.Pure
