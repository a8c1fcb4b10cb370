/- The law KeyNames, its plain part. -/
import Derived.Test.YtgnghgeljlaedaaKeyP
import Derived.Test.YtgnghgeljlaedaaKx2
set_option linter.unusedVariables false
set_option linter.unusedSimpArgs false
namespace Go.Proofs.Ytgnghgeljlaedaa.Pure
open Go.RowKit Go.Proofs.YtgnghgeljlaedaaW.PrintWords Go.Proofs.YtgnghgeljlaedaaW.PrintLast Go.Proofs.YtgnghgeljlaedaaW.PrintMore Go.Proofs.Ytgnghgeljlaedaa.Oct Go.Proofs.Ytgnghgeljlaedaa.Sha

theorem KeyNames : K.catenarylaw03_KeyNames.Pure := ⟨700, by kernel_rfl⟩
end Go.Proofs.Ytgnghgeljlaedaa.Pure
