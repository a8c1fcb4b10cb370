/- The law OctetNames: the chapter's examples hold, and the errors and the limit have their numbers. -/
import Derived.Test.YtgcajmkbdhjooaaQx1
import Derived.Test.YtgcajmkbdhjooaaOct2
namespace Go.Proofs.Ytgcajmkbdhjooaa.Pure
open Go.RowKit Go.Proofs.Ytgcajmkbdhjooaa.Q Go.Proofs.YtgcajmkbdhjooaaW.PrintWords Go.Proofs.YtgcajmkbdhjooaaW.PrintLast Go.Proofs.Ytgcajmkbdhjooaa.Oct

theorem OctetNames : catenarylaw01_OctetNames.Pure := by
  refine ⟨20, ?_⟩
  unfold catenarylaw01_OctetNames.f
  rw [alive_f 20 (by omega)]
  rfl

end Go.Proofs.Ytgcajmkbdhjooaa.Pure
