/- Written by a program of this session out of the translation; Lean checks it. -/
import Derived.Test.YtgcajmkbdhjooaaQx0
import Derived.Test.YtgcajmkbdhjooaaQx1
import Derived.Test.YtgcajmkbdhjooaaQx2
import Derived.Test.YtgcajmkbdhjooaaQx3
import Derived.Test.YtgcajmkbdhjooaaQx4
import Derived.Test.YtgcajmkbdhjooaaQx5
import Derived.Test.YtgcajmkbdhjooaaQx6
import Derived.Test.YtgcajmkbdhjooaaQx7
namespace Go.Proofs.Ytgcajmkbdhjooaa.Q
open Go.RowKit Go.Proofs.YtgcajmkbdhjooaaW.PrintWords Go.Proofs.YtgcajmkbdhjooaaW.PrintLast Go.Proofs.YtgcajmkbdhjooaaW.PrintMore
attribute [local go_sem] max2_int min2_int max_two min_two max_three min_three max_four min_four   -- for this text's walks alone
set_option linter.unusedVariables false
set_option linter.unusedSimpArgs false

end Go.Proofs.Ytgcajmkbdhjooaa.Q
