/- The law OctetInts: for every number, all bytes and every place the program's Int and GetInt answer as the document's, and the bytes stay. -/
import Derived.Test.YtgcajmkbdhjooaaQx2
import Derived.Test.YtgcajmkbdhjooaaOct2
namespace Go.Proofs.Ytgcajmkbdhjooaa.Pure
open Go.RowKit Go.Proofs.Ytgcajmkbdhjooaa.Q Go.Proofs.YtgcajmkbdhjooaaW.PrintWords Go.Proofs.YtgcajmkbdhjooaaW.PrintLast Go.Proofs.Ytgcajmkbdhjooaa.Oct

theorem OctetInts : catenarylaw01_OctetInts.Pure := by
  intro a0 l1 a2 _ _ hl hw _
  have hb := Bys.of_wf hw
  refine ⟨40, ?_⟩
  unfold catenarylaw01_OctetInts.f
  rw [alive_f 40 (by omega)]
  simp only [Option.bind_some]
  rw [if_pos trivial, if_pos (by simp only [List.length_nil]; omega)]
  simp only [List.nil_append]
  rw [int_f a0 40 (by omega), rintA_f a0 40 (by omega), get_f l1 a2 hb (by omega) 40 (by omega), rget_f l1 a2 hb (by omega) 40 (by omega)]
  simp only [Option.bind_some]
  rw [if_pos trivial, same_self, same_self]
  simp

end Go.Proofs.Ytgcajmkbdhjooaa.Pure
