/- The law OctetUnpacks, its plain part: any bytes are the document's texts, or refused, and those texts packed are just these bytes. -/
import Derived.Test.YtgcajmkbdhjooaaOct4
import Derived.Test.YtgcajmkbdhjooaaQx21
set_option linter.unusedVariables false
set_option linter.unusedSimpArgs false
namespace Go.Proofs.Ytgcajmkbdhjooaa.Pure
open Go.RowKit Go.Proofs.Ytgcajmkbdhjooaa.Q Go.Proofs.YtgcajmkbdhjooaaW.PrintWords Go.Proofs.YtgcajmkbdhjooaaW.PrintLast Go.Proofs.Ytgcajmkbdhjooaa.Oct

theorem OctetUnpacks (l : List Int) (h : Bys l) (hs : l.length + 1 ≤ 1048576) : ∃ k, catenarylaw01_OctetUnpacks.f k l = some true := by
  have hK : ∃ K, K = 16777216 := ⟨_, rfl⟩
  obtain ⟨K, hK⟩ := hK
  refine ⟨K, ?_⟩
  unfold catenarylaw01_OctetUnpacks.f
  rw [alive_f K (by omega)]
  simp only [Option.bind_some]
  rw [if_pos trivial]
  simp only [List.nil_append]
  rw [if_pos (by simp; omega), unp_f l h (by omega) K (by omega), runp_f l h (by omega) K (by omega)]
  simp only [Option.bind_some]
  rw [if_pos trivial]
  rcases unpA_sound l h (by omega) with e | ⟨ls, e, hl, hb, hz⟩
  · rw [e]
    simp only []
    rw [samelist_f [] [] (by simp) (by simp) (by simp) K (by simp; omega)]
    simp only [Option.bind_some]
    rw [if_pos (by simp), if_neg (by decide)]
  · have hn := szL_len ls
    rw [e]
    simp only []
    rw [samelist_f ls ls hb hb (by omega) K (by omega)]
    simp only [Option.bind_some]
    rw [if_pos (by simp), if_pos trivial, pack_f ls (by omega) K (by omega)]
    simp only [Option.bind_some]
    rw [← hl, same_self]
    rfl

end Go.Proofs.Ytgcajmkbdhjooaa.Pure
