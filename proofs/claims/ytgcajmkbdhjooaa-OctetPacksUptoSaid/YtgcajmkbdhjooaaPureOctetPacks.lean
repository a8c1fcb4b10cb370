/- The law OctetPacks, its plain part: texts packed are the document's bytes, and unpacked they are the same texts. -/
import Derived.Test.YtgcajmkbdhjooaaOct4
import Derived.Test.YtgcajmkbdhjooaaQx19
set_option linter.unusedVariables false
set_option linter.unusedSimpArgs false
namespace Go.Proofs.Ytgcajmkbdhjooaa.Pure
open Go.RowKit Go.Proofs.Ytgcajmkbdhjooaa.Q Go.Proofs.YtgcajmkbdhjooaaW.PrintWords Go.Proofs.YtgcajmkbdhjooaaW.PrintLast Go.Proofs.Ytgcajmkbdhjooaa.Oct

theorem OctetPacks (ls : List (List Int)) (h : ∀ x ∈ ls, Bys x) (hs : (ls.map fun x => x.length + 1).sum + 1 ≤ 1048576) : ∃ k, catenarylaw01_OctetPacks.f k ls = some true := by
  have hz : szL ls ≤ 1048576 := by unfold szL; omega
  have hl := szL_len ls
  have hp := packA_len ls
  have hx : ∀ x ∈ ls, x.length ≤ 2147483647 := fun x m => by have := szL_mem m; omega
  have hK : ∃ K, K = 16777216 := ⟨_, rfl⟩
  obtain ⟨K, hK⟩ := hK
  refine ⟨K, ?_⟩
  unfold catenarylaw01_OctetPacks.f
  rw [alive_f K (by omega)]
  simp only [Option.bind_some]
  rw [if_pos trivial, copy_f ls (fun x m => by have := hx x m; omega) (by omega) K (by omega)]
  simp only [Option.bind_some]
  rw [pack_f ls (by omega) K (by omega)]
  simp only [Option.bind_some, List.nil_append]
  rw [if_pos (by simp; omega), unp_f (packA ls) (packA_bys h) (by omega) K (by omega), unpA_pack ls hx (by omega)]
  simp only [Option.bind_some]
  rw [if_pos trivial, rpack_f ls (by omega) K (by omega)]
  simp only [Option.bind_some]
  rw [same_self]
  simp only [Option.bind_some]
  rw [if_pos trivial, samelist_f ls ls h h (by omega) K (by omega)]
  simp

end Go.Proofs.Ytgcajmkbdhjooaa.Pure
