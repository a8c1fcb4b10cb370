/- The law OctetUnlike, its plain part: unlike lists of texts have unlike packs, and one behind the other they are the pack of both. -/
import Derived.Test.YtgcajmkbdhjooaaOct4
import Derived.Test.YtgcajmkbdhjooaaQx14
set_option linter.unusedVariables false
set_option linter.unusedSimpArgs false
namespace Go.Proofs.Ytgcajmkbdhjooaa.Pure
open Go.RowKit Go.Proofs.Ytgcajmkbdhjooaa.Q Go.Proofs.YtgcajmkbdhjooaaW.PrintWords Go.Proofs.YtgcajmkbdhjooaaW.PrintLast Go.Proofs.Ytgcajmkbdhjooaa.Oct

theorem OctetUnlike (a b : List (List Int)) (ha : ∀ x ∈ a, Bys x) (hb : ∀ x ∈ b, Bys x) (hs : ((a.map fun x => x.length + 1).sum + 1) + ((b.map fun x => x.length + 1).sum + 1) ≤ 1048576) : ∃ k, catenarylaw01_OctetUnlike.f k a b = some true := by
  have hz : szL a + szL b ≤ 1048576 := by unfold szL; omega
  have hla := szL_len a
  have hlb := szL_len b
  have hpa := packA_len a
  have hpb := packA_len b
  have hxa : ∀ x ∈ a, x.length ≤ 2147483647 := fun x m => by have := szL_mem m; omega
  have hxb : ∀ x ∈ b, x.length ≤ 2147483647 := fun x m => by have := szL_mem m; omega
  have hK : ∃ K, K = 16777216 := ⟨_, rfl⟩
  obtain ⟨K, hK⟩ := hK
  refine ⟨K, ?_⟩
  unfold catenarylaw01_OctetUnlike.f
  rw [alive_f K (by omega)]
  simp only [Option.bind_some]
  rw [if_pos trivial, copy_f a (fun x m => by have := hxa x m; omega) (by omega) K (by omega)]
  simp only [Option.bind_some]
  rw [pack_f a (by omega) K (by omega)]
  simp only [Option.bind_some]
  rw [copy_f b (fun x m => by have := hxb x m; omega) (by omega) K (by omega)]
  simp only [Option.bind_some]
  rw [pack_f b (by omega) K (by omega)]
  simp only [Option.bind_some]
  rw [if_pos (by omega), same_f (packA_bys ha) (packA_bys hb)]
  simp only [Option.bind_some]
  rw [samelist_f a b ha hb (by omega) K (by omega)]
  simp only [Option.bind_some]
  have hiff : decide (packA a = packA b) = decide (a = b) := by
    by_cases e : a = b
    · subst e; simp
    · rw [decide_eq_false e, decide_eq_false (fun h => e (packA_inj a b hxa hxb (by omega) h))]
  rw [if_pos (by rw [hiff]; simp), pack_f (a ++ b) (by rw [szL_append]; omega) K (by rw [List.length_append]; omega)]
  simp only [Option.bind_some, List.nil_append]
  rw [if_pos (by simp; omega), if_pos (by omega), packA_append, same_self]
  rfl

end Go.Proofs.Ytgcajmkbdhjooaa.Pure
