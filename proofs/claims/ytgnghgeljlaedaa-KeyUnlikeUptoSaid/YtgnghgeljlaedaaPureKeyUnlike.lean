/- The law KeyUnlike, its plain part. -/
import Derived.Test.YtgnghgeljlaedaaKeyP
import Derived.Test.YtgnghgeljlaedaaKx4
set_option linter.unusedVariables false
set_option linter.unusedSimpArgs false
namespace Go.Proofs.Ytgnghgeljlaedaa.Pure
open Go.RowKit Go.Proofs.YtgnghgeljlaedaaW.PrintWords Go.Proofs.YtgnghgeljlaedaaW.PrintLast Go.Proofs.YtgnghgeljlaedaaW.PrintMore Go.Proofs.Ytgnghgeljlaedaa.Oct Go.Proofs.Ytgnghgeljlaedaa.Sha

theorem KeyUnlike (a0 a1 : Int) (d0 d1 : ByteArray) (l0 l1 : List (List Int)) (h0 : (Lit.int .i64 a0).wf = true) (h1 : (Lit.int .i64 a1).wf = true) (hb0 : ∀ x ∈ l0, Bys x) (hb1 : ∀ x ∈ l1, Bys x) (hs : d0.data.size + d1.data.size + (l0.map fun x => x.length + 1).sum + (l1.map fun x => x.length + 1).sum ≤ 1048576) : ∃ k, K.catenarylaw03_KeyUnlike.f k a0 a1 d0 d1 l0 l1 = some true := by
  have hz0 : szL l0 + d0.size ≤ 1048576 := by unfold szL; show _ + d0.data.size ≤ _; omega
  have hz1 : szL l1 + d1.size ≤ 1048576 := by unfold szL; show _ + d1.data.size ≤ _; omega
  have hl0 := szL_len l0
  have hl1 := szL_len l1
  obtain ⟨N, hN⟩ : ∃ N, N = 16777215 := ⟨_, rfl⟩
  refine ⟨N + 1, ?_⟩
  unfold K.catenarylaw03_KeyUnlike.f K.catenarylaw03_keyAlive.f
  simp only [Option.bind_some]
  rw [if_pos trivial, kcopy_f l0 (by omega) (N + 1) (by omega)]
  simp only [Option.bind_some]
  rw [text_f a0 d0 l0 (by omega)]
  simp only [Option.bind_some]
  rw [kcopy_f l1 (by omega) (N + 1) (by omega)]
  simp only [Option.bind_some]
  rw [text_f a1 d1 l1 (by omega)]
  simp only [Option.bind_some]
  have j_true : K.catenarylaw03_KeyUnlike.j0 (N + 1) (txtA a0 d0 l0) (txtA a1 d1 l1) true a0 a1 d0 d1 l0 l1 = some true := by
    simp only [K.catenarylaw03_KeyUnlike.j0]
    rw [if_pos trivial]
    have e : ¬ (0 ≤ a0 ∧ a0 ≤ 127) → ((txtA a0 d0 l0).length : Int) = 0 := fun h => by rw [txtA, if_neg h]; rfl
    by_cases g0 : 0 ≤ a0
    · by_cases g1 : a0 ≤ 127
      · rw [if_pos g0, if_pos g1]
      · rw [if_pos g0, if_neg g1, e (by omega)]; rfl
    · rw [if_neg g0, e (by omega)]; rfl
  by_cases c1 : a0 < 0
  · rw [if_pos c1, j_true]
  rw [if_neg c1]
  by_cases c2 : a0 > 127
  · rw [if_pos c2, j_true]
  rw [if_neg c2]
  by_cases c3 : a1 < 0
  · rw [if_pos c3, j_true]
  rw [if_neg c3]
  by_cases c4 : a1 > 127
  · rw [decide_eq_true c4, j_true]
  rw [decide_eq_false c4]
  simp only [K.catenarylaw03_KeyUnlike.j0]
  rw [if_neg (by decide)]
  have hx0 : ∀ x ∈ l0, x.length ≤ 2147483647 := fun x m => by have := szL_mem m; omega
  have hx1 : ∀ x ∈ l1, x.length ≤ 2147483647 := fun x m => by have := szL_mem m; omega
  have key : txtA a0 d0 l0 = txtA a1 d1 l1 ↔ a0 = a1 ∧ d0 = d1 ∧ l0 = l1 := by
    constructor
    · intro h
      rw [txtA, txtA, if_pos (by omega), if_pos (by omega)] at h
      have hlen : ∀ (k : Int) (d : ByteArray) (l : List (List Int)), d.size ≤ 1048576 → (∀ x ∈ l, x.length ≤ 2147483647) → ∀ x ∈ sgnB :: (intA k).1 :: strI d :: l, x.length ≤ 2147483647 := fun k d l hd hl x hx => by
        simp only [List.mem_cons] at hx
        rcases hx with rfl | rfl | rfl | hx
        · decide
        · have := intA_len k; omega
        · rw [strI_len]; omega
        · exact hl x hx
      have h2 := packA_inj' _ _ (hlen a0 d0 l0 (by omega) hx0) (hlen a1 d1 l1 (by omega) hx1) h
      simp only [List.cons.injEq, true_and] at h2
      obtain ⟨g1, g2, g3⟩ := h2
      refine ⟨?_, strI_inj g2, g3⟩
      rw [intA_yes (by omega), intA_yes (by omega)] at g1
      simp only at g1
      rw [encI_small (by omega), encI_small (by omega)] at g1
      injection g1 with g1
      omega
    · rintro ⟨rfl, rfl, rfl⟩
      rfl
  have hT0 := txtA_bys a0 d0 l0 hb0
  have hT1 := txtA_bys a1 d1 l1 hb1
  rw [ksame_f hT0 hT1]
  simp only [Option.bind_some]
  by_cases g1 : a0 = a1
  · rw [if_pos g1]
    by_cases g2 : d0.toList = d1.toList
    · have g2' : d0 = d1 := by
        rw [ByteArray.toList_eq, ByteArray.toList_eq] at g2
        cases d0; cases d1
        simp only [Array.toList_inj] at g2
        rw [g2]
      rw [if_pos g2, ksamelist_f l0 l1 hb0 hb1 (by omega) N (by omega)]
      simp only [Option.bind_some]
      by_cases g3 : l0 = l1
      · rw [decide_eq_true g3, decide_eq_true (key.2 ⟨g1, g2', g3⟩)]; rfl
      · rw [decide_eq_false g3, decide_eq_false (fun h => g3 (key.1 h).2.2)]; rfl
    · rw [if_neg g2, decide_eq_false (fun h => g2 (by rw [(key.1 h).2.1]))]; rfl
  · rw [if_neg g1, decide_eq_false (fun h => g1 (key.1 h).1)]; rfl
end Go.Proofs.Ytgnghgeljlaedaa.Pure
