/-
  The numbers of layer 1, on: the document's GetInt; a number's bytes are read back, and only they are; the chapter's examples.
-/
import Derived.Test.YtkkgjbafncmohaaOct
import Derived.Test.YtkkgjbafncmohaaQx8
set_option linter.unusedVariables false
set_option linter.unusedSimpArgs false
namespace Go.Proofs.Ytkkgjbafncmohaa.Oct
open Go.RowKit Go.Proofs.Ytkkgjbafncmohaa.Q Go.Proofs.YtkkgjbafncmohaaW.PrintWords Go.Proofs.YtkkgjbafncmohaaW.PrintLast Go.Proofs.YtkkgjbafncmohaaW.PrintMore

theorem rd_at {l : List Int} {i : Nat} {c : Int} {t : List Int} (h : l.drop i = c :: t) (j : Int) (hj : j = i) : rd l j = c := by subst hj; exact (rd_drop h).1
theorem ref_sum (c : Int) (n p : Nat) (h0 : 0 ≤ c) (hp : p ≤ 268435456) (hn : n < p) : wrap64 ((n : Int) + (wrap64 ((wrap64 (Int.tmod c 128)) * (p : Int)))) = ((n + (c.toNat % 128) * p : Nat) : Int) := by
  have hbm : (c.toNat % 128) * p ≤ 127 * p := Nat.mul_le_mul_right _ (by omega)
  have e1 : Int.tmod c 128 = ((c.toNat % 128 : Nat) : Int) := by rw [Int.tmod_eq_emod_of_nonneg h0]; omega
  rw [e1, w64 (x := ((c.toNat % 128 : Nat) : Int)) (by omega) (by omega), ← Int.natCast_mul]
  clear e1
  rw [w64 (x := (((c.toNat % 128) * p : Nat) : Int)) (by omega) (by omega), w64 (by omega) (by omega)]
  omega
theorem ref_weight (p : Nat) (hp : p ≤ 268435456) : wrap64 ((p : Int) * 128) = ((p * 128 : Nat) : Int) := by rw [w64 (by omega) (by omega)]; omega
theorem ref_next (m : Nat) (h : m ≤ 140737488355333) : wrap64 ((m : Int) + 1) = ((m + 1 : Nat) : Int) := by rw [w64 (by omega) (by omega)]; omega
theorem rget_loop (m : Nat) : ∀ (k i n a p : Nat) (l : List Int), Bys l → l.length ≤ 140737488355328 → i + m = 5 → 2 * m + 16 < k → p = 128 ^ i → n < p → 
    catenaryref01_GetInt.l0 k l (a : Int) (n : Int) (p : Int) ((a + i : Nat) : Int) = some (match decGo i n (l.drop (a + i)) with | none => (0, 0, 11) | some (n, c) => ((n : Int), (a : Int) + c, 0)) := by
  induction m with
  | zero =>
    intro k i n a p l hl hlen hi hk hp hn
    obtain ⟨k, rfl⟩ : ∃ m, k = m + 2 := ⟨k - 2, by omega⟩
    cases hd : l.drop (a + i) with
    | nil =>
      have := drop_nil_len hd
      simp only [catenaryref01_GetInt.l0, decGo]
      rw [if_neg (by omega)]
      simp only [catenaryref01_GetInt.j2]
      rw [if_neg (by decide)]
    | cons c t =>
      obtain ⟨hc, hlt, ht⟩ := rd_drop hd
      simp only [catenaryref01_GetInt.l0, decGo]
      rw [if_pos (by omega), w64 (x := ((a + i : Nat) : Int) - (a : Int)) (by omega) (by omega), if_pos (by omega), decide_eq_false (by omega)]
      simp only [catenaryref01_GetInt.j2]
      rw [if_neg (by decide)]
  | succ m ih =>
    intro k i n a p l hl hlen hi hk hp hn
    obtain ⟨k, rfl⟩ : ∃ m, k = m + 2 := ⟨k - 2, by omega⟩
    cases hd : l.drop (a + i) with
    | nil =>
      have := drop_nil_len hd
      simp only [catenaryref01_GetInt.l0, decGo]
      rw [if_neg (by omega)]
      simp only [catenaryref01_GetInt.j2]
      rw [if_neg (by decide)]
    | cons c t =>
      obtain ⟨hc, hlt, ht⟩ := rd_drop hd
      have hb := hl c (by have : c ∈ l.drop (a + i) := by rw [hd]; simp
                          exact List.mem_of_mem_drop this)
      have hp4 : p ≤ 268435456 := hp ▸ pow128_le (by omega)
      have hi5 : ¬ 5 ≤ i := by omega
      have hgo : decGo i n (c :: t) = if c < 128 then (if n + (c.toNat % 128) * p > 2147483647 ∨ (c = 0 ∧ 0 < i) then none else some (n + (c.toNat % 128) * p, i + 1)) else decGo (i + 1) (n + (c.toNat % 128) * p) t := by
        simp only [decGo]
        rw [if_neg (hi5), ← hp]
      have hnext1 : 128 ^ (i + 1) = p * 128 := by rw [Nat.pow_succ, hp]
      have hbm : (c.toNat % 128) * p ≤ 127 * p := Nat.mul_le_mul_right _ (by omega)
      rw [hgo]
      simp only [catenaryref01_GetInt.l0]
      rw [if_pos (by omega), w64 (x := ((a + i : Nat) : Int) - (a : Int)) (by omega) (by omega), decide_eq_true (by omega)]
      simp only [catenaryref01_GetInt.j2]
      rw [if_pos trivial, if_pos (by omega), if_pos (by omega), hc]
      by_cases h1 : c < 128
      · rw [if_neg (by omega), if_pos h1, ref_sum c n p hb.1 hp4 hn, rintA_f _ k (by omega)]
        simp only [Option.bind_some]
        rw [w64 (x := ((a + i : Nat) : Int) - (a : Int)) (by omega) (by omega), w64 (x := ((a + i : Nat) : Int) - (a : Int) + 1) (by omega) (by omega), ref_next (a + i) (by omega)]
        by_cases h2 : n + (c.toNat % 128) * p > 2147483647
        · rw [intA_no (by omega), if_neg (by decide), if_pos (.inl h2)]
        · rw [intA_yes (by omega), if_pos rfl]
          simp only [Int.toNat_natCast]
          by_cases h3 : c = 0 ∧ 0 < i
          · have hl1 : (encI (n + c.toNat % 128 * p)).length ≤ i := by
              obtain ⟨h3, h0⟩ := h3
              subst h3
              obtain ⟨j, rfl⟩ : ∃ j, i = j + 1 := ⟨i - 1, by omega⟩
              have e0 : n + (0 : Int).toNat % 128 * p = n := by simp
              rw [e0]
              exact encI_lt j n (by rw [← hp]; exact hn)
            rw [if_neg (by omega), if_pos (.inr h3)]
          · have hl1 : (encI (n + c.toNat % 128 * p)).length = i + 1 := by
              by_cases h0 : c = 0
              · have hi0 : i = 0 := by
                  rcases Nat.eq_zero_or_pos i with h | h
                  · exact h
                  · exact absurd ⟨h0, h⟩ h3
                subst hi0
                subst h0
                rw [encI_small (by simp at hp; subst hp; simp; omega)]
                rfl
              · rw [hp] at hn ⊢
                exact encI_len i n (c.toNat % 128) hn (by omega) (by omega)
            rw [if_pos (by rw [hl1]; omega), if_neg (by intro h; rcases h with h | h; exact h2 h; exact h3 h)]
            show some _ = some _
            congr 2
      · rw [if_pos (by omega), if_neg h1, ref_sum c n p hb.1 hp4 hn, ref_weight p hp4, ref_next (a + i) (by omega)]
        have := ih k (i + 1) (n + (c.toNat % 128) * p) a (p * 128) l hl hlen (by omega) (by omega) hnext1.symm (by omega)
        rw [show a + (i + 1) = a + i + 1 by omega, ht] at this
        exact this
theorem rget_f (l : List Int) (a : Int) (hl : Bys l) (hlen : l.length ≤ 140737488355328) : ∀ k, 30 ≤ k → catenaryref01_GetInt.f k l a = some (getA l a) := by
  intro k hk
  obtain ⟨k, rfl⟩ : ∃ m, k = m + 1 := ⟨k - 1, by omega⟩
  unfold catenaryref01_GetInt.f getA
  by_cases h : 0 ≤ a ∧ a ≤ l.length
  · obtain ⟨a, rfl⟩ := Int.eq_ofNat_of_zero_le h.1
    rw [if_neg (by omega), decide_eq_false (by omega), if_pos h]
    simp only [catenaryref01_GetInt.j0]
    rw [if_neg (by decide)]
    exact rget_loop 5 k 0 0 a 1 l hl hlen (by omega) (by omega) rfl (by omega)
  · rw [if_neg h]
    by_cases h0 : a < 0
    · rw [if_pos h0]; simp only [catenaryref01_GetInt.j0]; rw [if_pos trivial]
    · rw [if_neg h0, decide_eq_true (by omega)]; simp only [catenaryref01_GetInt.j0]; rw [if_pos trivial]

/-! ### A number's bytes are read back, and only they are -/
theorem decGo_enc (n : Nat) : ∀ (i m : Nat) (t : List Int), m + n * 128 ^ i ≤ 2147483647 → (0 < n ∨ i = 0) → i + (encI n).length ≤ 5 → decGo i m (encI n ++ t) = some (m + n * 128 ^ i, i + (encI n).length) := by
  induction n using Nat.strongRecOn with
  | _ n ih =>
    intro i m t h1 h2 h3
    by_cases h : n < 128
    · rw [encI_small h] at h3 ⊢
      simp only [List.singleton_append, List.length_singleton] at h3 ⊢
      simp only [decGo]
      rw [if_neg (by omega), if_pos (by omega), show (n : Int).toNat % 128 = n by omega, if_neg (by omega)]
    · rw [encI_big h, List.length_cons] at h3
      rw [encI_big h, List.length_cons, List.cons_append]
      simp only [decGo]
      have e : n * 128 ^ i = (n % 128) * 128 ^ i + (n / 128) * 128 ^ (i + 1) := by
        rw [Nat.pow_succ, Nat.mul_comm (128 ^ i) 128, ← Nat.mul_assoc, ← Nat.add_mul, show n % 128 + n / 128 * 128 = n by omega]
      rw [if_neg (by omega), if_neg (by omega), show ((n % 128 + 128 : Nat) : Int).toNat % 128 = n % 128 by omega,
        ih (n / 128) (by omega) (i + 1) (m + (n % 128) * 128 ^ i) t (by omega) (by omega) (by omega), e]
      congr 2 <;> omega
theorem decGo_sound (l : List Int) : ∀ (i m n c : Nat), Bys l → decGo i m l = some (n, c) →
    ∃ d, n = m + d * 128 ^ i ∧ c = i + (encI d).length ∧ l = encI d ++ l.drop (encI d).length ∧ n ≤ 2147483647 ∧ (0 < d ∨ i = 0) := by
  induction l with
  | nil => intro i m n c _ h; simp [decGo] at h
  | cons x t ih =>
    intro i m n c hb h
    have hx := hb x (by simp)
    simp only [decGo] at h
    split at h
    · cases h
    · split at h
      · rename_i h1
        split at h
        · cases h
        · rename_i h2
          simp only [Option.some.injEq, Prod.mk.injEq] at h
          obtain ⟨rfl, rfl⟩ := h
          have e := encI_small (n := x.toNat) (by omega)
          refine ⟨x.toNat, by rw [show x.toNat % 128 = x.toNat by omega], by rw [e]; rfl, ?_, by omega, ?_⟩
          · rw [e]
            simp
            omega
          · rcases Nat.eq_zero_or_pos i with h0 | h0
            · exact .inr h0
            · refine .inl ?_
              rcases Nat.eq_zero_or_pos x.toNat with h3 | h3
              · exact absurd (.inr ⟨by omega, h0⟩) h2
              · exact h3
      · rename_i h1
        obtain ⟨d, hn, hc, ht, hm, hd⟩ := ih (i + 1) _ n c (fun y hy => hb y (by simp [hy])) h
        have hd0 : 0 < d := by omega
        have e : encI (x.toNat % 128 + d * 128) = x :: encI d := by
          rw [encI_big (by omega), show (x.toNat % 128 + d * 128) / 128 = d by omega]
          congr 1
          omega
        refine ⟨x.toNat % 128 + d * 128, ?_, ?_, ?_, hm, .inl (by omega)⟩
        · rw [hn, Nat.add_mul, Nat.pow_succ, Nat.mul_comm (128 ^ i) 128, Nat.mul_assoc]
          omega
        · rw [e, List.length_cons, hc]; omega
        · rw [e, List.length_cons, List.drop_succ_cons, List.cons_append, ← ht]
theorem dec_enc (n : Nat) (hn : n ≤ 2147483647) (t : List Int) : decGo 0 0 (encI n ++ t) = some (n, (encI n).length) := by
  have := decGo_enc n 0 0 t (by simpa using hn) (.inr rfl) (by have := encI_five n hn; omega)
  simpa using this
theorem dec_sound {l : List Int} {n c : Nat} (hb : Bys l) (h : decGo 0 0 l = some (n, c)) : n ≤ 2147483647 ∧ c = (encI n).length ∧ l = encI n ++ l.drop c := by
  obtain ⟨d, h1, h2, h3, h4, _⟩ := decGo_sound l 0 0 n c hb h
  have : d = n := by simpa using h1.symm
  subst this
  have hc : c = (encI d).length := by omega
  exact ⟨h4, hc, hc ▸ h3⟩

/-! ### The chapter's examples -/
end Go.Proofs.Ytkkgjbafncmohaa.Oct
