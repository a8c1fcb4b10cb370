/-
  Unpack in plain Lean: the program's and the document's; packed texts are unpacked, and what is unpacked packs to the same bytes.
-/
import Derived.Test.YtgcajmkbdhjooaaOct3
import Derived.Test.YtgcajmkbdhjooaaQx18
import Derived.Test.YtgcajmkbdhjooaaQx20
set_option linter.unusedVariables false
set_option linter.unusedSimpArgs false
namespace Go.Proofs.Ytgcajmkbdhjooaa.Oct
open Go.RowKit Go.Proofs.Ytgcajmkbdhjooaa.Q Go.Proofs.YtgcajmkbdhjooaaW.PrintWords Go.Proofs.YtgcajmkbdhjooaaW.PrintLast Go.Proofs.YtgcajmkbdhjooaaW.PrintMore

def unpGo (l : List Int) : Nat → Nat → List (List Int) → List (List Int) × Int
  | 0, _, acc => (acc, 0)
  | m + 1, a, acc => if a < l.length then (if (gbA l a 2147483647).2.2 = 0 then unpGo l m (gbA l a 2147483647).2.1.toNat (acc ++ [(gbA l a 2147483647).1]) else ([], 11)) else (acc, 0)
theorem gb_err (l : List Int) (a most : Int) (h : (gbA l a most).2.2 ≠ 0) : (gbA l a most).2.2 = 11 := by
  unfold gbA at h ⊢
  split
  · rename_i h0
    rw [if_pos h0] at h
    exact absurd rfl h
  · rfl
/-- One more than a text's length is taken at least. -/
theorem bytesA_more {p : List Int} (h : (p.length : Int) ≤ 2147483647) : p.length + 1 ≤ (bytesA p).length := by
  unfold bytesA
  rw [intA_yes (by omega), List.length_append]
  have := encI_pos (p.length : Int).toNat
  simp only []
  omega
theorem unp_loop (l : List Int) (hl : Bys l) (hlen : l.length ≤ 8388608) (m : Nat) : ∀ (k a : Nat) (acc : List (List Int)), l.length ≤ a + m → m + 12 ≤ k → acc.length + m ≤ 5864062014804 →
    octet_Unpack.l0 k l acc (a : Int) = some (unpGo l m a acc) := by
  induction m with
  | zero =>
    intro k a acc ha hk hac
    obtain ⟨k, rfl⟩ : ∃ m, k = m + 1 := ⟨k - 1, by omega⟩
    simp only [octet_Unpack.l0, unpGo]
    rw [if_neg (by omega)]
  | succ m ih =>
    intro k a acc ha hk hac
    obtain ⟨k, rfl⟩ : ∃ m, k = m + 1 := ⟨k - 1, by omega⟩
    simp only [octet_Unpack.l0, unpGo]
    by_cases h : a < l.length
    · rw [if_pos (by omega), if_pos h, gb_f l _ _ hl (by omega) k (by omega)]
      simp only [Option.bind_some]
      by_cases e : (gbA l a 2147483647).2.2 = 0
      · obtain ⟨h1, h2, h3, h4, h5⟩ := gbA_sound hl (by omega) e
        have hp := bytesA_pos (gbA l a 2147483647).1
        rw [if_pos e, if_pos (by omega), if_pos e]
        have := ih k (gbA l a 2147483647).2.1.toNat (acc ++ [(gbA l a 2147483647).1]) (by omega) (by omega) (by rw [List.length_append, List.length_singleton]; omega)
        rw [show (((gbA l a 2147483647).2.1.toNat : Nat) : Int) = (gbA l a 2147483647).2.1 by omega] at this
        exact this
      · rw [if_neg e, if_neg e, gb_err l _ _ e]
    · rw [if_neg (by omega), if_neg h]
theorem runp_loop (l : List Int) (hl : Bys l) (hlen : l.length ≤ 8388608) (m : Nat) : ∀ (k a : Nat) (acc : List (List Int)), l.length ≤ a + m → m + 32 ≤ k → acc.length + m ≤ 5864062014804 →
    catenaryref01_Unpack.l0 k l acc (a : Int) = some (unpGo l m a acc) := by
  induction m with
  | zero =>
    intro k a acc ha hk hac
    obtain ⟨k, rfl⟩ : ∃ m, k = m + 1 := ⟨k - 1, by omega⟩
    simp only [catenaryref01_Unpack.l0, unpGo]
    rw [if_neg (by omega)]
  | succ m ih =>
    intro k a acc ha hk hac
    obtain ⟨k, rfl⟩ : ∃ m, k = m + 1 := ⟨k - 1, by omega⟩
    simp only [catenaryref01_Unpack.l0, unpGo]
    by_cases h : a < l.length
    · rw [if_pos (by omega), if_pos h, rgb_f l _ _ hl (by omega) k (by omega)]
      simp only [Option.bind_some]
      by_cases e : (gbA l a 2147483647).2.2 = 0
      · obtain ⟨h1, h2, h3, h4, h5⟩ := gbA_sound hl (by omega) e
        have hp := bytesA_pos (gbA l a 2147483647).1
        rw [if_pos e, if_pos (by omega), if_pos e]
        have := ih k (gbA l a 2147483647).2.1.toNat (acc ++ [(gbA l a 2147483647).1]) (by omega) (by omega) (by rw [List.length_append, List.length_singleton]; omega)
        rw [show (((gbA l a 2147483647).2.1.toNat : Nat) : Int) = (gbA l a 2147483647).2.1 by omega] at this
        exact this
      · rw [if_neg e, if_neg e, gb_err l _ _ e]
    · rw [if_neg (by omega), if_neg h]
/-- What Unpack answers. -/
def unpA (l : List Int) : List (List Int) × Int := unpGo l l.length 0 []
theorem unp_f (l : List Int) (hl : Bys l) (hlen : l.length ≤ 8388608) : ∀ k, l.length + 12 ≤ k → octet_Unpack.f k l = some (unpA l) := by
  intro k hk
  unfold octet_Unpack.f
  exact unp_loop l hl hlen l.length k 0 [] (by omega) (by omega) (by simp; omega)
theorem runp_f (l : List Int) (hl : Bys l) (hlen : l.length ≤ 8388608) : ∀ k, l.length + 32 ≤ k → catenaryref01_Unpack.f k l = some (unpA l) := by
  intro k hk
  unfold catenaryref01_Unpack.f
  exact runp_loop l hl hlen l.length k 0 [] (by omega) (by omega) (by simp; omega)
/-- What is unpacked packs to the same bytes. -/
theorem unpGo_sound (l : List Int) (hl : Bys l) (hlen : l.length ≤ 8388608) (m : Nat) : ∀ (a : Nat) (acc : List (List Int)), a ≤ l.length → l.length ≤ a + m →
    (unpGo l m a acc = ([], 11)) ∨ ∃ rest, unpGo l m a acc = (acc ++ rest, 0) ∧ l.drop a = packA rest ∧ (∀ x ∈ rest, Bys x) ∧ szL rest ≤ (packA rest).length := by
  induction m with
  | zero =>
    intro a acc h1 h2
    refine .inr ⟨[], by simp [unpGo], ?_, by simp, by simp [szL]⟩
    rw [List.drop_eq_nil_of_le (by omega)]
    rfl
  | succ m ih =>
    intro a acc h1 h2
    simp only [unpGo]
    by_cases h : a < l.length
    · rw [if_pos h]
      by_cases e : (gbA l a 2147483647).2.2 = 0
      · obtain ⟨g1, g2, g3, g4, g5⟩ := gbA_sound hl (by omega) e
        have hp := bytesA_more g5
        rw [Int.toNat_natCast] at g2 g3 g4
        rw [if_pos e]
        rcases ih (gbA l a 2147483647).2.1.toNat (acc ++ [(gbA l a 2147483647).1]) (by omega) (by omega) with hh | ⟨rest, r1, r2, r3, r4⟩
        · exact .inl hh
        · refine .inr ⟨(gbA l a 2147483647).1 :: rest, by rw [r1]; simp, ?_, ?_, ?_⟩
          · rw [packA_cons, ← r2, g3]
            congr 2
            omega
          · intro x hx
            rcases List.mem_cons.1 hx with rfl | hx
            · exact gbA_bys hl _ _
            · exact r3 x hx
          · rw [packA_cons, szL_cons, List.length_append]
            omega
      · rw [if_neg e]
        exact .inl rfl
    · rw [if_neg h]
      refine .inr ⟨[], by simp, ?_, by simp, by simp [szL]⟩
      rw [List.drop_eq_nil_of_le (by omega)]
      rfl
theorem unpA_sound (l : List Int) (hl : Bys l) (hlen : l.length ≤ 8388608) : unpA l = ([], 11) ∨ ∃ ls, unpA l = (ls, 0) ∧ l = packA ls ∧ (∀ x ∈ ls, Bys x) ∧ szL ls ≤ l.length := by
  rcases unpGo_sound l hl hlen l.length 0 [] (by omega) (by omega) with h | ⟨rest, r1, r2, r3, r4⟩
  · exact .inl h
  · rw [List.drop_zero] at r2
    exact .inr ⟨rest, by unfold unpA; simpa using r1, r2, r3, by rw [r2]; exact r4⟩
/-- Packed texts are unpacked. -/
theorem unpGo_pack (ls : List (List Int)) : ∀ (m : Nat) (pre : List Int) (acc : List (List Int)), ls.length ≤ m → (∀ x ∈ ls, x.length ≤ 2147483647) → (pre ++ packA ls).length ≤ 140737488351232 →
    unpGo (pre ++ packA ls) m pre.length acc = (acc ++ ls, 0) := by
  induction ls with
  | nil =>
    intro m pre acc hm hx hlen
    cases m with
    | zero => simp [unpGo]
    | succ m =>
      simp only [unpGo]
      rw [if_neg (by simp [packA_nil]), List.append_nil]
  | cons p ls ih =>
    intro m pre acc hm hx hlen
    obtain ⟨m, rfl⟩ : ∃ k, m = k + 1 := ⟨m - 1, by simp at hm; omega⟩
    have hp := hx p (by simp)
    have hb := bytesA_pos p
    rw [packA_cons] at hlen ⊢
    have hg := gbA_bytes pre p (packA ls) 2147483647 hp (by omega) hlen
    simp only [unpGo]
    rw [if_pos (by simp only [List.length_append]; omega), hg]
    simp only []
    rw [if_pos trivial, Int.toNat_natCast]
    have := ih m (pre ++ bytesA p) (acc ++ [p]) (by simp at hm; omega) (fun x h => hx x (by simp [h])) (by rw [List.append_assoc]; exact hlen)
    rw [List.length_append, List.append_assoc] at this
    rw [this]
    simp
theorem unpA_pack (ls : List (List Int)) (hx : ∀ x ∈ ls, x.length ≤ 2147483647) (hlen : (packA ls).length ≤ 140737488351232) : unpA (packA ls) = (ls, 0) := by
  have hn : ls.length ≤ (packA ls).length := by
    clear hx hlen
    induction ls with
    | nil => simp
    | cons p ls ih => have := bytesA_pos p; rw [packA_cons, List.length_append, List.length_cons]; omega
  have := unpGo_pack ls (packA ls).length [] [] hn hx (by simpa using hlen)
  simpa [unpA] using this
/-- Unlike lists have unlike packs. -/
theorem packA_inj (a b : List (List Int)) (ha : ∀ x ∈ a, x.length ≤ 2147483647) (hb : ∀ x ∈ b, x.length ≤ 2147483647) (hla : (packA a).length ≤ 140737488351232) (h : packA a = packA b) : a = b := by
  have h1 := unpA_pack a ha hla
  have h2 := unpA_pack b hb (by rw [← h]; exact hla)
  rw [h, h2] at h1
  exact (Prod.mk.inj h1).1.symm
end Go.Proofs.Ytgcajmkbdhjooaa.Oct
