/-
  The records of any bytes, in plain Lean.
-/
import Derived.Test.YtkkgjbafncmohaaOct3
import Derived.Test.YtkkgjbafncmohaaQx3
import Derived.Test.YtkkgjbafncmohaaQx9
set_option linter.unusedVariables false
set_option linter.unusedSimpArgs false
namespace Go.Proofs.Ytkkgjbafncmohaa.Oct
open Go.RowKit Go.Proofs.Ytkkgjbafncmohaa.Q Go.Proofs.YtkkgjbafncmohaaW.PrintWords Go.Proofs.YtkkgjbafncmohaaW.PrintLast Go.Proofs.YtkkgjbafncmohaaW.PrintMore

theorem gb_err (l : List Int) (a most : Int) (h : (gbA l a most).2.2 ≠ 0) : (gbA l a most).2.2 = 11 := by
  unfold gbA at h ⊢
  split
  · rename_i h0
    rw [if_pos h0] at h
    exact absurd rfl h
  · rfl
/-- One more than a text's length is taken at least. -/
theorem bytesA_more {p : List Int} (h : (p.length : Int) ≤ 2147483647) : p.length + 1 ≤ (bytesA p).length := by
  unfold bytesA
  rw [intA_yes (by omega), List.length_append]
  have := encI_pos (p.length : Int).toNat
  simp only []
  omega
theorem bytesA_inj {p q r t : List Int} (hp : p.length ≤ 2147483647) (hq : q.length ≤ 2147483647) (h : bytesA p ++ r = bytesA q ++ t) : p = q ∧ r = t := by
  unfold bytesA at h
  rw [intA_yes (by omega), intA_yes (by omega)] at h
  simp only [Int.toNat_natCast, List.append_assoc] at h
  have h1 := dec_enc p.length hp (p ++ r)
  have h2 := dec_enc q.length hq (q ++ t)
  rw [h] at h1
  rw [h1] at h2
  simp only [Option.some.injEq, Prod.mk.injEq] at h2
  have hl : p.length = q.length := h2.1
  rw [hl] at h
  exact List.append_inj (List.append_cancel_left h) hl
/-- The records that bytes begin with, and how many bytes they take. -/
def scanGo (l : List Int) : Nat → Nat → List (List Int) → List (List Int) × Nat
  | 0, a, acc => (acc, a)
  | m + 1, a, acc => if a < l.length then (if (gbA l a 2147483647).2.2 = 0 then scanGo l m (gbA l a 2147483647).2.1.toNat (acc ++ [(gbA l a 2147483647).1]) else (acc, a)) else (acc, a)
def scanA (l : List Int) : List (List Int) × Nat := scanGo l l.length 0 []
/-- How much is let in does not count if it is the bytes' length or more. -/
theorem gb_most (l : List Int) (hl : Bys l) (a : Nat) : gbA l a (l.length : Int) = gbA l a 2147483647 := by
  unfold gbA
  by_cases e : (getA l a).2.2 = 0
  · obtain ⟨n, ha, hn, hg, hd, hle⟩ := getA_ok hl e
    rw [hg]
    simp only []
    by_cases h : (n : Int) ≤ (l.length : Int) - ((a : Int) + ((encI n).length : Int))
    · rw [if_pos ⟨trivial, by omega, h⟩, if_pos ⟨trivial, by omega, h⟩]
    · rw [if_neg (by omega), if_neg (by omega)]
  · rw [if_neg (by omega), if_neg (by omega)]
theorem scan_loop (l : List Int) (hl : Bys l) (hlen : l.length ≤ 8388608) (m : Nat) : ∀ (k a : Nat) (acc : List (List Int)), l.length ≤ a + m → m + 12 ≤ k → acc.length + m ≤ 5864062014804 →
    wal_Scan.l0 k l acc (a : Int) = some ((scanGo l m a acc).1, ((scanGo l m a acc).2 : Int)) := by
  induction m with
  | zero =>
    intro k a acc ha hk hac
    obtain ⟨k, rfl⟩ : ∃ m, k = m + 1 := ⟨k - 1, by omega⟩
    simp only [wal_Scan.l0, scanGo]
    rw [if_neg (by omega)]
  | succ m ih =>
    intro k a acc ha hk hac
    obtain ⟨k, rfl⟩ : ∃ m, k = m + 1 := ⟨k - 1, by omega⟩
    simp only [wal_Scan.l0, scanGo]
    by_cases h : a < l.length
    · rw [if_pos (by omega), if_pos h, gb_f l _ _ hl (by omega) k (by omega), gb_most l hl a]
      simp only [Option.bind_some]
      by_cases e : (gbA l a 2147483647).2.2 = 0
      · obtain ⟨h1, h2, h3, h4, h5⟩ := gbA_sound hl (by omega) e
        have hp := bytesA_pos (gbA l a 2147483647).1
        rw [if_pos e, if_pos (by omega), if_pos e]
        have := ih k (gbA l a 2147483647).2.1.toNat (acc ++ [(gbA l a 2147483647).1]) (by omega) (by omega) (by rw [List.length_append, List.length_singleton]; omega)
        rw [show (((gbA l a 2147483647).2.1.toNat : Nat) : Int) = (gbA l a 2147483647).2.1 by omega] at this
        exact this
      · rw [if_neg e, if_neg e]
    · rw [if_neg (by omega), if_neg h]
theorem rscan_loop (l : List Int) (hl : Bys l) (hlen : l.length ≤ 8388608) (m : Nat) : ∀ (k a : Nat) (acc : List (List Int)), l.length ≤ a + m → m + 32 ≤ k → acc.length + m ≤ 5864062014804 →
    catenaryref12_Scan.l0 k l acc (a : Int) = some ((scanGo l m a acc).1, ((scanGo l m a acc).2 : Int)) := by
  induction m with
  | zero =>
    intro k a acc ha hk hac
    obtain ⟨k, rfl⟩ : ∃ m, k = m + 1 := ⟨k - 1, by omega⟩
    simp only [catenaryref12_Scan.l0, scanGo]
    rw [if_neg (by omega)]
  | succ m ih =>
    intro k a acc ha hk hac
    obtain ⟨k, rfl⟩ : ∃ m, k = m + 1 := ⟨k - 1, by omega⟩
    simp only [catenaryref12_Scan.l0, scanGo]
    by_cases h : a < l.length
    · rw [if_pos (by omega), if_pos h, rgb_f l _ _ hl (by omega) k (by omega)]
      simp only [Option.bind_some]
      by_cases e : (gbA l a 2147483647).2.2 = 0
      · obtain ⟨h1, h2, h3, h4, h5⟩ := gbA_sound hl (by omega) e
        have hp := bytesA_pos (gbA l a 2147483647).1
        rw [if_pos e, if_pos (by omega), if_pos e]
        have := ih k (gbA l a 2147483647).2.1.toNat (acc ++ [(gbA l a 2147483647).1]) (by omega) (by omega) (by rw [List.length_append, List.length_singleton]; omega)
        rw [show (((gbA l a 2147483647).2.1.toNat : Nat) : Int) = (gbA l a 2147483647).2.1 by omega] at this
        exact this
      · rw [if_neg e, if_neg e]
    · rw [if_neg (by omega), if_neg h]
theorem scan_f (l : List Int) (hl : Bys l) (hlen : l.length ≤ 8388608) : ∀ k, l.length + 12 ≤ k → wal_Scan.f k l = some ((scanA l).1, ((scanA l).2 : Int)) := by
  intro k hk
  unfold wal_Scan.f scanA
  exact scan_loop l hl hlen l.length k 0 [] (by omega) hk (by simp; omega)
theorem rscan_f (l : List Int) (hl : Bys l) (hlen : l.length ≤ 8388608) : ∀ k, l.length + 32 ≤ k → catenaryref12_Scan.f k l = some ((scanA l).1, ((scanA l).2 : Int)) := by
  intro k hk
  unfold catenaryref12_Scan.f scanA
  exact rscan_loop l hl hlen l.length k 0 [] (by omega) hk (by simp; omega)
/-- What is scanned is whole records' bytes. -/
theorem scanGo_sound (l : List Int) (hl : Bys l) (hlen : l.length ≤ 8388608) (m : Nat) : ∀ (a : Nat) (acc : List (List Int)), a ≤ l.length → l.take a = packA acc → (∀ x ∈ acc, Bys x) →
    (scanGo l m a acc).2 ≤ l.length ∧ l.take (scanGo l m a acc).2 = packA (scanGo l m a acc).1 ∧ ∀ x ∈ (scanGo l m a acc).1, Bys x := by
  induction m with
  | zero => intro a acc ha ht hb; exact ⟨ha, ht, hb⟩
  | succ m ih =>
    intro a acc ha ht hb
    simp only [scanGo]
    by_cases h : a < l.length
    · rw [if_pos h]
      by_cases e : (gbA l a 2147483647).2.2 = 0
      · obtain ⟨h1, h2, h3, h4, h5⟩ := gbA_sound hl (by omega) e
        rw [if_pos e]
        rw [Int.toNat_natCast] at h2 h3 h4
        have e2 : (gbA l a 2147483647).2.1.toNat = a + (bytesA (gbA l a 2147483647).1).length := by omega
        rw [e2]
        refine ih _ _ h4 ?_ ?_
        · rw [packA_append, ← ht, packA_cons, packA_nil, List.append_nil, List.take_add, h3, List.take_left]
        · intro x hx
          rcases List.mem_append.1 hx with hx | hx
          · exact hb x hx
          · rw [List.mem_singleton.1 hx]
            exact gbA_bys hl _ _
      · rw [if_neg e]
        exact ⟨ha, ht, hb⟩
    · rw [if_neg h]
      exact ⟨ha, ht, hb⟩
theorem scanA_sound (l : List Int) (hl : Bys l) (hlen : l.length ≤ 8388608) : (scanA l).2 ≤ l.length ∧ l.take (scanA l).2 = packA (scanA l).1 ∧ ∀ x ∈ (scanA l).1, Bys x :=
  scanGo_sound l hl hlen l.length 0 [] (by omega) rfl (fun x h => by simp at h)
/-- Nothing that a record could begin with. -/
def Torn (t : List Int) : Prop := ∀ pre : List Int, Bys (pre ++ t) → (pre ++ t).length ≤ 8388608 → t = [] ∨ (gbA (pre ++ t) (pre.length : Int) 2147483647).2.2 ≠ 0
theorem torn_nil : Torn [] := fun _ _ _ => .inl rfl
theorem torn_take (q : List Int) (hq : q.length ≤ 2147483647) (m : Nat) (hm : m < (bytesA q).length) : Torn ((bytesA q).take m) := fun pre hb hlen => by
  refine .inr fun e => ?_
  obtain ⟨h1, h2, h3, h4, h5⟩ := gbA_sound hb (by omega) e
  obtain ⟨p, hp⟩ : ∃ p, (gbA (pre ++ (bytesA q).take m) (pre.length : Int) 2147483647).1 = p := ⟨_, rfl⟩
  rw [hp] at h3 h5
  rw [Int.toNat_natCast, List.drop_left] at h3
  have h6 : bytesA p ++ ((pre ++ (bytesA q).take m).drop (pre.length + (bytesA p).length) ++ (bytesA q).drop m) = bytesA q ++ [] := by
    rw [← List.append_assoc, ← h3, List.take_append_drop, List.append_nil]
  obtain ⟨_, h7⟩ := bytesA_inj (by omega) hq h6
  have := (List.append_eq_nil_iff.1 h7).2
  have := congrArg List.length this
  rw [List.length_drop] at this
  simp at this
  omega
theorem scanGo_pack (t : List Int) (ht : Torn t) (ls : List (List Int)) : ∀ (m : Nat) (pre : List Int) (acc : List (List Int)), ls.length ≤ m → (t ≠ [] → ls.length < m) → (∀ x ∈ ls, x.length ≤ 2147483647) → Bys (pre ++ (packA ls ++ t)) → (pre ++ (packA ls ++ t)).length ≤ 8388608 →
    scanGo (pre ++ (packA ls ++ t)) m pre.length acc = (acc ++ ls, (pre ++ packA ls).length) := by
  induction ls with
  | nil =>
    intro m pre acc hm hm2 hx hb hlen
    rw [packA_nil, List.nil_append] at hb hlen ⊢
    cases m with
    | zero => simp [scanGo]
    | succ m =>
      simp only [scanGo]
      rcases ht pre hb hlen with h | h
      · rw [h, if_neg (by simp)]; simp
      · rw [if_neg h]
        split <;> simp
  | cons p ls ih =>
    intro m pre acc hm hm2 hx hb hlen
    obtain ⟨m, rfl⟩ : ∃ k, m = k + 1 := ⟨m - 1, by simp at hm; omega⟩
    have hp := hx p (by simp)
    have hbp := bytesA_pos p
    rw [packA_cons, List.append_assoc] at hlen hb ⊢
    have hg := gbA_bytes pre p (packA ls ++ t) 2147483647 hp (by omega) (by omega)
    simp only [scanGo]
    rw [if_pos (by simp only [List.length_append]; omega), hg]
    simp only []
    rw [if_pos trivial, Int.toNat_natCast]
    have := ih m (pre ++ bytesA p) (acc ++ [p]) (by simp at hm; omega) (fun h => by have := hm2 h; simp at this; omega) (fun x h => hx x (by simp [h])) (by rw [List.append_assoc]; exact hb) (by rw [List.append_assoc]; exact hlen)
    rw [List.append_assoc, List.length_append] at this
    rw [this]
    simp [Nat.add_assoc]
theorem packA_count (ls : List (List Int)) : ls.length ≤ (packA ls).length := by
  induction ls with
  | nil => simp
  | cons p ls ih => have := bytesA_pos p; rw [packA_cons, List.length_append, List.length_cons]; omega
/-- Records, and something torn behind them. -/
theorem scanA_pack (ls : List (List Int)) (t : List Int) (ht : Torn t) (hx : ∀ x ∈ ls, x.length ≤ 2147483647) (hb : Bys (packA ls ++ t)) (hlen : (packA ls ++ t).length ≤ 8388608) : scanA (packA ls ++ t) = (ls, (packA ls).length) := by
  have hc := packA_count ls
  have := scanGo_pack t ht ls (packA ls ++ t).length [] [] (by rw [List.length_append]; omega) (fun h => by have := List.length_pos_iff.2 h; rw [List.length_append]; omega) hx (by simpa using hb) (by simpa using hlen)
  simpa [scanA] using this
end Go.Proofs.Ytkkgjbafncmohaa.Oct
