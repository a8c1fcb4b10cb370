/-
  The numbers of layer 1 in plain Lean: what the program's and the document's Int and GetInt compute. Nothing of memory in it.
-/
import Derived.Test.YtkkgjbafncmohaaQx2
import Derived.Test.YtkkgjbafncmohaaQx5
import Derived.Test.YtkkgjbafncmohaaQx7
import Derived.Test.YtkkgjbafncmohaaQx9
import Derived.Test.YtkkgjbafncmohaaBys
set_option linter.unusedVariables false
set_option linter.unusedSimpArgs false
namespace Go.Proofs.Ytkkgjbafncmohaa.Oct
open Go.RowKit Go.Proofs.Ytkkgjbafncmohaa.Q Go.Proofs.YtkkgjbafncmohaaW.PrintWords Go.Proofs.YtkkgjbafncmohaaW.PrintLast Go.Proofs.YtkkgjbafncmohaaW.PrintMore

/-! ### Two byte lists are one if their texts are -/
theorem str_inj {a b : List Int} (ha : Bys a) (hb : Bys b) (h : a.map (fun n => UInt8.ofNat n.toNat) = b.map (fun n => UInt8.ofNat n.toNat)) : a = b := by
  induction a generalizing b with
  | nil => cases b with
    | nil => rfl
    | cons y b => simp at h
  | cons x a ih => cases b with
    | nil => simp at h
    | cons y b =>
      simp only [List.map_cons, List.cons.injEq] at h
      obtain ⟨h1, h2⟩ := h
      have hx := ha x (by simp)
      have hy := hb y (by simp)
      have e : x.toNat % 256 = y.toNat % 256 := by have := congrArg UInt8.toNat h1; simpa using this
      rw [show x = y by omega, ih (fun z hz => ha z (by simp [hz])) (fun z hz => hb z (by simp [hz])) h2]
theorem toList_str (a : List Int) : (strOfNums a).toList = a.map (fun n => UInt8.ofNat n.toNat) := by
  rw [ByteArray.toList_eq]
  simp [strOfNums]
theorem same_iff {a b : List Int} (ha : Bys a) (hb : Bys b) : ((strOfNums a).toList == (strOfNums b).toList) = decide (a = b) := by
  rw [toList_str, toList_str]
  by_cases e : a = b
  · subst e; simp
  · rw [decide_eq_false e]
    exact beq_eq_false_iff_ne.2 fun h => e (str_inj ha hb h)
theorem same_f {a b : List Int} (ha : Bys a) (hb : Bys b) : catenaryref01_Same.f a b = some (decide (a = b)) := by
  unfold catenaryref01_Same.f
  rw [same_iff ha hb]
theorem same_self (a : List Int) : catenaryref01_Same.f a a = some true := by
  unfold catenaryref01_Same.f
  simp

/-! ### wrap64 and the bits -/
theorem w64 {x : Int} (h0 : -9223372036854775808 ≤ x) (h1 : x ≤ 9223372036854775807) : wrap64 x = x := by
  unfold wrap64
  omega
theorem wraps_i64 (n : Int) (h₀ : 0 ≤ n) (h₁ : n < 2 ^ 62) : IntKind.i64.wrap n = n := by rw [IntKind.wrap_i64]; omega
set_option maxRecDepth 10000 in
theorem or128_nat : ∀ a : Nat, a < 256 → (a ||| 128) = a % 128 + 128 := by decide
theorem or128 (x : Int) (h0 : 0 ≤ x) (h1 : x < 256) : bits .or .u8 x 128 = x % 128 + 128 := by
  obtain ⟨a, rfl⟩ := Int.eq_ofNat_of_zero_le h0
  have ha : a < 256 := by omega
  have h := (bits_nat .u8 8 (by decide) wraps_u8 a 128 (by omega) (by decide)).2
  have h' : bits .or .u8 (a : Int) 128 = ((a ||| 128 : Nat) : Int) := h
  rw [h', or128_nat a ha]
  omega
theorem and127 (x : Int) (h0 : 0 ≤ x) (h1 : x < 256) : bits .and .u8 x 127 = x % 128 := bits_mask .u8 8 (by decide) wraps_u8 7 (by decide) x h0 h1
/-- A group of seven bits above a number of fewer. -/
theorem or_group (i : Nat) (hi : i ≤ 4) (n c : Int) (hn : 0 ≤ n) (hn1 : n < 128 ^ i) (hc : 0 ≤ c) (hc1 : c < 128) : bits .or .i64 n (c * 128 ^ i) = n + c * 128 ^ i := by
  obtain ⟨a, rfl⟩ := Int.eq_ofNat_of_zero_le hn
  obtain ⟨b, rfl⟩ := Int.eq_ofNat_of_zero_le hc
  have hp : (128 : Nat) ^ i ≤ 268435456 := by
    have : (128 : Nat) ^ i ≤ 128 ^ 4 := Nat.pow_le_pow_right (by decide) hi
    simpa using this
  have e2 : (128 : Nat) ^ i = 2 ^ (7 * i) := by rw [Nat.pow_mul]
  have ha : a < 128 ^ i := by exact_mod_cast hn1
  have hb : b < 128 := by omega
  have hbm : b * 128 ^ i ≤ 127 * 128 ^ i := Nat.mul_le_mul_right _ (by omega)
  have h := (bits_nat .i64 62 (by decide) wraps_i64 a (b * 128 ^ i) (by omega) (by omega)).2
  have hcast : ((b : Int) * 128 ^ i) = ((b * 128 ^ i : Nat) : Int) := by simp
  rw [hcast, h]
  have ho : a ||| b * 128 ^ i = a + b * 128 ^ i := by
    rw [Nat.or_comm, e2, Nat.mul_comm b, ← Nat.two_pow_add_eq_or_of_lt (e2 ▸ ha) b, Nat.add_comm]
  rw [ho]
  simp

/-! ### A number's bytes -/
def encI (n : Nat) : List Int := if n < 128 then [(n : Int)] else ((n % 128 + 128 : Nat) : Int) :: encI (n / 128)
termination_by n
decreasing_by omega
theorem encI_small {n : Nat} (h : n < 128) : encI n = [(n : Int)] := by rw [encI, if_pos h]
theorem encI_big {n : Nat} (h : ¬ n < 128) : encI n = ((n % 128 + 128 : Nat) : Int) :: encI (n / 128) := by rw [encI, if_neg h]
theorem encI_bys (n : Nat) : Bys (encI n) := by
  induction n using Nat.strongRecOn with
  | _ n ih =>
    by_cases h : n < 128
    · rw [encI_small h]; exact Bys.cons (by omega) (by omega) Bys.nil
    · rw [encI_big h]; exact Bys.cons (by omega) (by omega) (ih _ (by omega))
theorem encI_pos (n : Nat) : 1 ≤ (encI n).length := by
  by_cases h : n < 128
  · rw [encI_small h]; simp
  · rw [encI_big h]; simp
/-- How many bytes. -/
theorem encI_len (i : Nat) : ∀ (n c : Nat), n < 128 ^ i → 0 < c → c < 128 → (encI (n + c * 128 ^ i)).length = i + 1 := by
  induction i with
  | zero =>
    intro n c hn hc hc1
    rw [encI_small (by simp at hn ⊢; omega)]
    simp
  | succ i ih =>
    intro n c hn hc hc1
    have hp : 128 ^ (i + 1) = 128 ^ i * 128 := Nat.pow_succ ..
    have h1 : 128 ^ i * 128 ≤ c * (128 ^ i * 128) := Nat.le_mul_of_pos_left _ hc
    have h0 : 0 < 128 ^ i := Nat.pow_pos (by decide)
    rw [hp] at hn ⊢
    have e : c * (128 ^ i * 128) = (c * 128 ^ i) * 128 := by rw [Nat.mul_assoc]
    rw [e] at h1 ⊢
    have h2 : 128 ^ i ≤ c * 128 ^ i := Nat.le_mul_of_pos_left _ hc
    rw [encI_big (by omega), show (n + c * 128 ^ i * 128) / 128 = n / 128 + c * 128 ^ i by omega, List.length_cons, ih (n / 128) c (by omega) hc hc1]
theorem encI_lt (i : Nat) : ∀ (n : Nat), n < 128 ^ (i + 1) → (encI n).length ≤ i + 1 := by
  induction i with
  | zero => intro n hn; rw [encI_small (by simpa using hn)]; simp
  | succ i ih =>
    intro n hn
    by_cases h : n < 128
    · rw [encI_small h]; simp
    · rw [encI_big h, List.length_cons]
      have := ih (n / 128) (by rw [Nat.pow_succ] at hn; omega)
      omega
theorem encI_five (n : Nat) (h : n ≤ 2147483647) : (encI n).length ≤ 5 := encI_lt 4 n (by simp; omega)

/-! ### octet.Int -/
theorem int_loop (n : Nat) : ∀ (k : Nat) (acc : List Int), (encI n).length < k → acc.length + (encI n).length < 140737488355328 → octet_Int.l0 k (n : Int) acc = some (acc ++ encI n, 0) := by
  induction n using Nat.strongRecOn with
  | _ n ih =>
    intro k acc hk ha
    obtain ⟨k, rfl⟩ : ∃ m, k = m + 1 := ⟨k - 1, by omega⟩
    by_cases h : n < 128
    · rw [encI_small h] at hk ha ⊢
      simp only [List.length_singleton] at hk ha
      simp only [octet_Int.l0]
      rw [if_neg (by omega), if_pos (by omega), show (n : Int) % 256 = n by omega]
    · rw [encI_big h, List.length_cons] at hk ha
      rw [encI_big h]
      simp only [octet_Int.l0]
      rw [if_pos (by omega), if_pos (by omega), or128 _ (by omega) (by omega), show (n : Int) / 128 = ((n / 128 : Nat) : Int) by omega,
        show ((n : Int) % 256) % 128 + 128 = ((n % 128 + 128 : Nat) : Int) by omega,
        ih (n / 128) (by omega) k (acc ++ [((n % 128 + 128 : Nat) : Int)]) (by omega) (by simp only [List.length_append, List.length_singleton]; omega)]
      simp
/-- What Int answers. -/
def intA (n : Int) : List Int × Int := if 0 ≤ n ∧ n ≤ 2147483647 then (encI n.toNat, 0) else ([], 14)
theorem intA_yes {n : Int} (h : 0 ≤ n ∧ n ≤ 2147483647) : intA n = (encI n.toNat, 0) := if_pos h
theorem intA_no {n : Int} (h : ¬ (0 ≤ n ∧ n ≤ 2147483647)) : intA n = ([], 14) := if_neg h
theorem intA_bys (n : Int) : Bys (intA n).1 := by
  unfold intA
  split
  · exact encI_bys _
  · exact Bys.nil
theorem intA_len (n : Int) : (intA n).1.length ≤ 5 := by
  unfold intA
  split
  · exact encI_five _ (by omega)
  · simp
theorem int_f (n : Int) : ∀ k, 8 ≤ k → octet_Int.f k n = some (intA n) := by
  intro k hk
  obtain ⟨k, rfl⟩ : ∃ m, k = m + 1 := ⟨k - 1, by omega⟩
  unfold octet_Int.f
  by_cases h : 0 ≤ n ∧ n ≤ 2147483647
  · rw [if_neg (by omega), decide_eq_false (by omega), intA_yes h]
    simp only [octet_Int.j0]
    rw [if_neg (by decide)]
    have h5 := encI_five n.toNat (by omega)
    have := int_loop n.toNat k [] (by omega) (by simp; omega)
    rw [show ((n.toNat : Nat) : Int) = n by omega] at this
    rw [this, List.nil_append]
  · rw [intA_no h]
    by_cases h0 : n < 0
    · rw [if_pos h0]; simp only [octet_Int.j0]; rw [if_pos trivial]
    · rw [if_neg h0, decide_eq_true (by omega)]; simp only [octet_Int.j0]; rw [if_pos trivial]
theorem rint_f (m : Nat) : ∀ (n : Int), n.toNat < 128 ^ m → ∀ k, 2 * m + 4 ≤ k → n ≤ 2147483647 → 0 ≤ n → catenaryref01_Int.f k n = some (encI n.toNat, 0) := by
  induction m with
  | zero =>
    intro n hn k hk h1 h0
    obtain ⟨k, rfl⟩ : ∃ m, k = m + 2 := ⟨k - 2, by omega⟩
    simp only [catenaryref01_Int.f]
    rw [if_neg (by omega), decide_eq_false (by omega)]
    simp only [catenaryref01_Int.j0]
    simp only [Nat.pow_zero] at hn
    rw [if_neg (by decide), if_pos (by omega), encI_small (by omega), show n % 256 = ((n.toNat : Nat) : Int) by omega]
  | succ m ih =>
    intro n hn k hk h1 h0
    obtain ⟨k, rfl⟩ : ∃ m, k = m + 2 := ⟨k - 2, by omega⟩
    simp only [catenaryref01_Int.f]
    rw [if_neg (by omega), decide_eq_false (by omega)]
    simp only [catenaryref01_Int.j0]
    rw [if_neg (by decide)]
    by_cases h : n < 128
    · rw [if_pos h, encI_small (by omega), show n % 256 = ((n.toNat : Nat) : Int) by omega]
    · have e1 : Int.tdiv n 128 = n / 128 := Int.tdiv_eq_ediv_of_nonneg h0
      have e2 : Int.tmod n 128 = n % 128 := Int.tmod_eq_emod_of_nonneg h0
      have e3 : (n / 128).toNat = n.toNat / 128 := by omega
      rw [if_neg h, e1, w64 (by omega) (by omega), ih (n / 128) (by rw [Nat.pow_succ] at hn; omega) k (by omega) (by omega) (by omega)]
      have h5 := encI_five (n / 128).toNat (by omega)
      simp only [Option.bind_some]
      rw [if_pos (by simp only [List.length_singleton]; omega), e2, w64 (x := n % 128 + 128) (by omega) (by omega), encI_big (n := n.toNat) (by omega), e3, show (n % 128 + 128) % 256 = ((n.toNat % 128 + 128 : Nat) : Int) by omega]
      rfl
theorem rintA_f (n : Int) : ∀ k, 14 ≤ k → catenaryref01_Int.f k n = some (intA n) := by
  intro k hk
  by_cases h : 0 ≤ n ∧ n ≤ 2147483647
  · rw [intA_yes h]
    exact rint_f 5 n (by simp; omega) k (by omega) h.2 h.1
  · rw [intA_no h]
    obtain ⟨k, rfl⟩ : ∃ m, k = m + 2 := ⟨k - 2, by omega⟩
    simp only [catenaryref01_Int.f]
    by_cases h0 : n < 0
    · rw [if_pos h0]; simp only [catenaryref01_Int.j0]; rw [if_pos trivial]
    · rw [if_neg h0, decide_eq_true (by omega)]; simp only [catenaryref01_Int.j0]; rw [if_pos trivial]

/-! ### GetInt: byte by byte; i: how many were read; n: what they came to -/
def decGo : Nat → Nat → List Int → Option (Nat × Nat)
  | _, _, [] => none
  | i, n, c :: t => if 5 ≤ i then none else if c < 128 then (if n + (c.toNat % 128) * 128 ^ i > 2147483647 ∨ (c = 0 ∧ 0 < i) then none else some (n + (c.toNat % 128) * 128 ^ i, i + 1)) else decGo (i + 1) (n + (c.toNat % 128) * 128 ^ i) t
/-- What GetInt answers. -/
def getA (l : List Int) (at_ : Int) : Int × Int × Int :=
  if 0 ≤ at_ ∧ at_ ≤ l.length then (match decGo 0 0 (l.drop at_.toNat) with | none => (0, 0, 11) | some (n, c) => ((n : Int), at_ + c, 0)) else (0, 0, 11)
theorem decGo_take (m : Nat) : ∀ (i n : Nat) (l : List Int), i + m = 5 → decGo i n (l.take m) = decGo i n l := by
  induction m with
  | zero =>
    intro i n l h
    cases l with
    | nil => rfl
    | cons c t => simp only [List.take_zero, decGo]; rw [if_pos (by omega)]
  | succ m ih =>
    intro i n l h
    cases l with
    | nil => rfl
    | cons c t => simp only [List.take_succ_cons, decGo]; rw [ih (i + 1) _ t (by omega)]
theorem rd_drop {l : List Int} {i : Nat} {c : Int} {t : List Int} (h : l.drop i = c :: t) : rd l (i : Int) = c ∧ i < l.length ∧ l.drop (i + 1) = t := by
  have hl : i < l.length := by
    rcases Nat.lt_or_ge i l.length with h' | h'
    · exact h'
    · rw [List.drop_eq_nil_of_le h'] at h; cases h
  rw [List.drop_eq_getElem_cons hl] at h
  injection h with h1 h2
  refine ⟨?_, hl, h2⟩
  simp [rd, List.getD_eq_getElem?_getD, hl, h1]
theorem drop_nil_len {l : List Int} {i : Nat} (h : l.drop i = []) : l.length ≤ i := by simpa using h
theorem pow128_le {i : Nat} (hi : i ≤ 4) : (128 : Nat) ^ i ≤ 268435456 := by
  have : (128 : Nat) ^ i ≤ 128 ^ 4 := Nat.pow_le_pow_right (by decide) hi
  simpa using this
theorem group_shl (i : Nat) (hi : i ≤ 4) (c : Int) (h0 : 0 ≤ c) (h1 : c < 256) : shl .i64 (wrap64 (Go.bits .and .u8 c 127)) (7 * (i : Int)) = (c % 128) * 128 ^ i := by
  unfold shl
  have e2 : (128 : Int) ^ i = 2 ^ (7 * i) := by rw [Int.pow_mul]; rfl
  have hp := pow128_le hi
  have hb : (c % 128) * 128 ^ i ≤ 127 * 128 ^ i := Int.mul_le_mul_of_nonneg_right (by omega) (Int.pow_nonneg (by decide))
  have hb0 : 0 ≤ (c % 128) * 128 ^ i := Int.mul_nonneg (by omega) (Int.pow_nonneg (by decide))
  have hc : ((128 ^ i : Nat) : Int) = (128 : Int) ^ i := by simp
  rw [and127 c h0 h1, w64 (by omega) (by omega), show (7 * (i : Int)).toNat = 7 * i by omega, Nat.min_eq_left (by simp [IntKind.bits]; omega), ← e2]
  exact wraps_i64 _ hb0 (by omega)
theorem get_loop (m : Nat) : ∀ (k i n : Nat) (y : List Int) (a : Int), Bys y → y.length ≤ 5 → i + m = 6 → m < k → n < 128 ^ i → 0 ≤ a → a ≤ 4611686018427387904 → 
    octet_GetInt.l0 k a (n : Int) y (y.length : Int) (i : Int) = some (match decGo i n (y.drop i) with | none => (0, 0, 11) | some (n, c) => ((n : Int), a + c, 0)) := by
  induction m with
  | zero =>
    intro k i n y a hy hl hi hk hn ha0 ha1
    obtain ⟨k, rfl⟩ : ∃ m, k = m + 1 := ⟨k - 1, by omega⟩
    rw [List.drop_eq_nil_of_le (by omega)]
    simp only [octet_GetInt.l0, decGo]
    rw [if_neg (by omega)]
  | succ m ih =>
    intro k i n y a hy hl hi hk hn ha0 ha1
    obtain ⟨k, rfl⟩ : ∃ m, k = m + 1 := ⟨k - 1, by omega⟩
    cases hd : y.drop i with
    | nil =>
      have := drop_nil_len hd
      simp only [octet_GetInt.l0, decGo]
      rw [if_neg (by omega)]
    | cons c t =>
      obtain ⟨hc, hlt, ht⟩ := rd_drop hd
      have hb := hy c (by have : c ∈ y.drop i := by rw [hd]; simp
                          exact List.mem_of_mem_drop this)
      have hi4 : i ≤ 4 := by omega
      have e7 : wrap64 (7 * (i : Int)) = 7 * (i : Int) := w64 (by omega) (by omega)
      have hcast : ((n : Int) < 128 ^ i) := by exact_mod_cast hn
      have hcm : (c % 128) = ((c.toNat % 128 : Nat) : Int) := by omega
      have e8 : Go.bits .or .i64 (n : Int) (shl .i64 (wrap64 (Go.bits .and .u8 c 127)) (7 * (i : Int))) = ((n + (c.toNat % 128) * 128 ^ i : Nat) : Int) := by
        rw [group_shl i hi4 c hb.1 (by omega), or_group i hi4 (n : Int) (c % 128) (by omega) hcast (by omega) (by omega), hcm]
        simp
      have hnext : n + (c.toNat % 128) * 128 ^ i < 128 ^ (i + 1) := by
        have : (c.toNat % 128) * 128 ^ i ≤ 127 * 128 ^ i := Nat.mul_le_mul_right _ (by omega)
        rw [Nat.pow_succ]
        omega
      simp only [octet_GetInt.l0, decGo]
      rw [if_pos (by omega), if_pos (by omega), if_pos (by omega), e7, if_pos (by omega), hc, e8]
      rw [if_neg (show ¬ 5 ≤ i by omega)]
      by_cases h1 : c < 128
      · rw [if_pos h1, if_pos h1]
        by_cases h2 : n + (c.toNat % 128) * 128 ^ i > 2147483647
        · rw [if_pos (by omega), if_pos (.inl h2)]
        · rw [if_neg (by omega)]
          have e9 : wrap64 (wrap64 (a + (i : Int)) + 1) = a + ((i + 1 : Nat) : Int) := by rw [w64 (x := a + (i : Int)) (by omega) (by omega), w64 (by omega) (by omega)]; omega
          by_cases h3 : c = 0
          · rw [if_pos h3]
            by_cases h4 : 0 < i
            · rw [if_pos (by omega), if_pos (.inr ⟨h3, h4⟩)]
            · rw [if_neg (by omega), if_neg (by omega), e9]
          · rw [if_neg h3, if_neg (by omega), e9]
      · rw [if_neg h1, if_neg h1, w64 (by omega) (by omega)]
        have := ih k (i + 1) (n + (c.toNat % 128) * 128 ^ i) y a hy hl (by omega) (by omega) hnext ha0 ha1
        rw [ht, show ((i + 1 : Nat) : Int) = (i : Int) + 1 by omega] at this
        exact this
theorem get_f (l : List Int) (a : Int) (hl : Bys l) (hlen : l.length ≤ 140737488355328) : ∀ k, 10 ≤ k → octet_GetInt.f k l a = some (getA l a) := by
  intro k hk
  obtain ⟨k, rfl⟩ : ∃ m, k = m + 1 := ⟨k - 1, by omega⟩
  unfold octet_GetInt.f getA
  by_cases h : 0 ≤ a ∧ a ≤ l.length
  · obtain ⟨a, rfl⟩ := Int.eq_ofNat_of_zero_le h.1
    rw [if_neg (by omega), decide_eq_false (by omega), if_pos h]
    simp only [octet_GetInt.j0]
    have e5 : wrap64 ((a : Int) + 5) = (a : Int) + 5 := w64 (by omega) (by omega)
    have em : mn (l.length : Int) ((a : Int) + 5) = ((min l.length (a + 5) : Nat) : Int) := by unfold mn; split <;> omega
    rw [if_neg (by decide), e5, em, if_pos (by omega), if_pos (by omega), if_pos (by omega)]
    simp only [Option.bind_some, Int.toNat_natCast]
    have ey : (l.take (min l.length (a + 5))).drop a = (l.drop a).take 5 := by
      rw [List.drop_take]
      rcases Nat.le_total (a + 5) l.length with h' | h'
      · rw [Nat.min_eq_right h', show a + 5 - a = 5 by omega]
      · rw [Nat.min_eq_left h', List.take_of_length_le (by simp), List.take_of_length_le (by simp; omega)]
    rw [ey]
    have := get_loop 6 k 0 0 ((l.drop a).take 5) (a : Int) ((hl.drop a).take 5) (by simp; omega) (by omega) (by omega) (by simp) (by omega) (by omega)
    rw [List.drop_zero, decGo_take 5 0 0 (l.drop a) (by omega)] at this
    exact this
  · rw [if_neg h]
    by_cases h0 : a < 0
    · rw [if_pos h0]; simp only [octet_GetInt.j0]; rw [if_pos trivial]
    · rw [if_neg h0, decide_eq_true (by omega)]; simp only [octet_GetInt.j0]; rw [if_pos trivial]
end Go.Proofs.Ytkkgjbafncmohaa.Oct
