/-
  The numbers of layer 1 in plain Lean: what the program's and the document's Int, Bytes, Pack, Copy, SameList compute. Nothing of memory in it.
-/
import Derived.Test.YtnabilhcmplhcaaQx5
import Derived.Test.YtnabilhcmplhcaaQx6
import Derived.Test.YtnabilhcmplhcaaQx7
import Derived.Test.YtnabilhcmplhcaaBys
set_option linter.unusedVariables false
set_option linter.unusedSimpArgs false
namespace Go.Proofs.Ytnabilhcmplhcaa.Oct
open Go.RowKit Go.Proofs.Ytnabilhcmplhcaa.Q Go.Proofs.YtnabilhcmplhcaaW.PrintWords Go.Proofs.YtnabilhcmplhcaaW.PrintLast Go.Proofs.YtnabilhcmplhcaaW.PrintMore

/-! ### Two byte lists are one if their texts are -/
theorem str_inj {a b : List Int} (ha : Bys a) (hb : Bys b) (h : a.map (fun n => UInt8.ofNat n.toNat) = b.map (fun n => UInt8.ofNat n.toNat)) : a = b := by
  induction a generalizing b with
  | nil => cases b with
    | nil => rfl
    | cons y b => simp at h
  | cons x a ih => cases b with
    | nil => simp at h
    | cons y b =>
      simp only [List.map_cons, List.cons.injEq] at h
      obtain ⟨h1, h2⟩ := h
      have hx := ha x (by simp)
      have hy := hb y (by simp)
      have e : x.toNat % 256 = y.toNat % 256 := by have := congrArg UInt8.toNat h1; simpa using this
      rw [show x = y by omega, ih (fun z hz => ha z (by simp [hz])) (fun z hz => hb z (by simp [hz])) h2]
theorem toList_str (a : List Int) : (strOfNums a).toList = a.map (fun n => UInt8.ofNat n.toNat) := by
  rw [ByteArray.toList_eq]
  simp [strOfNums]
theorem same_iff {a b : List Int} (ha : Bys a) (hb : Bys b) : ((strOfNums a).toList == (strOfNums b).toList) = decide (a = b) := by
  rw [toList_str, toList_str]
  by_cases e : a = b
  · subst e; simp
  · rw [decide_eq_false e]
    exact beq_eq_false_iff_ne.2 fun h => e (str_inj ha hb h)
theorem w64 {x : Int} (h0 : -9223372036854775808 ≤ x) (h1 : x ≤ 9223372036854775807) : wrap64 x = x := by
  unfold wrap64
  omega
theorem wraps_i64 (n : Int) (h₀ : 0 ≤ n) (h₁ : n < 2 ^ 62) : IntKind.i64.wrap n = n := by rw [IntKind.wrap_i64]; omega
set_option maxRecDepth 10000 in
theorem or128_nat : ∀ a : Nat, a < 256 → (a ||| 128) = a % 128 + 128 := by decide
theorem or128 (x : Int) (h0 : 0 ≤ x) (h1 : x < 256) : bits .or .u8 x 128 = x % 128 + 128 := by
  obtain ⟨a, rfl⟩ := Int.eq_ofNat_of_zero_le h0
  have ha : a < 256 := by omega
  have h := (bits_nat .u8 8 (by decide) wraps_u8 a 128 (by omega) (by decide)).2
  have h' : bits .or .u8 (a : Int) 128 = ((a ||| 128 : Nat) : Int) := h
  rw [h', or128_nat a ha]
  omega
theorem and127 (x : Int) (h0 : 0 ≤ x) (h1 : x < 256) : bits .and .u8 x 127 = x % 128 := bits_mask .u8 8 (by decide) wraps_u8 7 (by decide) x h0 h1
/-- A group of seven bits above a number of fewer. -/
theorem or_group (i : Nat) (hi : i ≤ 4) (n c : Int) (hn : 0 ≤ n) (hn1 : n < 128 ^ i) (hc : 0 ≤ c) (hc1 : c < 128) : bits .or .i64 n (c * 128 ^ i) = n + c * 128 ^ i := by
  obtain ⟨a, rfl⟩ := Int.eq_ofNat_of_zero_le hn
  obtain ⟨b, rfl⟩ := Int.eq_ofNat_of_zero_le hc
  have hp : (128 : Nat) ^ i ≤ 268435456 := by
    have : (128 : Nat) ^ i ≤ 128 ^ 4 := Nat.pow_le_pow_right (by decide) hi
    simpa using this
  have e2 : (128 : Nat) ^ i = 2 ^ (7 * i) := by rw [Nat.pow_mul]
  have ha : a < 128 ^ i := by exact_mod_cast hn1
  have hb : b < 128 := by omega
  have hbm : b * 128 ^ i ≤ 127 * 128 ^ i := Nat.mul_le_mul_right _ (by omega)
  have h := (bits_nat .i64 62 (by decide) wraps_i64 a (b * 128 ^ i) (by omega) (by omega)).2
  have hcast : ((b : Int) * 128 ^ i) = ((b * 128 ^ i : Nat) : Int) := by simp
  rw [hcast, h]
  have ho : a ||| b * 128 ^ i = a + b * 128 ^ i := by
    rw [Nat.or_comm, e2, Nat.mul_comm b, ← Nat.two_pow_add_eq_or_of_lt (e2 ▸ ha) b, Nat.add_comm]
  rw [ho]
  simp

/-! ### A number's bytes -/
def encI (n : Nat) : List Int := if n < 128 then [(n : Int)] else ((n % 128 + 128 : Nat) : Int) :: encI (n / 128)
termination_by n
decreasing_by omega
theorem encI_small {n : Nat} (h : n < 128) : encI n = [(n : Int)] := by rw [encI, if_pos h]
theorem encI_big {n : Nat} (h : ¬ n < 128) : encI n = ((n % 128 + 128 : Nat) : Int) :: encI (n / 128) := by rw [encI, if_neg h]
theorem encI_bys (n : Nat) : Bys (encI n) := by
  induction n using Nat.strongRecOn with
  | _ n ih =>
    by_cases h : n < 128
    · rw [encI_small h]; exact Bys.cons (by omega) (by omega) Bys.nil
    · rw [encI_big h]; exact Bys.cons (by omega) (by omega) (ih _ (by omega))
theorem encI_pos (n : Nat) : 1 ≤ (encI n).length := by
  by_cases h : n < 128
  · rw [encI_small h]; simp
  · rw [encI_big h]; simp
/-- How many bytes. -/
theorem encI_len (i : Nat) : ∀ (n c : Nat), n < 128 ^ i → 0 < c → c < 128 → (encI (n + c * 128 ^ i)).length = i + 1 := by
  induction i with
  | zero =>
    intro n c hn hc hc1
    rw [encI_small (by simp at hn ⊢; omega)]
    simp
  | succ i ih =>
    intro n c hn hc hc1
    have hp : 128 ^ (i + 1) = 128 ^ i * 128 := Nat.pow_succ ..
    have h1 : 128 ^ i * 128 ≤ c * (128 ^ i * 128) := Nat.le_mul_of_pos_left _ hc
    have h0 : 0 < 128 ^ i := Nat.pow_pos (by decide)
    rw [hp] at hn ⊢
    have e : c * (128 ^ i * 128) = (c * 128 ^ i) * 128 := by rw [Nat.mul_assoc]
    rw [e] at h1 ⊢
    have h2 : 128 ^ i ≤ c * 128 ^ i := Nat.le_mul_of_pos_left _ hc
    rw [encI_big (by omega), show (n + c * 128 ^ i * 128) / 128 = n / 128 + c * 128 ^ i by omega, List.length_cons, ih (n / 128) c (by omega) hc hc1]
theorem encI_lt (i : Nat) : ∀ (n : Nat), n < 128 ^ (i + 1) → (encI n).length ≤ i + 1 := by
  induction i with
  | zero => intro n hn; rw [encI_small (by simpa using hn)]; simp
  | succ i ih =>
    intro n hn
    by_cases h : n < 128
    · rw [encI_small h]; simp
    · rw [encI_big h, List.length_cons]
      have := ih (n / 128) (by rw [Nat.pow_succ] at hn; omega)
      omega
theorem encI_five (n : Nat) (h : n ≤ 2147483647) : (encI n).length ≤ 5 := encI_lt 4 n (by simp; omega)

/-! ### octet.Int -/
theorem int_loop (n : Nat) : ∀ (k : Nat) (acc : List Int), (encI n).length < k → acc.length + (encI n).length < 140737488355328 → octet_Int.l0 k (n : Int) acc = some (acc ++ encI n, 0) := by
  induction n using Nat.strongRecOn with
  | _ n ih =>
    intro k acc hk ha
    obtain ⟨k, rfl⟩ : ∃ m, k = m + 1 := ⟨k - 1, by omega⟩
    by_cases h : n < 128
    · rw [encI_small h] at hk ha ⊢
      simp only [List.length_singleton] at hk ha
      simp only [octet_Int.l0]
      rw [if_neg (by omega), if_pos (by omega), show (n : Int) % 256 = n by omega]
    · rw [encI_big h, List.length_cons] at hk ha
      rw [encI_big h]
      simp only [octet_Int.l0]
      rw [if_pos (by omega), if_pos (by omega), or128 _ (by omega) (by omega), show (n : Int) / 128 = ((n / 128 : Nat) : Int) by omega,
        show ((n : Int) % 256) % 128 + 128 = ((n % 128 + 128 : Nat) : Int) by omega,
        ih (n / 128) (by omega) k (acc ++ [((n % 128 + 128 : Nat) : Int)]) (by omega) (by simp only [List.length_append, List.length_singleton]; omega)]
      simp
/-- What Int answers. -/
def intA (n : Int) : List Int × Int := if 0 ≤ n ∧ n ≤ 2147483647 then (encI n.toNat, 0) else ([], 14)
theorem intA_yes {n : Int} (h : 0 ≤ n ∧ n ≤ 2147483647) : intA n = (encI n.toNat, 0) := if_pos h
theorem intA_no {n : Int} (h : ¬ (0 ≤ n ∧ n ≤ 2147483647)) : intA n = ([], 14) := if_neg h
theorem intA_bys (n : Int) : Bys (intA n).1 := by
  unfold intA
  split
  · exact encI_bys _
  · exact Bys.nil
theorem intA_len (n : Int) : (intA n).1.length ≤ 5 := by
  unfold intA
  split
  · exact encI_five _ (by omega)
  · simp
theorem int_f (n : Int) : ∀ k, 8 ≤ k → octet_Int.f k n = some (intA n) := by
  intro k hk
  obtain ⟨k, rfl⟩ : ∃ m, k = m + 1 := ⟨k - 1, by omega⟩
  unfold octet_Int.f
  by_cases h : 0 ≤ n ∧ n ≤ 2147483647
  · rw [if_neg (by omega), decide_eq_false (by omega), intA_yes h]
    simp only [octet_Int.j0]
    rw [if_neg (by decide)]
    have h5 := encI_five n.toNat (by omega)
    have := int_loop n.toNat k [] (by omega) (by simp; omega)
    rw [show ((n.toNat : Nat) : Int) = n by omega] at this
    rw [this, List.nil_append]
  · rw [intA_no h]
    by_cases h0 : n < 0
    · rw [if_pos h0]; simp only [octet_Int.j0]; rw [if_pos trivial]
    · rw [if_neg h0, decide_eq_true (by omega)]; simp only [octet_Int.j0]; rw [if_pos trivial]
def decGo : Nat → Nat → List Int → Option (Nat × Nat)
  | _, _, [] => none
  | i, n, c :: t => if 5 ≤ i then none else if c < 128 then (if n + (c.toNat % 128) * 128 ^ i > 2147483647 ∨ (c = 0 ∧ 0 < i) then none else some (n + (c.toNat % 128) * 128 ^ i, i + 1)) else decGo (i + 1) (n + (c.toNat % 128) * 128 ^ i) t

theorem decGo_enc (n : Nat) : ∀ (i m : Nat) (t : List Int), m + n * 128 ^ i ≤ 2147483647 → (0 < n ∨ i = 0) → i + (encI n).length ≤ 5 → decGo i m (encI n ++ t) = some (m + n * 128 ^ i, i + (encI n).length) := by
  induction n using Nat.strongRecOn with
  | _ n ih =>
    intro i m t h1 h2 h3
    by_cases h : n < 128
    · rw [encI_small h] at h3 ⊢
      simp only [List.singleton_append, List.length_singleton] at h3 ⊢
      simp only [decGo]
      rw [if_neg (by omega), if_pos (by omega), show (n : Int).toNat % 128 = n by omega, if_neg (by omega)]
    · rw [encI_big h, List.length_cons] at h3
      rw [encI_big h, List.length_cons, List.cons_append]
      simp only [decGo]
      have e : n * 128 ^ i = (n % 128) * 128 ^ i + (n / 128) * 128 ^ (i + 1) := by
        rw [Nat.pow_succ, Nat.mul_comm (128 ^ i) 128, ← Nat.mul_assoc, ← Nat.add_mul, show n % 128 + n / 128 * 128 = n by omega]
      rw [if_neg (by omega), if_neg (by omega), show ((n % 128 + 128 : Nat) : Int).toNat % 128 = n % 128 by omega,
        ih (n / 128) (by omega) (i + 1) (m + (n % 128) * 128 ^ i) t (by omega) (by omega) (by omega), e]
      congr 2 <;> omega
theorem dec_enc (n : Nat) (hn : n ≤ 2147483647) (t : List Int) : decGo 0 0 (encI n ++ t) = some (n, (encI n).length) := by
  have := decGo_enc n 0 0 t (by simpa using hn) (.inr rfl) (by have := encI_five n hn; omega)
  simpa using this

theorem rdL_drop {ls : List (List Int)} {i : Nat} {c : List Int} {t : List (List Int)} (h : ls.drop i = c :: t) : rd_L2 ls (i : Int) = c ∧ i < ls.length ∧ ls.drop (i + 1) = t := by
  have hl : i < ls.length := by
    rcases Nat.lt_or_ge i ls.length with h' | h'
    · exact h'
    · rw [List.drop_eq_nil_of_le h'] at h; cases h
  rw [List.drop_eq_getElem_cons hl] at h
  injection h with h1 h2
  refine ⟨?_, hl, h2⟩
  simp [rd_L2, List.getD_eq_getElem?_getD, hl, h1]
theorem dropL_nil {ls : List (List Int)} {i : Nat} (h : ls.drop i = []) : ls.length ≤ i := by simpa using h
theorem nxt {i n : Nat} (h : i < n) (hn : n ≤ 9223372036854775807) : wrap64 ((i : Int) + 1) = ((i + 1 : Nat) : Int) := by rw [w64 (by omega) (by omega)]; omega

/-! ### Concat of two -/
theorem concat2 (a b : List Int) (h0 : 0 < a.length + b.length) (h1 : a.length + b.length < 140737488355328) : ∀ k, 8 ≤ k → slices_Concat_byte_byte.f k [a, b] = some (a ++ b) := by
  intro k hk
  obtain ⟨k, rfl⟩ : ∃ m, k = m + 8 := ⟨k - 8, by omega⟩
  have r0 : rd_L2 [a, b] 0 = a := rfl
  have r1 : rd_L2 [a, b] 1 = b := rfl
  have n1 : wrap64 ((0 : Int) + 1) = 1 := by rw [w64 (by omega) (by omega)]; rfl
  have n2 : wrap64 ((1 : Int) + 1) = 2 := by rw [w64 (by omega) (by omega)]; rfl
  have s1 : wrap64 (0 + (a.length : Int)) = a.length := by rw [w64 (by omega) (by omega)]; omega
  have s2 : wrap64 ((a.length : Int) + (b.length : Int)) = ((a.length + b.length : Nat) : Int) := by rw [w64 (by omega) (by omega)]; omega
  have g : slices_Grow_byte_byte.f [] ((a.length + b.length : Nat) : Int) = some [] := by
    unfold slices_Grow_byte_byte.f
    rw [if_pos rfl, if_pos (by omega), if_pos (by omega)]
  have l2 : (([a, b] : List (List Int)).length : Int) = 2 := rfl
  unfold slices_Concat_byte_byte.f
  rw [l2]
  simp only [slices_Concat_byte_byte.l0]
  rw [if_pos (by omega), if_pos (by omega), l2, if_pos (by omega), r0, s1, if_neg (by omega), n1]
  rw [if_pos (by omega), if_pos (by omega), if_pos (by omega), r1, s2, if_neg (by omega), n2]
  rw [if_neg (by omega), g]
  simp only [Option.bind_some, slices_Concat_byte_byte.l1]
  rw [if_pos (by omega), if_pos (by omega), l2, if_pos (by omega), r0, if_pos (by simp; omega), n1]
  rw [if_pos (by omega), if_pos (by omega), if_pos (by omega), r1, if_pos (by simp; omega), n2]
  rw [if_neg (by omega)]
  simp

/-! ### Bytes -/
def bytesA (p : List Int) : List Int := (intA p.length).1 ++ p
theorem bytesA_bys {p : List Int} (h : Bys p) : Bys (bytesA p) := Bys.append (intA_bys _) h
theorem bytesA_len (p : List Int) : (bytesA p).length ≤ p.length + 5 ∧ p.length ≤ (bytesA p).length := by
  have := intA_len p.length
  unfold bytesA
  rw [List.length_append]
  omega
theorem bytesA_pos (p : List Int) : 0 < (bytesA p).length := by
  unfold bytesA
  rw [List.length_append]
  by_cases h : p.length ≤ 2147483647
  · rw [intA_yes (by omega)]
    have := encI_pos (p.length : Int).toNat
    simp only []
    omega
  · omega
theorem bytes_f (p : List Int) (h : p.length ≤ 140737488351232) : ∀ k, 8 ≤ k → octet_Bytes.f k p = some (bytesA p) := by
  intro k hk
  unfold octet_Bytes.f
  rw [int_f _ k hk]
  have h5 := intA_len p.length
  have h1 := bytesA_pos p
  unfold bytesA at h1 ⊢
  rw [List.length_append] at h1
  simp only [Option.bind_some]
  rw [concat2 _ _ h1 (by omega) k hk]
  rfl
def packA (ls : List (List Int)) : List Int := (ls.map bytesA).flatten
theorem packA_nil : packA [] = [] := rfl
theorem packA_cons (p : List Int) (ls : List (List Int)) : packA (p :: ls) = bytesA p ++ packA ls := rfl
theorem packA_append (a b : List (List Int)) : packA (a ++ b) = packA a ++ packA b := by simp [packA]
theorem packA_bys {ls : List (List Int)} (h : ∀ x ∈ ls, Bys x) : Bys (packA ls) := by
  induction ls with
  | nil => exact Bys.nil
  | cons p ls ih => exact Bys.append (bytesA_bys (h p (by simp))) (ih fun x hx => h x (by simp [hx]))
/-- The sum of the parts' sizes. -/
def szL (ls : List (List Int)) : Nat := (ls.map fun x => x.length + 1).sum
theorem szL_cons (p : List Int) (ls : List (List Int)) : szL (p :: ls) = p.length + 1 + szL ls := by simp [szL]
theorem szL_len (ls : List (List Int)) : ls.length ≤ szL ls := by
  induction ls with
  | nil => simp [szL]
  | cons p ls ih => rw [szL_cons, List.length_cons]; omega
theorem szL_append (a b : List (List Int)) : szL (a ++ b) = szL a + szL b := by simp [szL]
theorem packA_len (ls : List (List Int)) : (packA ls).length ≤ 5 * szL ls := by
  induction ls with
  | nil => simp [packA_nil]
  | cons p ls ih =>
    have := bytesA_len p
    rw [packA_cons, szL_cons, List.length_append]
    omega
theorem szL_mem {p : List Int} {ls : List (List Int)} (h : p ∈ ls) : p.length < szL ls := by
  induction ls with
  | nil => cases h
  | cons q ls ih =>
    rw [szL_cons]
    rcases List.mem_cons.1 h with rfl | h
    · omega
    · have := ih h; omega
theorem pack_loop (ls : List (List Int)) (hs : szL ls ≤ 2097152) (d : Nat) : ∀ (k i : Nat) (acc : List Int), i + d = ls.length → d + 8 < k → acc.length + (packA (ls.drop i)).length < 140737488355328 →
    octet_Pack.l0 k acc ls (ls.length : Int) (i : Int) = some (acc ++ packA (ls.drop i)) := by
  induction d with
  | zero =>
    intro k i acc hi hk ha
    obtain ⟨k, rfl⟩ : ∃ m, k = m + 1 := ⟨k - 1, by omega⟩
    simp only [octet_Pack.l0]
    rw [if_neg (by omega), List.drop_eq_nil_of_le (by omega), packA_nil, List.append_nil]
  | succ d ih =>
    intro k i acc hi hk ha
    obtain ⟨k, rfl⟩ : ∃ m, k = m + 1 := ⟨k - 1, by omega⟩
    cases hd : ls.drop i with
    | nil => have := dropL_nil hd; omega
    | cons p t =>
      obtain ⟨hr, hlt, ht⟩ := rdL_drop hd
      have hm : p ∈ ls := List.mem_of_mem_drop (by rw [hd]; simp)
      have hp := szL_mem hm
      have hl := szL_len ls
      rw [hd, packA_cons, List.length_append] at ha
      simp only [octet_Pack.l0]
      rw [if_pos (by omega), if_pos (by omega), if_pos (by omega), hr, bytes_f p (by omega) k (by omega)]
      simp only [Option.bind_some]
      rw [if_pos (by omega), nxt hlt (by omega), ih k (i + 1) (acc ++ bytesA p) (by omega) (by omega) (by rw [ht, List.length_append]; omega), ht, packA_cons, List.append_assoc]
theorem pack_f (ls : List (List Int)) (hs : szL ls ≤ 2097152) : ∀ k, ls.length + 9 ≤ k → octet_Pack.f k ls = some (packA ls) := by
  intro k hk
  have h1 := packA_len ls
  have := pack_loop ls hs ls.length k 0 [] (by omega) (by omega) (by rw [List.drop_zero]; simp; omega)
  unfold octet_Pack.f
  rw [List.drop_zero, List.nil_append] at this
  exact this
theorem bytesA_inj {p q r t : List Int} (hp : p.length ≤ 2147483647) (hq : q.length ≤ 2147483647) (h : bytesA p ++ r = bytesA q ++ t) : p = q ∧ r = t := by
  unfold bytesA at h
  rw [intA_yes (by omega), intA_yes (by omega)] at h
  simp only [Int.toNat_natCast, List.append_assoc] at h
  have h1 := dec_enc p.length hp (p ++ r)
  have h2 := dec_enc q.length hq (q ++ t)
  rw [h] at h1
  rw [h1] at h2
  simp only [Option.some.injEq, Prod.mk.injEq] at h2
  have hl : p.length = q.length := h2.1
  rw [hl] at h
  exact List.append_inj (List.append_cancel_left h) hl
end Go.Proofs.Ytnabilhcmplhcaa.Oct
