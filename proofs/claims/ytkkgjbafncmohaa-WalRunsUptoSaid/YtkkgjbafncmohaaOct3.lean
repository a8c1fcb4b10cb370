/-
  The texts of layer 1 in plain Lean: what Bytes, GetBytes, Pack, Unpack, Copy and SameList compute, the program's and the document's.
-/
import Derived.Test.YtkkgjbafncmohaaOct2
import Derived.Test.YtkkgjbafncmohaaQx10
import Derived.Test.YtkkgjbafncmohaaQx11
import Derived.Test.YtkkgjbafncmohaaQx12
import Derived.Test.YtkkgjbafncmohaaQx3
import Derived.Test.YtkkgjbafncmohaaQx6
import Derived.Test.YtkkgjbafncmohaaQx9
set_option linter.unusedVariables false
set_option linter.unusedSimpArgs false
namespace Go.Proofs.Ytkkgjbafncmohaa.Oct
open Go.RowKit Go.Proofs.Ytkkgjbafncmohaa.Q Go.Proofs.YtkkgjbafncmohaaW.PrintWords Go.Proofs.YtkkgjbafncmohaaW.PrintLast Go.Proofs.YtkkgjbafncmohaaW.PrintMore

theorem rdL_drop {ls : List (List Int)} {i : Nat} {c : List Int} {t : List (List Int)} (h : ls.drop i = c :: t) : rd_L1 ls (i : Int) = c ∧ i < ls.length ∧ ls.drop (i + 1) = t := by
  have hl : i < ls.length := by
    rcases Nat.lt_or_ge i ls.length with h' | h'
    · exact h'
    · rw [List.drop_eq_nil_of_le h'] at h; cases h
  rw [List.drop_eq_getElem_cons hl] at h
  injection h with h1 h2
  refine ⟨?_, hl, h2⟩
  simp [rd_L1, List.getD_eq_getElem?_getD, hl, h1]
theorem dropL_nil {ls : List (List Int)} {i : Nat} (h : ls.drop i = []) : ls.length ≤ i := by simpa using h
theorem nxt {i n : Nat} (h : i < n) (hn : n ≤ 9223372036854775807) : wrap64 ((i : Int) + 1) = ((i + 1 : Nat) : Int) := by rw [w64 (by omega) (by omega)]; omega

/-! ### Concat of two -/
theorem concat2 (a b : List Int) (h0 : 0 < a.length + b.length) (h1 : a.length + b.length < 140737488355328) : ∀ k, 8 ≤ k → slices_Concat_byte_byte.f k [a, b] = some (a ++ b) := by
  intro k hk
  obtain ⟨k, rfl⟩ : ∃ m, k = m + 8 := ⟨k - 8, by omega⟩
  have r0 : rd_L1 [a, b] 0 = a := rfl
  have r1 : rd_L1 [a, b] 1 = b := rfl
  have n1 : wrap64 ((0 : Int) + 1) = 1 := by rw [w64 (by omega) (by omega)]; rfl
  have n2 : wrap64 ((1 : Int) + 1) = 2 := by rw [w64 (by omega) (by omega)]; rfl
  have s1 : wrap64 (0 + (a.length : Int)) = a.length := by rw [w64 (by omega) (by omega)]; omega
  have s2 : wrap64 ((a.length : Int) + (b.length : Int)) = ((a.length + b.length : Nat) : Int) := by rw [w64 (by omega) (by omega)]; omega
  have g : slices_Grow_byte_byte.f [] ((a.length + b.length : Nat) : Int) = some [] := by
    unfold slices_Grow_byte_byte.f
    rw [if_pos rfl, if_pos (by omega), if_pos (by omega)]
  have l2 : (([a, b] : List (List Int)).length : Int) = 2 := rfl
  unfold slices_Concat_byte_byte.f
  rw [l2]
  simp only [slices_Concat_byte_byte.l0]
  rw [if_pos (by omega), if_pos (by omega), l2, if_pos (by omega), r0, s1, if_neg (by omega), n1]
  rw [if_pos (by omega), if_pos (by omega), if_pos (by omega), r1, s2, if_neg (by omega), n2]
  rw [if_neg (by omega), g]
  simp only [Option.bind_some, slices_Concat_byte_byte.l1]
  rw [if_pos (by omega), if_pos (by omega), l2, if_pos (by omega), r0, if_pos (by simp; omega), n1]
  rw [if_pos (by omega), if_pos (by omega), if_pos (by omega), r1, if_pos (by simp; omega), n2]
  rw [if_neg (by omega)]
  simp

/-! ### Bytes -/
def bytesA (p : List Int) : List Int := (intA p.length).1 ++ p
theorem bytesA_bys {p : List Int} (h : Bys p) : Bys (bytesA p) := Bys.append (intA_bys _) h
theorem bytesA_len (p : List Int) : (bytesA p).length ≤ p.length + 5 ∧ p.length ≤ (bytesA p).length := by
  have := intA_len p.length
  unfold bytesA
  rw [List.length_append]
  omega
theorem bytesA_pos (p : List Int) : 0 < (bytesA p).length := by
  unfold bytesA
  rw [List.length_append]
  by_cases h : p.length ≤ 2147483647
  · rw [intA_yes (by omega)]
    have := encI_pos (p.length : Int).toNat
    simp only []
    omega
  · omega
theorem bytes_f (p : List Int) (h : p.length ≤ 140737488351232) : ∀ k, 8 ≤ k → octet_Bytes.f k p = some (bytesA p) := by
  intro k hk
  unfold octet_Bytes.f
  rw [int_f _ k hk]
  have h5 := intA_len p.length
  have h1 := bytesA_pos p
  unfold bytesA at h1 ⊢
  rw [List.length_append] at h1
  simp only [Option.bind_some]
  rw [concat2 _ _ h1 (by omega) k hk]
  rfl
theorem rbytes_f (p : List Int) (h : p.length ≤ 140737488351232) : ∀ k, 14 ≤ k → catenaryref01_Bytes.f k p = some (bytesA p) := by
  intro k hk
  unfold catenaryref01_Bytes.f
  rw [rintA_f _ k hk]
  have h5 := intA_len p.length
  simp only [Option.bind_some]
  rw [if_pos (by omega)]
  rfl

/-! ### GetBytes -/
def gbA (l : List Int) (a most : Int) : List Int × Int × Int :=
  if (getA l a).2.2 = 0 ∧ (getA l a).1 ≤ most ∧ (getA l a).1 ≤ l.length - (getA l a).2.1 then ((l.take ((getA l a).2.1 + (getA l a).1).toNat).drop (getA l a).2.1.toNat, (getA l a).2.1 + (getA l a).1, 0) else ([], 0, 11)
theorem getA_ok {l : List Int} {a : Int} (hl : Bys l) (h : (getA l a).2.2 = 0) : ∃ n : Nat, 0 ≤ a ∧ n ≤ 2147483647 ∧ getA l a = ((n : Int), a + (encI n).length, 0) ∧ l.drop a.toNat = encI n ++ l.drop (a.toNat + (encI n).length) ∧ a.toNat + (encI n).length ≤ l.length := by
  unfold getA at h
  split at h
  case isFalse => cases h
  case isTrue h0 =>
  split at h
  · cases h
  · rename_i n c hd
    obtain ⟨h1, h2, h3⟩ := dec_sound (hl.drop _) hd
    refine ⟨n, h0.1, h1, ?_, ?_, ?_⟩
    · rw [getA, if_pos h0, hd, h2]
    · rw [h2, List.drop_drop] at h3
      exact h3
    · have := congrArg List.length h3
      rw [List.length_append, List.length_drop, List.length_drop, List.length_drop, h2] at this
      have hp := encI_pos n
      omega
theorem getA_bad {l : List Int} {a : Int} (h : (getA l a).2.2 ≠ 0) : getA l a = (0, 0, 11) := by
  unfold getA at h ⊢
  split
  · rename_i h0
    rw [if_pos h0] at h
    split
    · rfl
    · rename_i n c hd
      rw [hd] at h
      exact absurd rfl h
  · rfl
theorem gb_f (l : List Int) (a most : Int) (hl : Bys l) (hlen : l.length ≤ 140737488351232) : ∀ k, 10 ≤ k → octet_GetBytes.f k l a most = some (gbA l a most) := by
  intro k hk
  unfold octet_GetBytes.f gbA
  rw [get_f l a hl (by omega) k hk]
  simp only [Option.bind_some]
  by_cases e : (getA l a).2.2 = 0
  · obtain ⟨n, ha, hn, hg, hd, hle⟩ := getA_ok hl e
    rw [hg]
    simp only []
    rw [if_pos trivial]
    by_cases h1 : (n : Int) > most
    · rw [if_pos h1, if_neg (by omega)]
    · rw [if_neg h1, w64 (by omega) (by omega)]
      by_cases h2 : (n : Int) > (l.length : Int) - (a + ((encI n).length : Int))
      · rw [if_pos h2, if_neg (by omega)]
      · rw [if_neg h2, if_pos (by omega), w64 (x := a + ((encI n).length : Int) + (n : Int)) (by omega) (by omega), if_pos (by omega), if_pos (by omega), if_pos ⟨trivial, by omega, by omega⟩]
        unfold slices_Clone_byte_byte.f
        rw [if_pos (by rw [List.length_drop, List.length_take]; omega)]
        rfl
  · rw [if_neg e, if_neg (by omega)]
theorem rgb_f (l : List Int) (a most : Int) (hl : Bys l) (hlen : l.length ≤ 140737488351232) : ∀ k, 30 ≤ k → catenaryref01_GetBytes.f k l a most = some (gbA l a most) := by
  intro k hk
  unfold catenaryref01_GetBytes.f gbA
  rw [rget_f l a hl (by omega) k hk]
  simp only [Option.bind_some]
  by_cases e : (getA l a).2.2 = 0
  · obtain ⟨n, ha, hn, hg, hd, hle⟩ := getA_ok hl e
    rw [hg]
    simp only []
    rw [if_pos trivial]
    by_cases h1 : (n : Int) > most
    · rw [if_pos h1, if_neg (by omega)]
    · rw [if_neg h1, w64 (by omega) (by omega)]
      by_cases h2 : (n : Int) > (l.length : Int) - (a + ((encI n).length : Int))
      · rw [if_pos h2, if_neg (by omega)]
      · rw [if_neg h2, if_pos (by omega), w64 (x := a + ((encI n).length : Int) + (n : Int)) (by omega) (by omega), if_pos (by omega), if_pos (by omega), if_pos (by rw [List.length_drop, List.length_take]; simp; omega), if_pos ⟨trivial, by omega, by omega⟩]
        simp
  · rw [if_neg e, if_neg (by omega)]
theorem gbA_bys {l : List Int} (hl : Bys l) (a most : Int) : Bys (gbA l a most).1 := by
  unfold gbA
  split
  · exact (hl.take _).drop _
  · exact Bys.nil
/-- What is read is a text with its length ahead. -/
theorem gbA_sound {l : List Int} (hl : Bys l) (hlen : l.length ≤ 140737488351232) {a most : Int} (h : (gbA l a most).2.2 = 0) :
    0 ≤ a ∧ (gbA l a most).2.1 = ((a.toNat + (bytesA (gbA l a most).1).length : Nat) : Int) ∧ l.drop a.toNat = bytesA (gbA l a most).1 ++ l.drop (a.toNat + (bytesA (gbA l a most).1).length) ∧ a.toNat + (bytesA (gbA l a most).1).length ≤ l.length ∧ ((gbA l a most).1.length : Int) ≤ most := by
  unfold gbA at h ⊢
  split at h
  case isFalse => cases h
  case isTrue h0 =>
  rw [if_pos h0]
  obtain ⟨n, ha, hn, hg, hd, hle⟩ := getA_ok hl h0.1
  rw [hg] at h0 ⊢
  simp only [] at h0 ⊢
  have e1 : (a + ((encI n).length : Int) + (n : Int)).toNat = a.toNat + (encI n).length + n := by omega
  have e2 : (a + ((encI n).length : Int)).toNat = a.toNat + (encI n).length := by omega
  have hp : ((l.take (a.toNat + (encI n).length + n)).drop (a.toNat + (encI n).length)) = (l.drop (a.toNat + (encI n).length)).take n := by
    rw [List.drop_take]
    congr 1
    omega
  have hpl : ((l.drop (a.toNat + (encI n).length)).take n).length = n := by rw [List.length_take, List.length_drop]; omega
  rw [e1, e2, hp]
  have hb : bytesA ((l.drop (a.toNat + (encI n).length)).take n) = encI n ++ (l.drop (a.toNat + (encI n).length)).take n := by
    unfold bytesA
    rw [hpl, intA_yes (by omega), Int.toNat_natCast]
  have hbl : (bytesA ((l.drop (a.toNat + (encI n).length)).take n)).length = (encI n).length + n := by rw [hb, List.length_append, hpl]
  refine ⟨ha, by rw [hbl]; omega, ?_, by rw [hbl]; omega, by rw [hpl]; omega⟩
  rw [hbl, hb, List.append_assoc, hd]
  congr 1
  have e5 : l.drop (a.toNat + ((encI n).length + n)) = (l.drop (a.toNat + (encI n).length)).drop n := by rw [List.drop_drop]; congr 1; omega
  rw [e5, List.take_append_drop]
/-- A text with its length ahead is read. -/
theorem gbA_bytes (pre p rest : List Int) (most : Int) (hp : p.length ≤ 2147483647) (hm : (p.length : Int) ≤ most) (hlen : (pre ++ (bytesA p ++ rest)).length ≤ 140737488351232) :
    gbA (pre ++ (bytesA p ++ rest)) (pre.length : Int) most = (p, ((pre.length + (bytesA p).length : Nat) : Int), 0) := by
  have hb : bytesA p = encI p.length ++ p := by unfold bytesA; rw [intA_yes (by omega), Int.toNat_natCast]
  have hg : getA (pre ++ (bytesA p ++ rest)) (pre.length : Int) = ((p.length : Int), (pre.length : Int) + ((encI p.length).length : Int), 0) := by
    rw [getA, if_pos (by simp only [List.length_append]; omega), Int.toNat_natCast, List.drop_left, hb, List.append_assoc, dec_enc p.length hp]
  unfold gbA
  rw [hg]
  have hl : (pre ++ (bytesA p ++ rest)).length = pre.length + (encI p.length).length + p.length + rest.length := by rw [hb]; simp only [List.length_append]; omega
  simp only []
  rw [if_pos ⟨trivial, hm, by rw [hl]; omega⟩]
  have e1 : ((pre.length : Int) + ((encI p.length).length : Int) + (p.length : Int)).toNat = pre.length + (encI p.length).length + p.length := by omega
  have e2 : ((pre.length : Int) + ((encI p.length).length : Int)).toNat = pre.length + (encI p.length).length := by omega
  rw [e1, e2, hb]
  have e3 : pre ++ (encI p.length ++ p ++ rest) = (pre ++ encI p.length) ++ (p ++ rest) := by simp
  have e4 : pre.length + (encI p.length).length = (pre ++ encI p.length).length := by simp
  congr 1
  · rw [e3, List.drop_take, e4, List.drop_left, show (pre ++ encI p.length).length + p.length - (pre ++ encI p.length).length = p.length by omega, List.take_left]
  · congr 1
    rw [List.length_append]
    omega

/-! ### Pack -/
def packA (ls : List (List Int)) : List Int := (ls.map bytesA).flatten
theorem packA_nil : packA [] = [] := rfl
theorem packA_cons (p : List Int) (ls : List (List Int)) : packA (p :: ls) = bytesA p ++ packA ls := rfl
theorem packA_append (a b : List (List Int)) : packA (a ++ b) = packA a ++ packA b := by simp [packA]
theorem packA_bys {ls : List (List Int)} (h : ∀ x ∈ ls, Bys x) : Bys (packA ls) := by
  induction ls with
  | nil => exact Bys.nil
  | cons p ls ih => exact Bys.append (bytesA_bys (h p (by simp))) (ih fun x hx => h x (by simp [hx]))
/-- The sum of the parts' sizes. -/
def szL (ls : List (List Int)) : Nat := (ls.map fun x => x.length + 1).sum
theorem szL_cons (p : List Int) (ls : List (List Int)) : szL (p :: ls) = p.length + 1 + szL ls := by simp [szL]
theorem szL_len (ls : List (List Int)) : ls.length ≤ szL ls := by
  induction ls with
  | nil => simp [szL]
  | cons p ls ih => rw [szL_cons, List.length_cons]; omega
theorem szL_append (a b : List (List Int)) : szL (a ++ b) = szL a + szL b := by simp [szL]
theorem packA_len (ls : List (List Int)) : (packA ls).length ≤ 5 * szL ls := by
  induction ls with
  | nil => simp [packA_nil]
  | cons p ls ih =>
    have := bytesA_len p
    rw [packA_cons, szL_cons, List.length_append]
    omega
theorem szL_mem {p : List Int} {ls : List (List Int)} (h : p ∈ ls) : p.length < szL ls := by
  induction ls with
  | nil => cases h
  | cons q ls ih =>
    rw [szL_cons]
    rcases List.mem_cons.1 h with rfl | h
    · omega
    · have := ih h; omega
theorem pack_loop (ls : List (List Int)) (hs : szL ls ≤ 2097152) (d : Nat) : ∀ (k i : Nat) (acc : List Int), i + d = ls.length → d + 8 < k → acc.length + (packA (ls.drop i)).length < 140737488355328 →
    octet_Pack.l0 k acc ls (ls.length : Int) (i : Int) = some (acc ++ packA (ls.drop i)) := by
  induction d with
  | zero =>
    intro k i acc hi hk ha
    obtain ⟨k, rfl⟩ : ∃ m, k = m + 1 := ⟨k - 1, by omega⟩
    simp only [octet_Pack.l0]
    rw [if_neg (by omega), List.drop_eq_nil_of_le (by omega), packA_nil, List.append_nil]
  | succ d ih =>
    intro k i acc hi hk ha
    obtain ⟨k, rfl⟩ : ∃ m, k = m + 1 := ⟨k - 1, by omega⟩
    cases hd : ls.drop i with
    | nil => have := dropL_nil hd; omega
    | cons p t =>
      obtain ⟨hr, hlt, ht⟩ := rdL_drop hd
      have hm : p ∈ ls := List.mem_of_mem_drop (by rw [hd]; simp)
      have hp := szL_mem hm
      have hl := szL_len ls
      rw [hd, packA_cons, List.length_append] at ha
      simp only [octet_Pack.l0]
      rw [if_pos (by omega), if_pos (by omega), if_pos (by omega), hr, bytes_f p (by omega) k (by omega)]
      simp only [Option.bind_some]
      rw [if_pos (by omega), nxt hlt (by omega), ih k (i + 1) (acc ++ bytesA p) (by omega) (by omega) (by rw [ht, List.length_append]; omega), ht, packA_cons, List.append_assoc]
theorem pack_f (ls : List (List Int)) (hs : szL ls ≤ 2097152) : ∀ k, ls.length + 9 ≤ k → octet_Pack.f k ls = some (packA ls) := by
  intro k hk
  have h1 := packA_len ls
  have := pack_loop ls hs ls.length k 0 [] (by omega) (by omega) (by rw [List.drop_zero]; simp; omega)
  unfold octet_Pack.f
  rw [List.drop_zero, List.nil_append] at this
  exact this
theorem rpack_loop (ls : List (List Int)) (hs : szL ls ≤ 2097152) (d : Nat) : ∀ (k i : Nat) (acc : List Int), i + d = ls.length → d + 14 < k → acc.length + (packA (ls.drop i)).length < 140737488355328 →
    catenaryref01_Pack.l0 k acc ls (ls.length : Int) (i : Int) = some (acc ++ packA (ls.drop i)) := by
  induction d with
  | zero =>
    intro k i acc hi hk ha
    obtain ⟨k, rfl⟩ : ∃ m, k = m + 1 := ⟨k - 1, by omega⟩
    simp only [catenaryref01_Pack.l0]
    rw [if_neg (by omega), List.drop_eq_nil_of_le (by omega), packA_nil, List.append_nil]
  | succ d ih =>
    intro k i acc hi hk ha
    obtain ⟨k, rfl⟩ : ∃ m, k = m + 1 := ⟨k - 1, by omega⟩
    cases hd : ls.drop i with
    | nil => have := dropL_nil hd; omega
    | cons p t =>
      obtain ⟨hr, hlt, ht⟩ := rdL_drop hd
      have hm : p ∈ ls := List.mem_of_mem_drop (by rw [hd]; simp)
      have hp := szL_mem hm
      have hl := szL_len ls
      rw [hd, packA_cons, List.length_append] at ha
      simp only [catenaryref01_Pack.l0]
      rw [if_pos (by omega), if_pos (by omega), if_pos (by omega), hr, rbytes_f p (by omega) k (by omega)]
      simp only [Option.bind_some]
      rw [if_pos (by omega), nxt hlt (by omega), ih k (i + 1) (acc ++ bytesA p) (by omega) (by omega) (by rw [ht, List.length_append]; omega), ht, packA_cons, List.append_assoc]
theorem rpack_f (ls : List (List Int)) (hs : szL ls ≤ 2097152) : ∀ k, ls.length + 15 ≤ k → catenaryref01_Pack.f k ls = some (packA ls) := by
  intro k hk
  have h1 := packA_len ls
  have := rpack_loop ls hs ls.length k 0 [] (by omega) (by omega) (by rw [List.drop_zero]; simp; omega)
  unfold catenaryref01_Pack.f
  rw [List.drop_zero, List.nil_append] at this
  exact this

/-! ### Copy, SameList -/
theorem copy_loop (ls : List (List Int)) (hs : ∀ x ∈ ls, x.length ≤ 140737488351232) (hn : ls.length ≤ 5864062014805) (d : Nat) : ∀ (k i : Nat) (acc : List (List Int)), i + d = ls.length → d < k → acc.length = i →
    catenaryref01_Copy.l0 k acc ls (ls.length : Int) (i : Int) = some (acc ++ ls.drop i) := by
  induction d with
  | zero =>
    intro k i acc hi hk ha
    obtain ⟨k, rfl⟩ : ∃ m, k = m + 1 := ⟨k - 1, by omega⟩
    simp only [catenaryref01_Copy.l0]
    rw [if_neg (by omega), List.drop_eq_nil_of_le (by omega), List.append_nil]
  | succ d ih =>
    intro k i acc hi hk ha
    obtain ⟨k, rfl⟩ : ∃ m, k = m + 1 := ⟨k - 1, by omega⟩
    cases hd : ls.drop i with
    | nil => have := dropL_nil hd; omega
    | cons p t =>
      obtain ⟨hr, hlt, ht⟩ := rdL_drop hd
      have hm : p ∈ ls := List.mem_of_mem_drop (by rw [hd]; simp)
      have hp := hs p hm
      simp only [catenaryref01_Copy.l0]
      rw [if_pos (by omega), if_pos (by omega), if_pos (by omega), hr]
      simp only [Option.bind_some, List.nil_append]
      rw [if_pos (by simp; omega), if_pos (by omega), nxt hlt (by omega), ih k (i + 1) (acc ++ [p]) (by omega) (by omega) (by rw [List.length_append, ha]; rfl), ht, List.append_assoc]
      rfl
theorem copy_f (ls : List (List Int)) (hs : ∀ x ∈ ls, x.length ≤ 140737488351232) (hn : ls.length ≤ 5864062014805) : ∀ k, ls.length + 1 ≤ k → catenaryref01_Copy.f k ls = some ls := by
  intro k hk
  have := copy_loop ls hs hn ls.length k 0 [] (by omega) (by omega) rfl
  unfold catenaryref01_Copy.f
  rw [List.drop_zero, List.nil_append] at this
  exact this
theorem samelist_loop (a b : List (List Int)) (ha : ∀ x ∈ a, Bys x) (hb : ∀ x ∈ b, Bys x) (hl : a.length = b.length) (hn : a.length ≤ 9223372036854775807) (d : Nat) : ∀ (k i : Nat), i + d = a.length → d < k →
    catenaryref01_SameList.l0 k a b (a.length : Int) (i : Int) = some (decide (a.drop i = b.drop i)) := by
  induction d with
  | zero =>
    intro k i hi hk
    obtain ⟨k, rfl⟩ : ∃ m, k = m + 1 := ⟨k - 1, by omega⟩
    simp only [catenaryref01_SameList.l0]
    rw [if_neg (by omega), List.drop_eq_nil_of_le (by omega), List.drop_eq_nil_of_le (by omega)]
    simp
  | succ d ih =>
    intro k i hi hk
    obtain ⟨k, rfl⟩ : ∃ m, k = m + 1 := ⟨k - 1, by omega⟩
    cases hd : a.drop i with
    | nil => have := dropL_nil hd; omega
    | cons p t =>
      obtain ⟨hr, hlt, ht⟩ := rdL_drop hd
      cases hd2 : b.drop i with
      | nil => have := dropL_nil hd2; omega
      | cons q u =>
        obtain ⟨hr2, hlt2, ht2⟩ := rdL_drop hd2
        simp only [catenaryref01_SameList.l0]
        rw [if_pos (by omega), if_pos (by omega), if_pos (by omega), if_pos (by omega), hr, hr2, same_f (ha p (List.mem_of_mem_drop (by rw [hd]; simp))) (hb q (List.mem_of_mem_drop (by rw [hd2]; simp)))]
        simp only [Option.bind_some]
        by_cases e : p = q
        · subst e
          rw [if_pos (by simp), nxt hlt hn, ih k (i + 1) (by omega) (by omega), ht, ht2]
          simp
        · rw [if_neg (by simp [e])]
          simp [e]
theorem samelist_f (a b : List (List Int)) (ha : ∀ x ∈ a, Bys x) (hb : ∀ x ∈ b, Bys x) (hn : a.length ≤ 9223372036854775807) : ∀ k, a.length + 1 ≤ k → catenaryref01_SameList.f k a b = some (decide (a = b)) := by
  intro k hk
  unfold catenaryref01_SameList.f
  by_cases hl : a.length = b.length
  · rw [if_pos (by omega)]
    exact samelist_loop a b ha hb hl hn a.length k 0 (by omega) (by omega)
  · rw [if_neg (by omega), decide_eq_false (fun e => hl (by rw [e]))]
end Go.Proofs.Ytkkgjbafncmohaa.Oct
