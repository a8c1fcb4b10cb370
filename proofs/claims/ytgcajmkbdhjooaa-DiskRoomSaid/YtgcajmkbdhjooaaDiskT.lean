/-
  DiskTears, its loops: what was written stays.
-/
import Derived.Test.YtgcajmkbdhjooaaDiskB
set_option linter.unusedVariables false
set_option linter.unusedSimpArgs false
namespace Go.Proofs.Ytgcajmkbdhjooaa.Sha
open Go.RowKit Go.Proofs.YtgcajmkbdhjooaaW.PrintWords Go.Proofs.YtgcajmkbdhjooaaW.PrintLast Go.Proofs.YtgcajmkbdhjooaaW.PrintMore Go.Proofs.Ytgcajmkbdhjooaa.Q Go.Proofs.Ytgcajmkbdhjooaa.Fr Go.Proofs.Ytgcajmkbdhjooaa.Oct

set_option maxRecDepth 100000 in
theorem fm146 {a : Act} (h : Fm 146 a) : a = ⟨#[sl a 0, sl a 1, sl a 2, sl a 3, sl a 4, sl a 5, sl a 6, sl a 7, sl a 8, sl a 9, sl a 10, sl a 11, sl a 12, sl a 13, sl a 14, sl a 15, sl a 16, sl a 17, sl a 18, sl a 19, sl a 20, sl a 21, sl a 22, sl a 23, sl a 24, sl a 25, sl a 26, sl a 27, sl a 28, sl a 29, sl a 30, sl a 31, sl a 32, sl a 33, sl a 34, sl a 35, sl a 36, sl a 37, sl a 38, sl a 39, sl a 40, sl a 41, sl a 42, sl a 43, sl a 44, sl a 45, sl a 46, sl a 47, sl a 48, sl a 49, sl a 50, sl a 51, sl a 52, sl a 53, sl a 54, sl a 55, sl a 56, sl a 57, sl a 58, sl a 59, sl a 60, sl a 61, sl a 62, sl a 63, sl a 64, sl a 65, sl a 66, sl a 67, sl a 68, sl a 69, sl a 70, sl a 71, sl a 72, sl a 73, sl a 74, sl a 75, sl a 76, sl a 77, sl a 78, sl a 79, sl a 80, sl a 81, sl a 82, sl a 83, sl a 84, sl a 85, sl a 86, sl a 87, sl a 88, sl a 89, sl a 90, sl a 91, sl a 92, sl a 93, sl a 94, sl a 95, sl a 96, sl a 97, sl a 98, sl a 99, sl a 100, sl a 101, sl a 102, sl a 103, sl a 104, sl a 105, sl a 106, sl a 107, sl a 108, sl a 109, sl a 110, sl a 111, sl a 112, sl a 113, sl a 114, sl a 115, sl a 116, sl a 117, sl a 118, sl a 119, sl a 120, sl a 121, sl a 122, sl a 123, sl a 124, sl a 125, sl a 126, sl a 127, sl a 128, sl a 129, sl a 130, sl a 131, sl a 132, sl a 133, sl a 134, sl a 135, sl a 136, sl a 137, sl a 138, sl a 139, sl a 140, sl a 141, sl a 142, sl a 143, sl a 144, sl a 145], []⟩ := by
  obtain ⟨T, D⟩ := a
  obtain ⟨h1, h2⟩ := h
  obtain rfl : D = [] := h2
  obtain ⟨l⟩ := T
  have h1 : l.length = 146 := h1
  congr 2
  refine List.ext_getElem? fun i => ?_
  by_cases hi : i < 146
  · have hx : ∀ j, j < 146 → l[j]? = some (sl ⟨⟨l⟩, []⟩ j) := fun j hj => by
      have hl : j < l.length := by omega
      simp [sl, Array.getD_eq_getD_getElem?, List.getElem?_eq_getElem hl]
    rw [hx i hi]
    have : ∀ (s : Nat → Value) (i : Nat), i < 146 → ((List.range 146).map s)[i]? = some (s i) := fun s i hi => by simp [hi]
    exact (this _ i hi).symm
  · have h2 : ∀ (s : Nat → Value), ((List.range 146).map s)[i]? = none := fun s => by simp; omega
    exact (List.getElem?_eq_none (by omega)).trans (h2 _).symm
/-- A list of byte lists that can be read. -/
abbrev CC (w : World) (A : Option Addr) (L : List (List Int)) : Prop := Kd.C (Kd.slice 5 (Kd.int .u8)) w A L.length L
theorem CC.get {w : World} {A : Option Addr} {L : List (List Int)} (h : CC w A L) (i : Nat) (hi : i < L.length) : ∃ ad A0 c0, A = some ad ∧ w.cell? (ad.add i) = some (.slice A0 (L.getD i []).length c0) ∧ (L.getD i []).length ≤ c0 ∧ Rd w A0 (L.getD i []) := by
  obtain ⟨ad, c, e, hs, ⟨A0, c0, rfl, hl, hr⟩, hc⟩ := ReadsRow.get_ h [] (i : Int) (by omega) (by omega)
  rw [Int.toNat_natCast] at hc hl hr
  refine ⟨ad, A0, c0, e, ?_, hl, Rd.of_C hr⟩
  have := hc 0 _ rfl
  rw [show i * (Kd.slice 5 (Kd.int .u8)).sz + 0 = i from by show i * 1 + 0 = i; omega] at this
  exact this
theorem CC.fr {w w' : World} {A : Option Addr} {L : List (List Int)} (h : CC w A L) (hf : Fr (fun _ => False) w w') : CC w' A L := Kd.C_below h (hf.below _ (Nat.le_refl _) (fun i h => h.elim))

set_option maxHeartbeats 8000000 in
set_option maxRecDepth 100000 in
theorem roundT1 (u : Nat → Value) (A : Option Addr) (c : Nat) (L : List (List Int)) (i : Nat) (hi : i < L.length) (hL : L.length ≤ 9223372036854775807) (T : Int) (hT : 0 ≤ T ∧ T ≤ 1000000) (hb : (L.getD i []).length ≤ 9223372036854775807) (w : World) (hC : CC w A L)
    (Q : Exit → Act → World → Prop) (hret : ¬ ((L.getD i []).length : Int) ≤ 1000000 - T → ∀ a', Fm 146 a' → sl a' 6 = .bool true → Q .ret a' w)
    (hQ : ((L.getD i []).length : Int) ≤ 1000000 - T → ∀ a', Fm 146 a' → sl a' 0 = u 0 → sl a' 1 = u 1 → sl a' 2 = u 2 → sl a' 7 = .int .i64 (T + ((L.getD i []).length : Int)) → sl a' 20 = .slice A L.length c → sl a' 21 = .int .i64 (L.length : Int) → sl a' 22 = .int .i64 ((i : Int) + 1) → Q .normal a' w) :
    Code.wp Try.prog (bodyN Try.f7 0) Q ⟨#[u 0, u 1, u 2, u 3, u 4, u 5, u 6, .int .i64 T, u 8, u 9, u 10, u 11, u 12, u 13, u 14, u 15, u 16, u 17, u 18, u 19, .slice A L.length c, .int .i64 (L.length : Int), .int .i64 (i : Int), u 23, u 24, u 25, u 26, u 27, u 28, u 29, u 30, u 31, u 32, u 33, u 34, u 35, u 36, u 37, u 38, u 39, u 40, u 41, u 42, u 43, u 44, u 45, u 46, u 47, u 48, u 49, u 50, u 51, u 52, u 53, u 54, u 55, u 56, u 57, u 58, u 59, u 60, u 61, u 62, u 63, u 64, u 65, u 66, u 67, u 68, u 69, u 70, u 71, u 72, u 73, u 74, u 75, u 76, u 77, u 78, u 79, u 80, u 81, u 82, u 83, u 84, u 85, u 86, u 87, u 88, u 89, u 90, u 91, u 92, u 93, u 94, u 95, u 96, u 97, u 98, u 99, u 100, u 101, u 102, u 103, u 104, u 105, u 106, u 107, u 108, u 109, u 110, u 111, u 112, u 113, u 114, u 115, u 116, u 117, u 118, u 119, u 120, u 121, u 122, u 123, u 124, u 125, u 126, u 127, u 128, u 129, u 130, u 131, u 132, u 133, u 134, u 135, u 136, u 137, u 138, u 139, u 140, u 141, u 142, u 143, u 144, u 145], []⟩ w := by
  obtain ⟨ad, A0, c0, rfl, hcell, hc0, _⟩ := hC.get i hi
  clear hC
  obtain ⟨n, hn⟩ : ∃ n, (L.getD i []).length = n := ⟨_, rfl⟩
  rw [hn] at hcell hret hQ hb
  clear hn
  obtain ⟨m, hm⟩ : ∃ m, L.length = m := ⟨_, rfl⟩
  rw [hm] at hi hL hQ ⊢
  clear hm
  have b0 : decide ((i : Int) < (m : Int)) = true := decide_eq_true (by omega)
  have b1 : (0 : Int) ≤ (i : Int) := by omega
  have b2 : (i : Int) < (m : Int) := by omega
  have b3 : wrap64 (1000000 - T) = 1000000 - T := by unfold wrap64; omega
  have b5 : wrap64 ((i : Int) + 1) = (i : Int) + 1 := by unfold wrap64; omega
  by_cases h : (n : Int) ≤ 1000000 - T
  · have b4 : decide (1000000 - T < (n : Int)) = false := decide_eq_false (by omega)
    have b6 : wrap64 (T + (n : Int)) = T + (n : Int) := by unfold wrap64; omega
    have HQ := Aside0.mk (hQ h)
    clear hret hQ
    conv => arg 2; whnf
    go_wp2
    exact HQ.out _ ⟨rfl, rfl⟩ rfl rfl rfl rfl rfl rfl rfl
  · have b4 : decide (1000000 - T < (n : Int)) = true := decide_eq_true (by omega)
    have HQ := Aside0.mk (hret h)
    clear hret hQ
    conv => arg 2; whnf
    go_wp2
    exact HQ.out _ ⟨rfl, rfl⟩ rfl
set_option maxHeartbeats 8000000 in
set_option maxRecDepth 100000 in
theorem exitT1 (u : Nat → Value) (n : Nat) (w : World) (Q : Exit → Act → World → Prop) (hQ : ∀ a', Fm 146 a' → sl a' 0 = u 0 → sl a' 1 = u 1 → sl a' 2 = u 2 → Q (.exit 0) a' w) :
    Code.wp Try.prog (bodyN Try.f7 0) Q ⟨#[u 0, u 1, u 2, u 3, u 4, u 5, u 6, u 7, u 8, u 9, u 10, u 11, u 12, u 13, u 14, u 15, u 16, u 17, u 18, u 19, u 20, .int .i64 (n : Int), .int .i64 (n : Int), u 23, u 24, u 25, u 26, u 27, u 28, u 29, u 30, u 31, u 32, u 33, u 34, u 35, u 36, u 37, u 38, u 39, u 40, u 41, u 42, u 43, u 44, u 45, u 46, u 47, u 48, u 49, u 50, u 51, u 52, u 53, u 54, u 55, u 56, u 57, u 58, u 59, u 60, u 61, u 62, u 63, u 64, u 65, u 66, u 67, u 68, u 69, u 70, u 71, u 72, u 73, u 74, u 75, u 76, u 77, u 78, u 79, u 80, u 81, u 82, u 83, u 84, u 85, u 86, u 87, u 88, u 89, u 90, u 91, u 92, u 93, u 94, u 95, u 96, u 97, u 98, u 99, u 100, u 101, u 102, u 103, u 104, u 105, u 106, u 107, u 108, u 109, u 110, u 111, u 112, u 113, u 114, u 115, u 116, u 117, u 118, u 119, u 120, u 121, u 122, u 123, u 124, u 125, u 126, u 127, u 128, u 129, u 130, u 131, u 132, u 133, u 134, u 135, u 136, u 137, u 138, u 139, u 140, u 141, u 142, u 143, u 144, u 145], []⟩ w := by
  have c0 : decide ((n : Int) < (n : Int)) = false := by simp
  conv => arg 2; whnf
  go_wp2
  exact hQ _ ⟨rfl, rfl⟩ rfl rfl rfl
theorem take_flat (L : List (List Int)) (t : Nat) (h : t < L.length) : (L.take (t + 1)).flatten = (L.take t).flatten ++ L.getD t [] := by
  rw [List.take_succ_eq_append_getElem h, List.flatten_append]
  simp [List.getD_eq_getElem?_getD, List.getElem?_eq_getElem h]
theorem loopT1 (s0 s1 s2 : Value) (A : Option Addr) (c : Nat) (L : List (List Int)) (hL : L.length ≤ 9223372036854775807) (hbs : ∀ x ∈ L, x.length ≤ 9223372036854775807) (w : World) (hC : CC w A L)
    (Q : Exit → Act → World → Prop) (hret : ∀ a', Fm 146 a' → sl a' 6 = .bool true → Q .ret a' w)
    (hQ : L.flatten.length ≤ 1000000 → ∀ a', Fm 146 a' → sl a' 0 = s0 → sl a' 1 = s1 → sl a' 2 = s2 → Q (.exit 0) a' w)
    (a : Act) (h : Fm 146 a ∧ sl a 0 = s0 ∧ sl a 1 = s1 ∧ sl a 2 = s2 ∧ sl a 7 = .int .i64 0 ∧ sl a 20 = .slice A L.length c ∧ sl a 21 = .int .i64 (L.length : Int) ∧ sl a 22 = .int .i64 0) : (Code.loop (bodyN Try.f7 0)).wp Try.prog Q a w := by
  refine wp_loop_up L.length (fun t a w' => w' = w ∧ Fm 146 a ∧ sl a 0 = s0 ∧ sl a 1 = s1 ∧ sl a 2 = s2 ∧ sl a 7 = .int .i64 ((L.take t).flatten.length : Int) ∧ sl a 20 = .slice A L.length c ∧ sl a 21 = .int .i64 (L.length : Int) ∧ sl a 22 = .int .i64 (t : Int) ∧ (L.take t).flatten.length ≤ 1000000) ?_ ?_
  · obtain ⟨h0, h1, h2, h3, h4, h5, h6, h7⟩ := h
    exact ⟨rfl, h0, h1, h2, h3, h4, h5, h6, h7, by simp⟩
  rintro t a w' ht ⟨rfl, hF, h0, h1, h2, h7, h20, h21, h22, hT⟩
  have ha := fm146 hF
  by_cases h64 : t = L.length
  · subst h64
    rw [h21, h22] at ha
    rw [ha]
    rw [List.take_length] at hT
    exact exitT1 (sl a) _ w' _ fun a' b0 b1 b2 b3 => hQ hT _ b0 (b1.trans h0) (b2.trans h1) (b3.trans h2)
  · rw [h7, h20, h21, h22] at ha
    rw [ha]
    have hlt : t < L.length := by omega
    refine roundT1 (sl a) A c L t hlt hL _ ⟨by omega, by omega⟩ (hbs _ (by rw [List.getD_eq_getElem?_getD, List.getElem?_eq_getElem hlt]; exact List.getElem_mem hlt)) w' hC _ ?_ ?_
    · intro _ a' f0 f1
      exact hret a' f0 f1
    · intro hle a' f0 f1 f2 f3 f4 f5 f6 f7
      refine ⟨hlt, rfl, f0, f1.trans h0, f2.trans h1, f3.trans h2, ?_, f5, f6, by rw [f7]; congr 1, ?_⟩
      · rw [f4, take_flat L t hlt, List.length_append]
        congr 1
      · rw [take_flat L t hlt, List.length_append]
        omega

/-- The disk behind t writes. -/
def tornD (L : List (List Int)) (at_ tear : Int) (t : Nat) : Dsk :=
  if t ≤ at_.toNat then ⟨(L.take t).flatten, 4194304, false, true, max 0 at_ - t, tear⟩
  else ⟨(L.take at_.toNat).flatten ++ (L.getD at_.toNat []).take (clampN tear (L.getD at_.toNat []).length), 4194304, true, true, 0, tear⟩
def tornW (L : List (List Int)) (at_ : Int) (t : Nat) : List Int := (L.take (min t at_.toNat)).flatten
def tornB (at_ : Int) (t : Nat) : Int := if t ≤ at_.toNat then -1 else (at_.toNat : Int)
theorem flat_le (L : List (List Int)) (t : Nat) : (L.take t).flatten.length ≤ L.flatten.length := by
  conv => rhs; rw [← List.take_append_drop t L, List.flatten_append, List.length_append]
  omega
theorem torn_step (L : List (List Int)) (at_ tear : Int) (t : Nat) (ht : t < L.length) (hs : L.flatten.length ≤ 1000000) : ∃ er, (tornD L at_ tear t).app (L.getD t []) = (er, tornD L at_ tear (t + 1)) ∧
    ((er = 0 ∧ tornB at_ t = -1 ∧ tornB at_ (t + 1) = -1 ∧ tornW L at_ (t + 1) = tornW L at_ t ++ L.getD t []) ∨ (er = 115 ∧ tornB at_ t = -1 ∧ tornB at_ (t + 1) = (t : Int) ∧ tornW L at_ (t + 1) = tornW L at_ t) ∨ (er = 115 ∧ 0 ≤ tornB at_ t ∧ tornB at_ (t + 1) = tornB at_ t ∧ tornW L at_ (t + 1) = tornW L at_ t)) := by
  have hf := flat_le L (t + 1)
  rw [take_flat L t ht, List.length_append] at hf
  rcases Nat.lt_trichotomy t at_.toNat with h | h | h
  · refine ⟨0, ?_, .inl ⟨rfl, if_pos (by omega), if_pos (by omega), ?_⟩⟩
    · rw [tornD, if_pos (by omega), tornD, if_pos (by omega), Dsk.app_ok _ _ rfl (by show ((L.take t).flatten.length : Int) + ((L.getD t []).length : Int) ≤ 4194304; omega) (by show ¬ (true = true ∧ max 0 at_ - (t : Int) = 0); omega)]
      simp only
      rw [take_flat L t ht]
      congr 2
      omega
    · rw [tornW, tornW, Nat.min_eq_left (by omega), Nat.min_eq_left (by omega), take_flat L t ht]
  · subst h
    refine ⟨115, ?_, .inr (.inl ⟨rfl, if_pos (by omega), by rw [tornB, if_neg (by omega)], ?_⟩)⟩
    · rw [tornD, if_pos (by omega), tornD, if_neg (by omega), Dsk.app_tear _ _ rfl (by show ((L.take at_.toNat).flatten.length : Int) + ((L.getD at_.toNat []).length : Int) ≤ 4194304; omega) ⟨rfl, by show max 0 at_ - (at_.toNat : Int) = 0; omega⟩]
      simp only
      congr 2
      omega
    · rw [tornW, tornW, Nat.min_eq_right (by omega), Nat.min_eq_right (by omega)]
  · refine ⟨115, ?_, .inr (.inr ⟨rfl, by rw [tornB, if_neg (by omega)]; omega, by rw [tornB, tornB, if_neg (by omega), if_neg (by omega)], ?_⟩)⟩
    · rw [tornD, if_neg (by omega), tornD, if_neg (by omega), Dsk.app_dead _ _ rfl]
    · rw [tornW, tornW, Nat.min_eq_right (by omega), Nat.min_eq_right (by omega)]
theorem torn_writes (L : List (List Int)) (at_ tear : Int) (t : Nat) (h : at_ ≤ 9223372036854775807) (ht : t ≤ 4611686018427387904) : -4611686018427387904 ≤ (tornD L at_ tear t).writes ∧ (tornD L at_ tear t).writes ≤ 9223372036854775807 := by
  unfold tornD
  split
  · simp only; omega
  · simp only; omega

/-- What the second loop keeps. -/
structure T2 (w0 w : World) (g : Nat) (bv vw : Value) (d : Dsk) (xs : List Int) : Prop where
  dk : Dk w0 w g bv d
  row : OB w w0.heap.size vw xs
  far : ∀ k, vw.ownBlock = some k → ¬ Fp g bv k
set_option maxHeartbeats 8000000 in
set_option maxRecDepth 100000 in
theorem roundT2 (u : Nat → Value) (A : Option Addr) (c : Nat) (L : List (List Int)) (i : Nat) (hi : i < L.length) (hL : L.length ≤ 4611686018427387904) (hb : (L.getD i []).length ≤ 1000000) (w0 w : World) (hC : CC w0 A L) (g : Nat) (bv vw : Value) (d d' : Dsk) (xs xs' : List Int) (hx : xs.length ≤ 1000000) (B B' er : Int) (H : T2 w0 w g bv vw d xs)
    (hw : -4611686018427387904 ≤ d.writes) (hw2 : d.writes ≤ 9223372036854775807) (hstep : d.app (L.getD i []) = (er, d'))
    (hcase : (er = 0 ∧ B = -1 ∧ B' = -1 ∧ xs' = xs ++ L.getD i []) ∨ (er = 115 ∧ B = -1 ∧ B' = (i : Int) ∧ xs' = xs) ∨ (er = 115 ∧ 0 ≤ B ∧ B' = B ∧ xs' = xs))
    (Q : Exit → Act → World → Prop) 
    (hQ : ∀ a' w' bv' vw', Fm 146 a' → sl a' 0 = u 0 → sl a' 1 = u 1 → sl a' 2 = u 2 → sl a' 10 = .pointer (some ⟨g, 0, none⟩) → sl a' 11 = vw' → sl a' 12 = .int .i64 B' → sl a' 44 = .slice A L.length c → sl a' 45 = .int .i64 (L.length : Int) → sl a' 46 = .int .i64 ((i : Int) + 1) → T2 w0 w' g bv' vw' d' xs' → Q .normal a' w') :
    Code.wp Try.prog (bodyN Try.f7 1) Q ⟨#[u 0, u 1, u 2, u 3, u 4, u 5, u 6, u 7, u 8, u 9, .pointer (some ⟨g, 0, none⟩), vw, .int .i64 B, u 13, u 14, u 15, u 16, u 17, u 18, u 19, u 20, u 21, u 22, u 23, u 24, u 25, u 26, u 27, u 28, u 29, u 30, u 31, u 32, u 33, u 34, u 35, u 36, u 37, u 38, u 39, u 40, u 41, u 42, u 43, .slice A L.length c, .int .i64 (L.length : Int), .int .i64 (i : Int), u 47, u 48, u 49, u 50, u 51, u 52, u 53, u 54, u 55, u 56, u 57, u 58, u 59, u 60, u 61, u 62, u 63, u 64, u 65, u 66, u 67, u 68, u 69, u 70, u 71, u 72, u 73, u 74, u 75, u 76, u 77, u 78, u 79, u 80, u 81, u 82, u 83, u 84, u 85, u 86, u 87, u 88, u 89, u 90, u 91, u 92, u 93, u 94, u 95, u 96, u 97, u 98, u 99, u 100, u 101, u 102, u 103, u 104, u 105, u 106, u 107, u 108, u 109, u 110, u 111, u 112, u 113, u 114, u 115, u 116, u 117, u 118, u 119, u 120, u 121, u 122, u 123, u 124, u 125, u 126, u 127, u 128, u 129, u 130, u 131, u 132, u 133, u 134, u 135, u 136, u 137, u 138, u 139, u 140, u 141, u 142, u 143, u 144, u 145], []⟩ w := by
  obtain ⟨ad, A0, c0, rfl, hcell0, hc0, hr⟩ := hC.get i hi
  have hcell := H.dk.F.cell hcell0 (fun h => h)
  clear hC hcell0
  obtain ⟨b, hn⟩ : ∃ b, L.getD i [] = b := ⟨_, rfl⟩
  rw [hn] at hcell hc0 hr hb hstep hcase
  clear hn
  obtain ⟨m, hm⟩ : ∃ m, L.length = m := ⟨_, rfl⟩
  rw [hm] at hi hL hQ ⊢
  clear hm
  have b0 : decide ((i : Int) < (m : Int)) = true := decide_eq_true (by omega)
  have b1 : (0 : Int) ≤ (i : Int) := by omega
  have b2 : (i : Int) < (m : Int) := by omega
  have b5 : wrap64 ((i : Int) + 1) = (i : Int) + 1 := by unfold wrap64; omega
  have HH := Aside0.mk (And.intro H (And.intro hr (And.intro hQ (And.intro hstep (And.intro hcase (And.intro hx hb))))))
  clear H hr hQ hstep hcase hx hb
  conv => arg 2; whnf
  go_wp2_with (first | ((with_reducible refine gate_dst (N := 52) rfl ?_); refine wpList_copyb rfl (by rfl) (fun _ => by rfl) (fun _ _ => by rfl) (by first | (go_simp; done) | (go_simp; rfl)) _ (by rfl) A0 b.length c0 b (fun _ => rfl) rfl (HH.out.2.1.fr HH.out.1.dk.F (fun _ _ h => h)) _ _ (by rfl) (fun _ _ => rfl) (fun _ _ => rfl) (by have := HH.out; omega) ?_; intro u3 v3 w3 hO3 hb3))
  obtain ⟨A3, c3, rfl, hc3⟩ := hO3.slice
  have h3 := HH.out.1.dk.below hb3
  refine (app_calls g w0.heap.size bv d A3 c3 b w3 h3.at' h3.F.size (QB.rd (q_of_own hO3)) hc3 (by have := HH.out; omega) (hO3.far HH.out.1.dk.ne) hw hw2).mono ?_
  rintro e w4 ⟨rfl, hf4, bv4, hD4, hn4⟩
  rw [HH.out.2.2.2.1] at hD4 ⊢
  have h4 := h3.call hf4 hD4
  have f3 := Fr.of_below hb3 (fun _ => False)
  have hO4 : OB w4 w0.heap.size vw xs := (HH.out.1.row.fr f3 (fun _ _ h => h)).fr hf4 (fun k hk h => HH.out.1.far k hk h)
  have hfar4 : ∀ k, vw.ownBlock = some k → ¬ Fp g bv4 k := fun k hk h => (hn4 k h).elim (fun h => HH.out.1.far k hk h) (fun h => by have := q_lt (q_of_own HH.out.1.row) k hk; have := hb3.size; omega)
  have hr4 : Rd w4 A0 b := HH.out.2.1.fr h4.F (fun _ _ h => h)
  have H4 := Aside0.mk (And.intro h4 (And.intro hO4 (And.intro hfar4 hr4)))
  clear h3 h4 f3 hO4 hfar4 hr4 hO3 hb3 hf4 hD4 hn4
  rcases HH.out.2.2.2.2.1 with ⟨rfl, rfl, rfl, e⟩ | ⟨rfl, rfl, rfl, e⟩ | ⟨rfl, hB, rfl, e⟩
  · go_wp2_with (first | ((with_reducible refine gate_builtin (b := .append) (xs := #[.tmp 60, .tmp 61]) rfl ?_); at_builtin; refine Aside0.out ?_))
    refine ⟨?_⟩
    refine wpList_appe rfl (by rfl) w0.heap.size _ _ (by rfl) infoB vw xs (by rfl) H4.out.2.1 A0 b.length c0 b (by rfl) rfl H4.out.2.2.2 (by have := HH.out; omega) H4.out.1.F.size ?_
    intro v5 w5 hO5 hf5 hat5
    have h5 := H4.out.1.fr hf5 (fun k hk => ⟨H4.out.2.1.base k hk.symm, H4.out.2.2.1 k hk.symm⟩)
    have hfar5 : ∀ k, v5.ownBlock = some k → ¬ Fp g bv4 k := fun k hk => hat5.elim (fun h => H4.out.2.2.1 k (by rw [← h]; exact hk)) (fun ⟨q, h, hq⟩ hp => by rw [hk] at h; cases h; have := H4.out.1.at'.lt k hp; omega)
    have H5 := Aside0.mk (T2.mk h5 hO5 hfar5)
    clear hO5 hf5 hat5 h5 hfar5
    go_wp2
    subst e
    exact HH.out.2.2.1 _ _ bv4 v5 ⟨rfl, rfl⟩ rfl rfl rfl rfl rfl rfl rfl rfl rfl H5.out
  · go_wp2
    subst e
    exact HH.out.2.2.1 _ _ bv4 vw ⟨rfl, rfl⟩ rfl rfl rfl rfl rfl rfl rfl rfl rfl ⟨H4.out.1, H4.out.2.1, H4.out.2.2.1⟩
  · have cB : decide (B' < 0) = false := decide_eq_false (by omega)
    have cB2 : decide (0 ≤ B') = true := decide_eq_true (by omega)
    go_wp2
    subst e
    exact HH.out.2.2.1 _ _ bv4 vw ⟨rfl, rfl⟩ rfl rfl rfl rfl rfl rfl rfl rfl rfl ⟨H4.out.1, H4.out.2.1, H4.out.2.2.1⟩
set_option maxHeartbeats 8000000 in
set_option maxRecDepth 100000 in
theorem exitT2 (u : Nat → Value) (n : Nat) (w : World) (Q : Exit → Act → World → Prop) (hQ : ∀ a', Fm 146 a' → sl a' 0 = u 0 → sl a' 1 = u 1 → sl a' 2 = u 2 → sl a' 10 = u 10 → sl a' 11 = u 11 → sl a' 12 = u 12 → Q (.exit 2) a' w) :
    Code.wp Try.prog (bodyN Try.f7 1) Q ⟨#[u 0, u 1, u 2, u 3, u 4, u 5, u 6, u 7, u 8, u 9, u 10, u 11, u 12, u 13, u 14, u 15, u 16, u 17, u 18, u 19, u 20, u 21, u 22, u 23, u 24, u 25, u 26, u 27, u 28, u 29, u 30, u 31, u 32, u 33, u 34, u 35, u 36, u 37, u 38, u 39, u 40, u 41, u 42, u 43, u 44, .int .i64 (n : Int), .int .i64 (n : Int), u 47, u 48, u 49, u 50, u 51, u 52, u 53, u 54, u 55, u 56, u 57, u 58, u 59, u 60, u 61, u 62, u 63, u 64, u 65, u 66, u 67, u 68, u 69, u 70, u 71, u 72, u 73, u 74, u 75, u 76, u 77, u 78, u 79, u 80, u 81, u 82, u 83, u 84, u 85, u 86, u 87, u 88, u 89, u 90, u 91, u 92, u 93, u 94, u 95, u 96, u 97, u 98, u 99, u 100, u 101, u 102, u 103, u 104, u 105, u 106, u 107, u 108, u 109, u 110, u 111, u 112, u 113, u 114, u 115, u 116, u 117, u 118, u 119, u 120, u 121, u 122, u 123, u 124, u 125, u 126, u 127, u 128, u 129, u 130, u 131, u 132, u 133, u 134, u 135, u 136, u 137, u 138, u 139, u 140, u 141, u 142, u 143, u 144, u 145], []⟩ w := by
  have c0 : decide ((n : Int) < (n : Int)) = false := by simp
  conv => arg 2; whnf
  go_wp2
  exact hQ _ ⟨rfl, rfl⟩ rfl rfl rfl rfl rfl rfl
theorem loopT2 (s0 s1 s2 : Value) (A : Option Addr) (c : Nat) (L : List (List Int)) (hL : L.length ≤ 4611686018427387904) (hs : L.flatten.length ≤ 1000000) (at_ tear : Int) (hat : at_ ≤ 9223372036854775807) (w0 : World) (g : Nat) (hC : CC w0 A L)
    (Q : Exit → Act → World → Prop)
    (hQ : ∀ a' w' bv vw, Fm 146 a' → sl a' 0 = s0 → sl a' 1 = s1 → sl a' 2 = s2 → sl a' 10 = .pointer (some ⟨g, 0, none⟩) → sl a' 11 = vw → sl a' 12 = .int .i64 (tornB at_ L.length) → T2 w0 w' g bv vw (tornD L at_ tear L.length) (tornW L at_ L.length) → Q (.exit 2) a' w')
    (a : Act) (w : World) (bv vw : Value) (h : Fm 146 a ∧ sl a 0 = s0 ∧ sl a 1 = s1 ∧ sl a 2 = s2 ∧ sl a 10 = .pointer (some ⟨g, 0, none⟩) ∧ sl a 11 = vw ∧ sl a 12 = .int .i64 (-1) ∧ sl a 44 = .slice A L.length c ∧ sl a 45 = .int .i64 (L.length : Int) ∧ sl a 46 = .int .i64 0 ∧ T2 w0 w g bv vw (tornD L at_ tear 0) (tornW L at_ 0)) : (Code.loop (bodyN Try.f7 1)).wp Try.prog Q a w := by
  refine wp_loop_up L.length (fun t a w => Fm 146 a ∧ sl a 0 = s0 ∧ sl a 1 = s1 ∧ sl a 2 = s2 ∧ sl a 10 = .pointer (some ⟨g, 0, none⟩) ∧ sl a 12 = .int .i64 (tornB at_ t) ∧ sl a 44 = .slice A L.length c ∧ sl a 45 = .int .i64 (L.length : Int) ∧ sl a 46 = .int .i64 (t : Int) ∧ ∃ bv vw, sl a 11 = vw ∧ T2 w0 w g bv vw (tornD L at_ tear t) (tornW L at_ t)) ?_ ?_
  · obtain ⟨h0, h1, h2, h3, h4, h5, h6, h7, h8, h9, h10⟩ := h
    exact ⟨h0, h1, h2, h3, h4, h6, h7, h8, h9, bv, vw, h5, h10⟩
  rintro t a w ht ⟨hF, h0, h1, h2, h10, h12, h44, h45, h46, bv, vw, h11, hT⟩
  have ha := fm146 hF
  by_cases h64 : t = L.length
  · subst h64
    rw [h45, h46] at ha
    rw [ha]
    exact exitT2 (sl a) _ w _ fun a' b0 b1 b2 b3 b4 b5 b6 => hQ _ _ bv vw b0 (b1.trans h0) (b2.trans h1) (b3.trans h2) (b4.trans h10) (b5.trans h11) (b6.trans h12) hT
  · rw [h10, h11, h12, h44, h45, h46] at ha
    rw [ha]
    have hlt : t < L.length := by omega
    obtain ⟨er, hst, hcase⟩ := torn_step L at_ tear t hlt hs
    have hwr := torn_writes L at_ tear t hat (by omega)
    have hf := flat_le L (t + 1)
    rw [take_flat L t hlt, List.length_append] at hf
    have hf2 := flat_le L (min t at_.toNat)
    refine roundT2 (sl a) A c L t hlt hL (by omega) w0 w hC g bv vw _ _ _ _ (by unfold tornW; omega) _ _ er hT hwr.1 hwr.2 hst hcase _ ?_
    intro a' w' bv' vw' f0 f1 f2 f3 f4 f5 f6 f7 f8 f9 hT'
    exact ⟨hlt, f0, f1.trans h0, f2.trans h1, f3.trans h2, f4, f6, f7, f8, by rw [f9]; congr 1, bv', vw', f5, hT'⟩
end Go.Proofs.Ytgcajmkbdhjooaa.Sha
