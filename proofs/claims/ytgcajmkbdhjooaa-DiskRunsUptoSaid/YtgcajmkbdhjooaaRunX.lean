/-
  DiskRuns: the loops that write over what was handed in, and over what was handed out.
-/
import Derived.Test.YtgcajmkbdhjooaaRunP
import Derived.Test.YtgcajmkbdhjooaaAct
set_option linter.unusedVariables false
set_option linter.unusedSimpArgs false
namespace Go.Proofs.Ytgcajmkbdhjooaa.Sha
open Go.RowKit Go.Proofs.YtgcajmkbdhjooaaW.PrintWords Go.Proofs.YtgcajmkbdhjooaaW.PrintLast Go.Proofs.YtgcajmkbdhjooaaW.PrintMore Go.Proofs.Ytgcajmkbdhjooaa.Q Go.Proofs.Ytgcajmkbdhjooaa.Fr Go.Proofs.Ytgcajmkbdhjooaa.Oct

noncomputable def bodyIn (f : Func) (n m : Nat) : Code := ((loopsIn (bodyN f n))[m]?).getD .skip
set_option maxRecDepth 100000 in
theorem fm150 {a : Act} (h : Fm 150 a) : a = ⟨#[sl a 0, sl a 1, sl a 2, sl a 3, sl a 4, sl a 5, sl a 6, sl a 7, sl a 8, sl a 9, sl a 10, sl a 11, sl a 12, sl a 13, sl a 14, sl a 15, sl a 16, sl a 17, sl a 18, sl a 19, sl a 20, sl a 21, sl a 22, sl a 23, sl a 24, sl a 25, sl a 26, sl a 27, sl a 28, sl a 29, sl a 30, sl a 31, sl a 32, sl a 33, sl a 34, sl a 35, sl a 36, sl a 37, sl a 38, sl a 39, sl a 40, sl a 41, sl a 42, sl a 43, sl a 44, sl a 45, sl a 46, sl a 47, sl a 48, sl a 49, sl a 50, sl a 51, sl a 52, sl a 53, sl a 54, sl a 55, sl a 56, sl a 57, sl a 58, sl a 59, sl a 60, sl a 61, sl a 62, sl a 63, sl a 64, sl a 65, sl a 66, sl a 67, sl a 68, sl a 69, sl a 70, sl a 71, sl a 72, sl a 73, sl a 74, sl a 75, sl a 76, sl a 77, sl a 78, sl a 79, sl a 80, sl a 81, sl a 82, sl a 83, sl a 84, sl a 85, sl a 86, sl a 87, sl a 88, sl a 89, sl a 90, sl a 91, sl a 92, sl a 93, sl a 94, sl a 95, sl a 96, sl a 97, sl a 98, sl a 99, sl a 100, sl a 101, sl a 102, sl a 103, sl a 104, sl a 105, sl a 106, sl a 107, sl a 108, sl a 109, sl a 110, sl a 111, sl a 112, sl a 113, sl a 114, sl a 115, sl a 116, sl a 117, sl a 118, sl a 119, sl a 120, sl a 121, sl a 122, sl a 123, sl a 124, sl a 125, sl a 126, sl a 127, sl a 128, sl a 129, sl a 130, sl a 131, sl a 132, sl a 133, sl a 134, sl a 135, sl a 136, sl a 137, sl a 138, sl a 139, sl a 140, sl a 141, sl a 142, sl a 143, sl a 144, sl a 145, sl a 146, sl a 147, sl a 148, sl a 149], []⟩ := by
  obtain ⟨T, D⟩ := a
  obtain ⟨h1, h2⟩ := h
  obtain rfl : D = [] := h2
  obtain ⟨l⟩ := T
  have h1 : l.length = 150 := h1
  congr 2
  refine List.ext_getElem? fun i => ?_
  by_cases hi : i < 150
  · have hx : ∀ j, j < 150 → l[j]? = some (sl ⟨⟨l⟩, []⟩ j) := fun j hj => by
      have hl : j < l.length := by omega
      simp [sl, Array.getD_eq_getD_getElem?, List.getElem?_eq_getElem hl]
    rw [hx i hi]
    have : ∀ (s : Nat → Value) (i : Nat), i < 150 → ((List.range 150).map s)[i]? = some (s i) := fun s i hi => by simp [hi]
    exact (this _ i hi).symm
  · have h2 : ∀ (s : Nat → Value), ((List.range 150).map s)[i]? = none := fun s => by simp; omega
    exact (List.getElem?_eq_none (by omega)).trans (h2 _).symm
set_option maxHeartbeats 8000000 in
set_option maxRecDepth 100000 in
theorem roundRA (u : Nat → Value) (v : Value) (xs : List Int) (base i : Nat) (hi : i < xs.length) (hm : xs.length ≤ 140737488355328) (w0 w : World) (h : OB w base v xs) (hf : Fr (fun k => some k = v.ownBlock) w0 w)
    (Q : Exit → Act → World → Prop) (hQ : ∀ a' w' x, Fm 150 a' → sl a' 5 = u 5 → sl a' 6 = u 6 → sl a' 10 = u 10 → sl a' 11 = u 11 → sl a' 30 = u 30 → sl a' 31 = u 31 → sl a' 32 = u 32 → sl a' 9 = v → sl a' 101 = .int .i64 (xs.length : Int) → sl a' 102 = .int .i64 ((i : Int) + 1) → Fr (fun k => some k = v.ownBlock) w0 w' → OB w' base v (xs.set i x) → Q .normal a' w') :
    Code.wp Try.prog (bodyIn Try.f8 0 0) Q ⟨#[u 0, u 1, u 2, u 3, u 4, u 5, u 6, u 7, u 8, v, u 10, u 11, u 12, u 13, u 14, u 15, u 16, u 17, u 18, u 19, u 20, u 21, u 22, u 23, u 24, u 25, u 26, u 27, u 28, u 29, u 30, u 31, u 32, u 33, u 34, u 35, u 36, u 37, u 38, u 39, u 40, u 41, u 42, u 43, u 44, u 45, u 46, u 47, u 48, u 49, u 50, u 51, u 52, u 53, u 54, u 55, u 56, u 57, u 58, u 59, u 60, u 61, u 62, u 63, u 64, u 65, u 66, u 67, u 68, u 69, u 70, u 71, u 72, u 73, u 74, u 75, u 76, u 77, u 78, u 79, u 80, u 81, u 82, u 83, u 84, u 85, u 86, u 87, u 88, u 89, u 90, u 91, u 92, u 93, u 94, u 95, u 96, u 97, u 98, u 99, u 100, .int .i64 (xs.length : Int), .int .i64 (i : Int), u 103, u 104, u 105, u 106, u 107, u 108, u 109, u 110, u 111, u 112, u 113, u 114, u 115, u 116, u 117, u 118, u 119, u 120, u 121, u 122, u 123, u 124, u 125, u 126, u 127, u 128, u 129, u 130, u 131, u 132, u 133, u 134, u 135, u 136, u 137, u 138, u 139, u 140, u 141, u 142, u 143, u 144, u 145, u 146, u 147, u 148, u 149], []⟩ w := by
  obtain ⟨g, c, rfl⟩ := h.form (by omega)
  have hr := (QB.rd (q_of_own h)).cells (i : Int) (by omega) (by omega)
  rw [Int.toNat_natCast, add_at, Nat.zero_add] at hr
  obtain ⟨x, hx⟩ : ∃ x, xs.getD i 0 = x := ⟨_, rfl⟩
  rw [hx] at hr
  obtain ⟨cells, hg⟩ := (q_typed (q_of_own h) g rfl).2
  have fz := frozenV hg i
  have HH := Aside0.mk (And.intro h hf)
  clear h hf hx hg
  have c0 : decide ((i : Int) < (xs.length : Int)) = true := decide_eq_true (by omega)
  have b1 : (0 : Int) ≤ (i : Int) := by omega
  have b2 : (i : Int) < (xs.length : Int) := by omega
  conv => arg 2; whnf
  go_wp2
  refine hQ _ _ (Go.bits .xor .u8 x 255) ⟨rfl, rfl⟩ rfl rfl rfl rfl rfl rfl rfl rfl rfl rfl ?_ ?_
  · exact HH.out.2.setCell (p := ⟨g, i, none⟩) (.inl rfl) _
  · have := OB.put HH.out.1 i hi (Go.bits .xor .u8 x 255)
    rw [List.length_set] at this
    exact this
set_option maxHeartbeats 8000000 in
set_option maxRecDepth 100000 in
theorem exitRA (u : Nat → Value) (n : Nat) (w : World) (Q : Exit → Act → World → Prop) (hQ : ∀ a', Fm 150 a' → sl a' 5 = u 5 → sl a' 6 = u 6 → sl a' 10 = u 10 → sl a' 11 = u 11 → sl a' 30 = u 30 → sl a' 31 = u 31 → sl a' 32 = u 32 → Q (.exit 3) a' w) :
    Code.wp Try.prog (bodyIn Try.f8 0 0) Q ⟨#[u 0, u 1, u 2, u 3, u 4, u 5, u 6, u 7, u 8, u 9, u 10, u 11, u 12, u 13, u 14, u 15, u 16, u 17, u 18, u 19, u 20, u 21, u 22, u 23, u 24, u 25, u 26, u 27, u 28, u 29, u 30, u 31, u 32, u 33, u 34, u 35, u 36, u 37, u 38, u 39, u 40, u 41, u 42, u 43, u 44, u 45, u 46, u 47, u 48, u 49, u 50, u 51, u 52, u 53, u 54, u 55, u 56, u 57, u 58, u 59, u 60, u 61, u 62, u 63, u 64, u 65, u 66, u 67, u 68, u 69, u 70, u 71, u 72, u 73, u 74, u 75, u 76, u 77, u 78, u 79, u 80, u 81, u 82, u 83, u 84, u 85, u 86, u 87, u 88, u 89, u 90, u 91, u 92, u 93, u 94, u 95, u 96, u 97, u 98, u 99, u 100, .int .i64 (n : Int), .int .i64 (n : Int), u 103, u 104, u 105, u 106, u 107, u 108, u 109, u 110, u 111, u 112, u 113, u 114, u 115, u 116, u 117, u 118, u 119, u 120, u 121, u 122, u 123, u 124, u 125, u 126, u 127, u 128, u 129, u 130, u 131, u 132, u 133, u 134, u 135, u 136, u 137, u 138, u 139, u 140, u 141, u 142, u 143, u 144, u 145, u 146, u 147, u 148, u 149], []⟩ w := by
  have c0 : decide ((n : Int) < (n : Int)) = false := by simp
  conv => arg 2; whnf
  go_wp2
  exact hQ _ ⟨rfl, rfl⟩ rfl rfl rfl rfl rfl rfl rfl
theorem loopRA (s5 s6 s10 s11 s30 s31 s32 v : Value) (xs : List Int) (base : Nat) (hm : xs.length ≤ 140737488355328) (w0 : World)
    (Q : Exit → Act → World → Prop) (hQ : ∀ a' w', Fm 150 a' → sl a' 5 = s5 → sl a' 6 = s6 → sl a' 10 = s10 → sl a' 11 = s11 → sl a' 30 = s30 → sl a' 31 = s31 → sl a' 32 = s32 → Fr (fun k => some k = v.ownBlock) w0 w' → Q (.exit 3) a' w')
    (a : Act) (w : World) (h : Fm 150 a ∧ (sl a 5 = s5 ∧ sl a 6 = s6 ∧ sl a 10 = s10 ∧ sl a 11 = s11 ∧ sl a 30 = s30 ∧ sl a 31 = s31 ∧ sl a 32 = s32) ∧ sl a 9 = v ∧ sl a 101 = .int .i64 (xs.length : Int) ∧ sl a 102 = .int .i64 0 ∧ Fr (fun k => some k = v.ownBlock) w0 w ∧ OB w base v xs) : (Code.loop (bodyIn Try.f8 0 0)).wp Try.prog Q a w := by
  refine wp_loop_up xs.length (fun t a w => Fm 150 a ∧ (sl a 5 = s5 ∧ sl a 6 = s6 ∧ sl a 10 = s10 ∧ sl a 11 = s11 ∧ sl a 30 = s30 ∧ sl a 31 = s31 ∧ sl a 32 = s32) ∧ sl a 9 = v ∧ sl a 101 = .int .i64 (xs.length : Int) ∧ sl a 102 = .int .i64 (t : Int) ∧ Fr (fun k => some k = v.ownBlock) w0 w ∧ ∃ ys, ys.length = xs.length ∧ OB w base v ys) ?_ ?_
  · obtain ⟨h0, hk, h6, h7, h8, h9, h10⟩ := h
    exact ⟨h0, hk, h6, h7, h8, h9, xs, rfl, h10⟩
  rintro t a w ht ⟨hF, ⟨h5, h6, h10, h11, h30, h31, h32⟩, hV, hLn, hI, hf, ys, hy, hO⟩
  have ha := fm150 hF
  by_cases h64 : t = xs.length
  · subst h64
    rw [hLn, hI] at ha
    rw [ha]
    refine exitRA (sl a) _ w _ ?_
    intro a' b0 b5 b6 b10 b11 b30 b31 b32
    exact hQ _ _ b0 (b5.trans h5) (b6.trans h6) (b10.trans h10) (b11.trans h11) (b30.trans h30) (b31.trans h31) (b32.trans h32) hf
  · rw [hV, hLn, hI, ← hy] at ha
    rw [ha]
    refine roundRA (sl a) v ys base t (by omega) (by omega) w0 w hO hf _ ?_
    intro a' w' x b0 b5 b6 b10 b11 b30 b31 b32 c5 c6 c7 c8 c9
    exact ⟨by omega, b0, ⟨b5.trans h5, b6.trans h6, b10.trans h10, b11.trans h11, b30.trans h30, b31.trans h31, b32.trans h32⟩, c5, by rw [c6, hy], by rw [c7]; congr 1, c8, ys.set t x, by rw [List.length_set, hy], c9⟩
set_option maxHeartbeats 8000000 in
set_option maxRecDepth 100000 in
theorem roundRB (u : Nat → Value) (v : Value) (xs : List Int) (base i : Nat) (hi : i < xs.length) (hm : xs.length ≤ 140737488355328) (w0 w : World) (h : OB w base v xs) (hf : Fr (fun k => some k = v.ownBlock) w0 w)
    (Q : Exit → Act → World → Prop) (hQ : ∀ a' w' x, Fm 150 a' → sl a' 5 = u 5 → sl a' 6 = u 6 → sl a' 10 = u 10 → sl a' 11 = u 11 → sl a' 30 = u 30 → sl a' 31 = u 31 → sl a' 32 = u 32 → sl a' 17 = v → sl a' 133 = .int .i64 (xs.length : Int) → sl a' 134 = .int .i64 ((i : Int) + 1) → Fr (fun k => some k = v.ownBlock) w0 w' → OB w' base v (xs.set i x) → Q .normal a' w') :
    Code.wp Try.prog (bodyIn Try.f8 0 1) Q ⟨#[u 0, u 1, u 2, u 3, u 4, u 5, u 6, u 7, u 8, u 9, u 10, u 11, u 12, u 13, u 14, u 15, u 16, v, u 18, u 19, u 20, u 21, u 22, u 23, u 24, u 25, u 26, u 27, u 28, u 29, u 30, u 31, u 32, u 33, u 34, u 35, u 36, u 37, u 38, u 39, u 40, u 41, u 42, u 43, u 44, u 45, u 46, u 47, u 48, u 49, u 50, u 51, u 52, u 53, u 54, u 55, u 56, u 57, u 58, u 59, u 60, u 61, u 62, u 63, u 64, u 65, u 66, u 67, u 68, u 69, u 70, u 71, u 72, u 73, u 74, u 75, u 76, u 77, u 78, u 79, u 80, u 81, u 82, u 83, u 84, u 85, u 86, u 87, u 88, u 89, u 90, u 91, u 92, u 93, u 94, u 95, u 96, u 97, u 98, u 99, u 100, u 101, u 102, u 103, u 104, u 105, u 106, u 107, u 108, u 109, u 110, u 111, u 112, u 113, u 114, u 115, u 116, u 117, u 118, u 119, u 120, u 121, u 122, u 123, u 124, u 125, u 126, u 127, u 128, u 129, u 130, u 131, u 132, .int .i64 (xs.length : Int), .int .i64 (i : Int), u 135, u 136, u 137, u 138, u 139, u 140, u 141, u 142, u 143, u 144, u 145, u 146, u 147, u 148, u 149], []⟩ w := by
  obtain ⟨g, c, rfl⟩ := h.form (by omega)
  have hr := (QB.rd (q_of_own h)).cells (i : Int) (by omega) (by omega)
  rw [Int.toNat_natCast, add_at, Nat.zero_add] at hr
  obtain ⟨x, hx⟩ : ∃ x, xs.getD i 0 = x := ⟨_, rfl⟩
  rw [hx] at hr
  obtain ⟨cells, hg⟩ := (q_typed (q_of_own h) g rfl).2
  have fz := frozenV hg i
  have HH := Aside0.mk (And.intro h hf)
  clear h hf hx hg
  have c0 : decide ((i : Int) < (xs.length : Int)) = true := decide_eq_true (by omega)
  have b1 : (0 : Int) ≤ (i : Int) := by omega
  have b2 : (i : Int) < (xs.length : Int) := by omega
  conv => arg 2; whnf
  go_wp2
  refine hQ _ _ (Go.bits .xor .u8 x 255) ⟨rfl, rfl⟩ rfl rfl rfl rfl rfl rfl rfl rfl rfl rfl ?_ ?_
  · exact HH.out.2.setCell (p := ⟨g, i, none⟩) (.inl rfl) _
  · have := OB.put HH.out.1 i hi (Go.bits .xor .u8 x 255)
    rw [List.length_set] at this
    exact this
set_option maxHeartbeats 8000000 in
set_option maxRecDepth 100000 in
theorem exitRB (u : Nat → Value) (n : Nat) (w : World) (Q : Exit → Act → World → Prop) (hQ : ∀ a', Fm 150 a' → sl a' 5 = u 5 → sl a' 6 = u 6 → sl a' 10 = u 10 → sl a' 11 = u 11 → sl a' 30 = u 30 → sl a' 31 = u 31 → sl a' 32 = u 32 → Q (.exit 5) a' w) :
    Code.wp Try.prog (bodyIn Try.f8 0 1) Q ⟨#[u 0, u 1, u 2, u 3, u 4, u 5, u 6, u 7, u 8, u 9, u 10, u 11, u 12, u 13, u 14, u 15, u 16, u 17, u 18, u 19, u 20, u 21, u 22, u 23, u 24, u 25, u 26, u 27, u 28, u 29, u 30, u 31, u 32, u 33, u 34, u 35, u 36, u 37, u 38, u 39, u 40, u 41, u 42, u 43, u 44, u 45, u 46, u 47, u 48, u 49, u 50, u 51, u 52, u 53, u 54, u 55, u 56, u 57, u 58, u 59, u 60, u 61, u 62, u 63, u 64, u 65, u 66, u 67, u 68, u 69, u 70, u 71, u 72, u 73, u 74, u 75, u 76, u 77, u 78, u 79, u 80, u 81, u 82, u 83, u 84, u 85, u 86, u 87, u 88, u 89, u 90, u 91, u 92, u 93, u 94, u 95, u 96, u 97, u 98, u 99, u 100, u 101, u 102, u 103, u 104, u 105, u 106, u 107, u 108, u 109, u 110, u 111, u 112, u 113, u 114, u 115, u 116, u 117, u 118, u 119, u 120, u 121, u 122, u 123, u 124, u 125, u 126, u 127, u 128, u 129, u 130, u 131, u 132, .int .i64 (n : Int), .int .i64 (n : Int), u 135, u 136, u 137, u 138, u 139, u 140, u 141, u 142, u 143, u 144, u 145, u 146, u 147, u 148, u 149], []⟩ w := by
  have c0 : decide ((n : Int) < (n : Int)) = false := by simp
  conv => arg 2; whnf
  go_wp2
  exact hQ _ ⟨rfl, rfl⟩ rfl rfl rfl rfl rfl rfl rfl
theorem loopRB (s5 s6 s10 s11 s30 s31 s32 v : Value) (xs : List Int) (base : Nat) (hm : xs.length ≤ 140737488355328) (w0 : World)
    (Q : Exit → Act → World → Prop) (hQ : ∀ a' w', Fm 150 a' → sl a' 5 = s5 → sl a' 6 = s6 → sl a' 10 = s10 → sl a' 11 = s11 → sl a' 30 = s30 → sl a' 31 = s31 → sl a' 32 = s32 → Fr (fun k => some k = v.ownBlock) w0 w' → Q (.exit 5) a' w')
    (a : Act) (w : World) (h : Fm 150 a ∧ (sl a 5 = s5 ∧ sl a 6 = s6 ∧ sl a 10 = s10 ∧ sl a 11 = s11 ∧ sl a 30 = s30 ∧ sl a 31 = s31 ∧ sl a 32 = s32) ∧ sl a 17 = v ∧ sl a 133 = .int .i64 (xs.length : Int) ∧ sl a 134 = .int .i64 0 ∧ Fr (fun k => some k = v.ownBlock) w0 w ∧ OB w base v xs) : (Code.loop (bodyIn Try.f8 0 1)).wp Try.prog Q a w := by
  refine wp_loop_up xs.length (fun t a w => Fm 150 a ∧ (sl a 5 = s5 ∧ sl a 6 = s6 ∧ sl a 10 = s10 ∧ sl a 11 = s11 ∧ sl a 30 = s30 ∧ sl a 31 = s31 ∧ sl a 32 = s32) ∧ sl a 17 = v ∧ sl a 133 = .int .i64 (xs.length : Int) ∧ sl a 134 = .int .i64 (t : Int) ∧ Fr (fun k => some k = v.ownBlock) w0 w ∧ ∃ ys, ys.length = xs.length ∧ OB w base v ys) ?_ ?_
  · obtain ⟨h0, hk, h6, h7, h8, h9, h10⟩ := h
    exact ⟨h0, hk, h6, h7, h8, h9, xs, rfl, h10⟩
  rintro t a w ht ⟨hF, ⟨h5, h6, h10, h11, h30, h31, h32⟩, hV, hLn, hI, hf, ys, hy, hO⟩
  have ha := fm150 hF
  by_cases h64 : t = xs.length
  · subst h64
    rw [hLn, hI] at ha
    rw [ha]
    refine exitRB (sl a) _ w _ ?_
    intro a' b0 b5 b6 b10 b11 b30 b31 b32
    exact hQ _ _ b0 (b5.trans h5) (b6.trans h6) (b10.trans h10) (b11.trans h11) (b30.trans h30) (b31.trans h31) (b32.trans h32) hf
  · rw [hV, hLn, hI, ← hy] at ha
    rw [ha]
    refine roundRB (sl a) v ys base t (by omega) (by omega) w0 w hO hf _ ?_
    intro a' w' x b0 b5 b6 b10 b11 b30 b31 b32 c5 c6 c7 c8 c9
    exact ⟨by omega, b0, ⟨b5.trans h5, b6.trans h6, b10.trans h10, b11.trans h11, b30.trans h30, b31.trans h31, b32.trans h32⟩, c5, by rw [c6, hy], by rw [c7]; congr 1, c8, ys.set t x, by rw [List.length_set, hy], c9⟩
end Go.Proofs.Ytgcajmkbdhjooaa.Sha
