/-
  ShaApart, its walk: a hash goes on by itself.
-/
import Derived.Test.YtgnghgeljlaedaaShaM6
import Derived.Test.YtgnghgeljlaedaaShaKn
set_option linter.unusedVariables false
set_option linter.unusedSimpArgs false
namespace Go.Proofs.Ytgnghgeljlaedaa.Sha
open Go.RowKit Go.Proofs.YtgnghgeljlaedaaW.PrintWords Go.Proofs.YtgnghgeljlaedaaW.PrintLast Go.Proofs.YtgnghgeljlaedaaW.PrintMore Go.Proofs.Ytgnghgeljlaedaa.Q Go.Proofs.Ytgnghgeljlaedaa.Fr Go.Proofs.Ytgnghgeljlaedaa.Oct

set_option maxRecDepth 100000 in
theorem fm76 {a : Act} (h : Fm 76 a) : a = ⟨#[sl a 0, sl a 1, sl a 2, sl a 3, sl a 4, sl a 5, sl a 6, sl a 7, sl a 8, sl a 9, sl a 10, sl a 11, sl a 12, sl a 13, sl a 14, sl a 15, sl a 16, sl a 17, sl a 18, sl a 19, sl a 20, sl a 21, sl a 22, sl a 23, sl a 24, sl a 25, sl a 26, sl a 27, sl a 28, sl a 29, sl a 30, sl a 31, sl a 32, sl a 33, sl a 34, sl a 35, sl a 36, sl a 37, sl a 38, sl a 39, sl a 40, sl a 41, sl a 42, sl a 43, sl a 44, sl a 45, sl a 46, sl a 47, sl a 48, sl a 49, sl a 50, sl a 51, sl a 52, sl a 53, sl a 54, sl a 55, sl a 56, sl a 57, sl a 58, sl a 59, sl a 60, sl a 61, sl a 62, sl a 63, sl a 64, sl a 65, sl a 66, sl a 67, sl a 68, sl a 69, sl a 70, sl a 71, sl a 72, sl a 73, sl a 74, sl a 75], []⟩ := by
  obtain ⟨T, D⟩ := a
  obtain ⟨h1, h2⟩ := h
  obtain rfl : D = [] := h2
  obtain ⟨l⟩ := T
  have h1 : l.length = 76 := h1
  congr 2
  refine List.ext_getElem? fun i => ?_
  by_cases hi : i < 76
  · have hx : ∀ j, j < 76 → l[j]? = some (sl ⟨⟨l⟩, []⟩ j) := fun j hj => by
      have hl : j < l.length := by omega
      simp [sl, Array.getD_eq_getD_getElem?, List.getElem?_eq_getElem hl]
    rw [hx i hi]
    have : ∀ (s : Nat → Value) (i : Nat), i < 76 → ((List.range 76).map s)[i]? = some (s i) := fun s i hi => by simp [hi]
    exact (this _ i hi).symm
  · have h2 : ∀ (s : Nat → Value), ((List.range 76).map s)[i]? = none := fun s => by simp; omega
    exact (List.getElem?_eq_none (by omega)).trans (h2 _).symm

set_option maxHeartbeats 8000000 in
set_option maxRecDepth 100000 in
theorem roundX1 (u : Nat → Value) (v : Value) (xs : List Int) (base i : Nat) (hi : i < xs.length) (hm : xs.length ≤ 140737488355328) (w0 w : World) (h : OB w base v xs) (hf : Fr (fun k => some k = v.ownBlock) w0 w)
    (Q : Exit → Act → World → Prop) (hQ : ∀ a' w' x, Fm 76 a' → sl a' 0 = u 0 → sl a' 1 = u 1 → sl a' 5 = u 5 → sl a' 6 = u 6 → sl a' 7 = v → sl a' 29 = .int .i64 (xs.length : Int) → sl a' 30 = .int .i64 ((i : Int) + 1) → Fr (fun k => some k = v.ownBlock) w0 w' → OB w' base v (xs.set i x) → Q .normal a' w') :
    Code.wp Try.prog (bodyN Try.f6 0) Q ⟨#[u 0, u 1, u 2, u 3, u 4, u 5, u 6, v, u 8, u 9, u 10, u 11, u 12, u 13, u 14, u 15, u 16, u 17, u 18, u 19, u 20, u 21, u 22, u 23, u 24, u 25, u 26, u 27, u 28, .int .i64 (xs.length : Int), .int .i64 (i : Int), u 31, u 32, u 33, u 34, u 35, u 36, u 37, u 38, u 39, u 40, u 41, u 42, u 43, u 44, u 45, u 46, u 47, u 48, u 49, u 50, u 51, u 52, u 53, u 54, u 55, u 56, u 57, u 58, u 59, u 60, u 61, u 62, u 63, u 64, u 65, u 66, u 67, u 68, u 69, u 70, u 71, u 72, u 73, u 74, u 75], []⟩ w := by
  obtain ⟨g, c, rfl⟩ := h.form (by omega)
  have hr := (QB.rd (q_of_own h)).cells (i : Int) (by omega) (by omega)
  rw [Int.toNat_natCast, add_at, Nat.zero_add] at hr
  obtain ⟨x, hx⟩ : ∃ x, xs.getD i 0 = x := ⟨_, rfl⟩
  rw [hx] at hr
  obtain ⟨cells, hg⟩ := (q_typed (q_of_own h) g rfl).2
  have fz := frozenV hg i
  have HH := Aside0.mk (And.intro h hf)
  clear h hf hx hg
  have c0 : decide ((i : Int) < (xs.length : Int)) = true := decide_eq_true (by omega)
  have b1 : (0 : Int) ≤ (i : Int) := by omega
  have b2 : (i : Int) < (xs.length : Int) := by omega
  conv => arg 2; whnf
  go_wp2
  refine hQ _ _ (Go.bits .xor .u8 x 255) ⟨rfl, rfl⟩ rfl rfl rfl rfl rfl rfl rfl ?_ ?_
  · exact HH.out.2.setCell (p := ⟨g, i, none⟩) (.inl rfl) _
  · have := OB.put HH.out.1 i hi (Go.bits .xor .u8 x 255)
    rw [List.length_set] at this
    exact this
set_option maxHeartbeats 8000000 in
set_option maxRecDepth 100000 in
theorem exitX1 (u : Nat → Value) (n : Nat) (w : World) (Q : Exit → Act → World → Prop) (hQ : ∀ a', Fm 76 a' → sl a' 0 = u 0 → sl a' 1 = u 1 → sl a' 5 = u 5 → sl a' 6 = u 6 → Q (.exit 0) a' w) :
    Code.wp Try.prog (bodyN Try.f6 0) Q ⟨#[u 0, u 1, u 2, u 3, u 4, u 5, u 6, u 7, u 8, u 9, u 10, u 11, u 12, u 13, u 14, u 15, u 16, u 17, u 18, u 19, u 20, u 21, u 22, u 23, u 24, u 25, u 26, u 27, u 28, .int .i64 (n : Int), .int .i64 (n : Int), u 31, u 32, u 33, u 34, u 35, u 36, u 37, u 38, u 39, u 40, u 41, u 42, u 43, u 44, u 45, u 46, u 47, u 48, u 49, u 50, u 51, u 52, u 53, u 54, u 55, u 56, u 57, u 58, u 59, u 60, u 61, u 62, u 63, u 64, u 65, u 66, u 67, u 68, u 69, u 70, u 71, u 72, u 73, u 74, u 75], []⟩ w := by
  have c0 : decide ((n : Int) < (n : Int)) = false := by simp
  conv => arg 2; whnf
  go_wp2
  exact hQ _ ⟨rfl, rfl⟩ rfl rfl rfl rfl
theorem loopX1 (s0 s1 s5 s6 v : Value) (xs : List Int) (base : Nat) (hm : xs.length ≤ 140737488355328) (w0 : World)
    (Q : Exit → Act → World → Prop) (hQ : ∀ a' w', Fm 76 a' → sl a' 0 = s0 → sl a' 1 = s1 → sl a' 5 = s5 → sl a' 6 = s6 → Fr (fun k => some k = v.ownBlock) w0 w' → Q (.exit 0) a' w')
    (a : Act) (w : World) (h : Fm 76 a ∧ sl a 0 = s0 ∧ sl a 1 = s1 ∧ sl a 5 = s5 ∧ sl a 6 = s6 ∧ sl a 7 = v ∧ sl a 29 = .int .i64 (xs.length : Int) ∧ sl a 30 = .int .i64 0 ∧ Fr (fun k => some k = v.ownBlock) w0 w ∧ OB w base v xs) : (Code.loop (bodyN Try.f6 0)).wp Try.prog Q a w := by
  refine wp_loop_up xs.length (fun t a w => Fm 76 a ∧ sl a 0 = s0 ∧ sl a 1 = s1 ∧ sl a 5 = s5 ∧ sl a 6 = s6 ∧ sl a 7 = v ∧ sl a 29 = .int .i64 (xs.length : Int) ∧ sl a 30 = .int .i64 (t : Int) ∧ Fr (fun k => some k = v.ownBlock) w0 w ∧ ∃ ys, ys.length = xs.length ∧ OB w base v ys) ?_ ?_
  · obtain ⟨h0, h1, h2, h3, h4, h5, h6, h7, h8, h9⟩ := h
    exact ⟨h0, h1, h2, h3, h4, h5, h6, h7, h8, xs, rfl, h9⟩
  rintro t a w ht ⟨hF, h0, h1, h5, h6, h7, h29, h30, hf, ys, hy, hO⟩
  have ha := fm76 hF
  by_cases h64 : t = xs.length
  · subst h64
    rw [h29, h30] at ha
    rw [ha]
    exact exitX1 (sl a) _ w _ fun a' b0 b1 b2 b3 b4 => hQ _ _ b0 (b1.trans h0) (b2.trans h1) (b3.trans h5) (b4.trans h6) hf
  · rw [h7, h29, h30, ← hy] at ha
    rw [ha]
    refine roundX1 (sl a) v ys base t (by omega) (by omega) w0 w hO hf _ ?_
    intro a' w' x b0 b1 b2 b3 b4 b5 b6 b7 b8 b9
    exact ⟨by omega, b0, b1.trans h0, b2.trans h1, b3.trans h5, b4.trans h6, b5, by rw [b6, hy], by rw [b7]; congr 1, b8, ys.set t x, by rw [List.length_set, hy], b9⟩
set_option maxHeartbeats 8000000 in
set_option maxRecDepth 100000 in
theorem roundX3 (u : Nat → Value) (v : Value) (xs : List Int) (base i : Nat) (hi : i < xs.length) (hm : xs.length ≤ 140737488355328) (w0 w : World) (h : OB w base v xs) (hf : Fr (fun k => some k = v.ownBlock) w0 w)
    (Q : Exit → Act → World → Prop) (hQ : ∀ a' w' x, Fm 76 a' → sl a' 0 = u 0 → sl a' 1 = u 1 → sl a' 5 = u 5 → sl a' 6 = u 6 → sl a' 9 = v → sl a' 49 = .int .i64 (xs.length : Int) → sl a' 50 = .int .i64 ((i : Int) + 1) → Fr (fun k => some k = v.ownBlock) w0 w' → OB w' base v (xs.set i x) → Q .normal a' w') :
    Code.wp Try.prog (bodyN Try.f6 1) Q ⟨#[u 0, u 1, u 2, u 3, u 4, u 5, u 6, u 7, u 8, v, u 10, u 11, u 12, u 13, u 14, u 15, u 16, u 17, u 18, u 19, u 20, u 21, u 22, u 23, u 24, u 25, u 26, u 27, u 28, u 29, u 30, u 31, u 32, u 33, u 34, u 35, u 36, u 37, u 38, u 39, u 40, u 41, u 42, u 43, u 44, u 45, u 46, u 47, u 48, .int .i64 (xs.length : Int), .int .i64 (i : Int), u 51, u 52, u 53, u 54, u 55, u 56, u 57, u 58, u 59, u 60, u 61, u 62, u 63, u 64, u 65, u 66, u 67, u 68, u 69, u 70, u 71, u 72, u 73, u 74, u 75], []⟩ w := by
  obtain ⟨g, c, rfl⟩ := h.form (by omega)
  have hr := (QB.rd (q_of_own h)).cells (i : Int) (by omega) (by omega)
  rw [Int.toNat_natCast, add_at, Nat.zero_add] at hr
  obtain ⟨x, hx⟩ : ∃ x, xs.getD i 0 = x := ⟨_, rfl⟩
  rw [hx] at hr
  obtain ⟨cells, hg⟩ := (q_typed (q_of_own h) g rfl).2
  have fz := frozenV hg i
  have HH := Aside0.mk (And.intro h hf)
  clear h hf hx hg
  have c0 : decide ((i : Int) < (xs.length : Int)) = true := decide_eq_true (by omega)
  have b1 : (0 : Int) ≤ (i : Int) := by omega
  have b2 : (i : Int) < (xs.length : Int) := by omega
  conv => arg 2; whnf
  go_wp2
  refine hQ _ _ (Go.bits .xor .u8 x 255) ⟨rfl, rfl⟩ rfl rfl rfl rfl rfl rfl rfl ?_ ?_
  · exact HH.out.2.setCell (p := ⟨g, i, none⟩) (.inl rfl) _
  · have := OB.put HH.out.1 i hi (Go.bits .xor .u8 x 255)
    rw [List.length_set] at this
    exact this
set_option maxHeartbeats 8000000 in
set_option maxRecDepth 100000 in
theorem exitX3 (u : Nat → Value) (n : Nat) (w : World) (Q : Exit → Act → World → Prop) (hQ : ∀ a', Fm 76 a' → sl a' 0 = u 0 → sl a' 1 = u 1 → sl a' 5 = u 5 → sl a' 6 = u 6 → Q (.exit 2) a' w) :
    Code.wp Try.prog (bodyN Try.f6 1) Q ⟨#[u 0, u 1, u 2, u 3, u 4, u 5, u 6, u 7, u 8, u 9, u 10, u 11, u 12, u 13, u 14, u 15, u 16, u 17, u 18, u 19, u 20, u 21, u 22, u 23, u 24, u 25, u 26, u 27, u 28, u 29, u 30, u 31, u 32, u 33, u 34, u 35, u 36, u 37, u 38, u 39, u 40, u 41, u 42, u 43, u 44, u 45, u 46, u 47, u 48, .int .i64 (n : Int), .int .i64 (n : Int), u 51, u 52, u 53, u 54, u 55, u 56, u 57, u 58, u 59, u 60, u 61, u 62, u 63, u 64, u 65, u 66, u 67, u 68, u 69, u 70, u 71, u 72, u 73, u 74, u 75], []⟩ w := by
  have c0 : decide ((n : Int) < (n : Int)) = false := by simp
  conv => arg 2; whnf
  go_wp2
  exact hQ _ ⟨rfl, rfl⟩ rfl rfl rfl rfl
theorem loopX3 (s0 s1 s5 s6 v : Value) (xs : List Int) (base : Nat) (hm : xs.length ≤ 140737488355328) (w0 : World)
    (Q : Exit → Act → World → Prop) (hQ : ∀ a' w', Fm 76 a' → sl a' 0 = s0 → sl a' 1 = s1 → sl a' 5 = s5 → sl a' 6 = s6 → Fr (fun k => some k = v.ownBlock) w0 w' → Q (.exit 2) a' w')
    (a : Act) (w : World) (h : Fm 76 a ∧ sl a 0 = s0 ∧ sl a 1 = s1 ∧ sl a 5 = s5 ∧ sl a 6 = s6 ∧ sl a 9 = v ∧ sl a 49 = .int .i64 (xs.length : Int) ∧ sl a 50 = .int .i64 0 ∧ Fr (fun k => some k = v.ownBlock) w0 w ∧ OB w base v xs) : (Code.loop (bodyN Try.f6 1)).wp Try.prog Q a w := by
  refine wp_loop_up xs.length (fun t a w => Fm 76 a ∧ sl a 0 = s0 ∧ sl a 1 = s1 ∧ sl a 5 = s5 ∧ sl a 6 = s6 ∧ sl a 9 = v ∧ sl a 49 = .int .i64 (xs.length : Int) ∧ sl a 50 = .int .i64 (t : Int) ∧ Fr (fun k => some k = v.ownBlock) w0 w ∧ ∃ ys, ys.length = xs.length ∧ OB w base v ys) ?_ ?_
  · obtain ⟨h0, h1, h2, h3, h4, h5, h6, h7, h8, h9⟩ := h
    exact ⟨h0, h1, h2, h3, h4, h5, h6, h7, h8, xs, rfl, h9⟩
  rintro t a w ht ⟨hF, h0, h1, h5, h6, h7, h29, h30, hf, ys, hy, hO⟩
  have ha := fm76 hF
  by_cases h64 : t = xs.length
  · subst h64
    rw [h29, h30] at ha
    rw [ha]
    exact exitX3 (sl a) _ w _ fun a' b0 b1 b2 b3 b4 => hQ _ _ b0 (b1.trans h0) (b2.trans h1) (b3.trans h5) (b4.trans h6) hf
  · rw [h7, h29, h30, ← hy] at ha
    rw [ha]
    refine roundX3 (sl a) v ys base t (by omega) (by omega) w0 w hO hf _ ?_
    intro a' w' x b0 b1 b2 b3 b4 b5 b6 b7 b8 b9
    exact ⟨by omega, b0, b1.trans h0, b2.trans h1, b3.trans h5, b4.trans h6, b5, by rw [b6, hy], by rw [b7]; congr 1, b8, ys.set t x, by rw [List.length_set, hy], b9⟩
/-- Two hashes beside each other, in a world that has left all old blocks as they were in w. -/
structure St (w W : World) (gh gg : Nat) (rh rg : Value) (lh lg : List Int) : Prop where
  F : Fr (fun _ => False) w W
  hh : Holds W w.heap.size gh rh lh
  hg : Holds W w.heap.size gg rg lg
  hd : ∀ k, Fp gh rh k → ¬ Fp gg rg k
theorem St.fr {w W W' : World} {gh gg : Nat} {rh rg : Value} {lh lg : List Int} {S : Nat → Prop} (h : St w W gh gg rh rg lh lg) (hf : Fr S W W') (hS : ∀ k, S k → w.heap.size ≤ k ∧ ¬ Fp gh rh k ∧ ¬ Fp gg rg k) : St w W' gh gg rh rg lh lg :=
  ⟨h.F.trans hf (fun k hk => .inr (hS k hk).1), h.hh.fr hf (fun k hk hs => (hS k hs).2.1 hk), h.hg.fr hf (fun k hk hs => (hS k hs).2.2 hk), h.hd⟩
theorem St.below {w W W' : World} {gh gg : Nat} {rh rg : Value} {lh lg : List Int} (h : St w W gh gg rh rg lh lg) (hb : Below W.heap.size W W') : St w W' gh gg rh rg lh lg := h.fr (Fr.of_below hb (fun _ => False)) (fun k hk => hk.elim)
/-- A row that began behind N is written; both hashes lay ahead of it. -/
theorem St.row {w W W' : World} {gh gg : Nat} {rh rg : Value} {lh lg : List Int} {v : Value} (h : St w W gh gg rh rg lh lg) (hf : Fr (fun k => some k = v.ownBlock) W W') (hv : ∀ k, v.ownBlock = some k → w.heap.size ≤ k ∧ ¬ Fp gh rh k ∧ ¬ Fp gg rg k) : St w W' gh gg rh rg lh lg := h.fr hf (fun k hk => hv k hk.symm)
theorem St.write_h {w W W' : World} {gh gg : Nat} {rh rh' rg : Value} {lh lh' lg : List Int} (h : St w W gh gg rh rg lh lg) (hf : Fr (Fp gh rh) W W') (hh : Holds W' w.heap.size gh rh' lh') (hn : ∀ k, Fp gh rh' k → Fp gh rh k ∨ W.heap.size ≤ k) : St w W' gh gg rh' rg lh' lg :=
  ⟨h.F.trans hf (fun k hk => .inr (h.hh.base k hk)), hh, h.hg.fr hf (fun k hk hs => h.hd k hs hk), fun k hk hk2 => (hn k hk).elim (fun h1 => h.hd k h1 hk2) (fun h1 => by have := h.hg.lt k hk2; omega)⟩
theorem St.write_g {w W W' : World} {gh gg : Nat} {rh rg rg' : Value} {lh lg lg' : List Int} (h : St w W gh gg rh rg lh lg) (hf : Fr (Fp gg rg) W W') (hg : Holds W' w.heap.size gg rg' lg') (hn : ∀ k, Fp gg rg' k → Fp gg rg k ∨ W.heap.size ≤ k) : St w W' gh gg rh rg' lh lg' :=
  ⟨h.F.trans hf (fun k hk => .inr (h.hg.base k hk)), h.hh.fr hf (fun k hk hs => h.hd k hk hs), hg, fun k hk hk2 => (hn k hk2).elim (fun h1 => h.hd k hk h1) (fun h1 => by have := h.hh.lt k hk; omega)⟩
set_option maxHeartbeats 8000000 in
set_option maxRecDepth 100000 in
theorem apart_calls (Aa Ab : Option Addr) (ca cb : Nat) (la lb : List Int) (w : World) (hra : Rd w Aa la) (hrb : Rd w Ab lb) (hca : la.length ≤ ca) (hcb : lb.length ≤ cb) (hla : la.length ≤ 140737488351232) (hlb : lb.length ≤ 140737488351232) :
    Calls Try.prog 6 #[.slice Aa la.length ca, .slice Ab lb.length cb] w fun e w' => e = .returned (.bool true) ∧ Below w.heap.size w w' := by
  go_enter Try.func6, Try.ntmps6
  go_wp2_with (fail)
  refine (alive_calls w).mono ?_
  rintro e w1 ⟨rfl, hb1⟩
  go_wp2_with (fail)
  refine (new_holds w1).mono ?_
  rintro e w2 ⟨gh, rfl, hh2, hb2⟩
  go_wp2_with (fail)
  refine (new_holds w2).mono ?_
  rintro e w3 ⟨gg, rfl, hg3, hb3⟩
  have s1 := hb1.size
  have s2 := hb2.size
  have F3 := ((Fr.of_below hb1 (fun _ => False)).trans (Fr.of_below hb2 (fun _ => False)) (fun i h => h.elim)).trans (Fr.of_below hb3 (fun _ => False)) (fun i h => h.elim)
  have hs3 : St w w3 gh gg (.slice none 0 0) (.slice none 0 0) [] [] := ⟨F3, (hh2.fr (Fr.of_below hb3 (fun _ => False)) (fun k _ h => h)).lower s1, hg3.lower (by omega), fun k hk hk2 => by have := hh2.lt k hk; have := hg3.base k hk2; omega⟩
  have H3 := Aside0.mk (And.intro hs3 (And.intro hra (And.intro hrb (And.intro hca hcb))))
  clear hh2 hg3 F3 hb1 hb2 hb3 hs3 hra hrb s1 s2 hca hcb
  go_wp2_with (first | ((with_reducible refine gate_dst (N := 21) rfl ?_); refine Kd.R_lit (Kd.int .u8) (w0 := w3) w3.heap.size 5 (by rfl) (N := 21) (by rfl) (xs := ([] : List Int)) (inner := []) (ok := fun _ => True) (okp := fun _ => True) (by first | (go_simp; done) | (go_simp; rfl)) (Reps.none _ _) (fun _ hk => hk) trivial (Below.refl _ _) (Nat.le_refl _) (by simp) ?_; intro v4 w4 ho4 hb4 hg4 hn4) | ((with_reducible refine gate_builtin (b := .append) (xs := #[.tmp 21, .tmp 22]) rfl ?_); at_builtin; refine Aside0.out ?_) | fail)
  refine ⟨?_⟩
  have hO4 : OB w4 w3.heap.size v4 [] := Kd.own_of_R ho4
  have hs4 := H3.out.1.below hb4
  have z4 := hb4.size
  have z3 := H3.out.1.F.size
  refine wpList_appe rfl (by rfl) w3.heap.size _ _ (by rfl) info5 v4 [] (by rfl) hO4 Aa la.length ca la (by rfl) rfl (H3.out.2.1.fr hs4.F (fun _ _ h => h)) (by simp only [List.length_nil]; omega) (by omega) ?_
  intro v5 w5 hO5 hf5 hat5
  rw [List.nil_append] at hO5
  have far : ∀ k, w3.heap.size ≤ k → w.heap.size ≤ k ∧ ¬ Fp gh (.slice none 0 0) k ∧ ¬ Fp gg (.slice none 0 0) k := fun k hk => ⟨by omega, fun h => by have := H3.out.1.hh.lt k h; omega, fun h => by have := H3.out.1.hg.lt k h; omega⟩
  have hs5 := hs4.fr hf5 (fun k hk => far k (hO4.base k hk.symm))
  have z5 := hf5.size
  obtain ⟨A5, c5, rfl, hc5⟩ := hO5.slice
  have H5 := Aside0.mk (And.intro hs5 (And.intro hO5 (And.intro hc5 (And.intro far H3.out.2))))
  clear H3 ho4 hb4 hg4 hn4 hO4 hs4 hf5 hat5 hO5 hs5 far
  go_wp2_with (fail)
  have hg6 := heap_alloc_new w5 (.cells #[Value.slice A5 la.length c5] 23)
  have z6 : (w5.alloc (.cells #[Value.slice A5 la.length c5] 23)).heap.size = w5.heap.size + 1 := by rw [World.size_alloc]
  have hb6 := below_alloc (Below.refl w5.heap.size w5) (.cells #[Value.slice A5 la.length c5] 23)
  generalize w5.alloc (.cells #[Value.slice A5 la.length c5] 23) = w6 at *
  have hs6 := H5.out.1.below hb6
  have hO6 := H5.out.2.1.fr (Fr.of_below hb6 (fun _ => False)) (fun _ _ h => h)
  refine (write_holds gh w.heap.size (.slice none 0 0) [] (some ⟨w5.heap.size, 0, none⟩) 1 [la] (by simp) (fun p hp => by have : p = la := (by simpa using hp); rw [this]; omega) w6 hs6.hh (by omega) (parts_one hg6 H5.out.2.2.1 (QB.rd (q_of_own hO6)) (fun h => by have := H5.out.1.hh.lt _ h; omega) (fun ad e _ h => (H5.out.2.2.2.1 ad.block (hO6.base _ (by rw [e]; rfl))).2.1 h)) (by simp; omega)).mono ?_
  rintro e w7 ⟨rfl, hf7, rh, hh7, hn7⟩
  rw [show ([] : List Int) ++ [la].flatten = la by simp] at hh7
  have hs7 := hs6.write_h hf7 hh7 hn7
  have z7 := hf7.size
  have hO7 := hO6.fr hf7 (fun k hk h => (H5.out.2.2.2.1 k (hO6.base k hk)).2.1 h)
  have hv7 : ∀ k, (Value.slice A5 la.length c5).ownBlock = some k → w.heap.size ≤ k ∧ ¬ Fp gh rh k ∧ ¬ Fp gg (.slice none 0 0) k := fun k hk => by
    have h1 := H5.out.2.2.2.1 k (hO6.base k hk)
    refine ⟨h1.1, fun h => ?_, h1.2.2⟩
    rcases hn7 k h with h2 | h2
    · exact h1.2.1 h2
    · have := q_lt (q_of_own hO6) k hk; omega
  have H7 := Aside0.mk (And.intro hs7 (And.intro hO7 (And.intro hv7 H5.out.2.2.2.2)))
  clear H5 hg6 hb6 hs6 hO6 hf7 hh7 hn7 hs7 hO7 hv7
  go_wp2
  refine loopX1 (.slice Aa la.length ca) (.slice Ab lb.length cb) (.pointer (some ⟨gh, 0, none⟩)) (.pointer (some ⟨gg, 0, none⟩)) (.slice A5 la.length c5) la w3.heap.size (by omega) w7 _ ?_ _ _ ⟨⟨rfl, rfl⟩, rfl, rfl, rfl, rfl, rfl, rfl, rfl, Fr.refl _ _, H7.out.2.1⟩
  intro a' w8 hFm j0 j1 j5 j6 jf
  rw [fm76 hFm, j0, j1, j5, j6]
  have hs8 := H7.out.1.row jf H7.out.2.2.1
  have z8 := jf.size
  have H8 := Aside0.mk (And.intro hs8 H7.out.2.2.2)
  clear H7 hFm j0 j1 j5 j6 jf hs8
  go_wp2_with (first | ((with_reducible refine gate_dst (N := 41) rfl ?_); refine Kd.R_lit (Kd.int .u8) (w0 := w8) w8.heap.size 5 (by rfl) (N := 41) (by rfl) (xs := ([] : List Int)) (inner := []) (ok := fun _ => True) (okp := fun _ => True) (by first | (go_simp; done) | (go_simp; rfl)) (Reps.none _ _) (fun _ hk => hk) trivial (Below.refl _ _) (Nat.le_refl _) (by simp) ?_; intro v9 w9 ho9 hb9 hg9 hn9) | ((with_reducible refine gate_builtin (b := .append) (xs := #[.tmp 41, .tmp 42]) rfl ?_); at_builtin; refine Aside0.out ?_) | fail)
  refine ⟨?_⟩
  have hO9 : OB w9 w8.heap.size v9 [] := Kd.own_of_R ho9
  have hs9 := H8.out.1.below hb9
  have z9 := hb9.size
  refine wpList_appe rfl (by rfl) w8.heap.size _ _ (by rfl) info5 v9 [] (by rfl) hO9 Ab lb.length cb lb (by rfl) rfl (H8.out.2.2.1.fr hs9.F (fun _ _ h => h)) (by simp only [List.length_nil]; omega) (by omega) ?_
  intro v10 w10 hO10 hf10 hat10
  rw [List.nil_append] at hO10
  have far : ∀ k, w8.heap.size ≤ k → w.heap.size ≤ k ∧ ¬ Fp gh rh k ∧ ¬ Fp gg (.slice none 0 0) k := fun k hk => ⟨by omega, fun h => by have := H8.out.1.hh.lt k h; omega, fun h => by have := H8.out.1.hg.lt k h; omega⟩
  have hs10 := hs9.fr hf10 (fun k hk => far k (hO9.base k hk.symm))
  have z10 := hf10.size
  obtain ⟨A10, c10, rfl, hc10⟩ := hO10.slice
  have H10 := Aside0.mk (And.intro hs10 (And.intro hO10 (And.intro hc10 (And.intro far H8.out.2))))
  clear H8 ho9 hb9 hg9 hn9 hO9 hs9 hf10 hat10 hO10 hs10 far
  go_wp2_with (fail)
  have hg11 := heap_alloc_new w10 (.cells #[Value.slice A10 lb.length c10] 23)
  have z11 : (w10.alloc (.cells #[Value.slice A10 lb.length c10] 23)).heap.size = w10.heap.size + 1 := by rw [World.size_alloc]
  have hb11 := below_alloc (Below.refl w10.heap.size w10) (.cells #[Value.slice A10 lb.length c10] 23)
  generalize w10.alloc (.cells #[Value.slice A10 lb.length c10] 23) = w11 at *
  have hs11 := H10.out.1.below hb11
  have hO11 := H10.out.2.1.fr (Fr.of_below hb11 (fun _ => False)) (fun _ _ h => h)
  refine (write_holds gg w.heap.size (.slice none 0 0) [] (some ⟨w10.heap.size, 0, none⟩) 1 [lb] (by simp) (fun p hp => by have : p = lb := (by simpa using hp); rw [this]; omega) w11 hs11.hg (by omega) (parts_one hg11 H10.out.2.2.1 (QB.rd (q_of_own hO11)) (fun h => by have := H10.out.1.hg.lt _ h; omega) (fun ad e _ h => (H10.out.2.2.2.1 ad.block (hO11.base _ (by rw [e]; rfl))).2.2 h)) (by simp; omega)).mono ?_
  rintro e w12 ⟨rfl, hf12, rg, hh12, hn12⟩
  rw [show ([] : List Int) ++ [lb].flatten = lb by simp] at hh12
  have hs12 := hs11.write_g hf12 hh12 hn12
  have z12 := hf12.size
  have H12 := Aside0.mk (And.intro hs12 H10.out.2.2.2.2)
  clear H10 hg11 hb11 hs11 hO11 hf12 hh12 hn12 hs12
  go_wp2_with (fail)
  refine (sum_holds gh w.heap.size rh la w12 H12.out.1.hh).mono ?_
  rintro e w13 ⟨v13, rfl, hO13, hb13⟩
  have hs13 := H12.out.1.below hb13
  have z13 := hb13.size
  have hv13 : ∀ k, v13.ownBlock = some k → w.heap.size ≤ k ∧ ¬ Fp gh rh k ∧ ¬ Fp gg rg k := fun k hk => ⟨by have := hO13.base k hk; omega, fun h => by have := hO13.base k hk; have := H12.out.1.hh.lt k h; omega, fun h => by have := hO13.base k hk; have := H12.out.1.hg.lt k h; omega⟩
  obtain ⟨A13, c13, rfl, hc13⟩ := hO13.slice
  have H13 := Aside0.mk (And.intro hs13 (And.intro hO13 (And.intro hv13 H12.out.2)))
  clear H12 hO13 hb13 hs13 hv13
  go_wp2
  refine loopX3 (.slice Aa la.length ca) (.slice Ab lb.length cb) (.pointer (some ⟨gh, 0, none⟩)) (.pointer (some ⟨gg, 0, none⟩)) (.slice A13 (sha la).length c13) (sha la) w12.heap.size (by rw [sha, outB_len, run_len]; decide) w13 _ ?_ _ _ ⟨⟨rfl, rfl⟩, rfl, rfl, rfl, rfl, rfl, rfl, rfl, Fr.refl _ _, H13.out.2.1⟩
  intro a'' w14 hFm j0 j1 j5 j6 jf
  rw [fm76 hFm, j0, j1, j5, j6]
  have hs14 := H13.out.1.row jf H13.out.2.2.1
  have z14 := jf.size
  have H14 := Aside0.mk (And.intro hs14 H13.out.2.2.2)
  clear H13 hFm j0 j1 j5 j6 jf hs14 hc13
  go_wp2_with (fail)
  refine (sum_holds gh w.heap.size rh la w14 H14.out.1.hh).mono ?_
  rintro e w15 ⟨v15, rfl, hO15, hb15⟩
  have hs15 := H14.out.1.below hb15
  have z15 := hb15.size
  obtain ⟨A15, c15, rfl, hc15⟩ := hO15.slice
  have H15 := Aside0.mk (And.intro hs15 (And.intro (QB.rd (q_of_own hO15)) H14.out.2))
  clear H14 hO15 hb15 hs15
  go_wp2_with (first | ((with_reducible refine gate_dst (N := 62) rfl ?_); refine Kd.R_lit (Kd.int .u8) (w0 := w15) w15.heap.size 5 (by rfl) (N := 62) (by rfl) (xs := ([] : List Int)) (inner := []) (ok := fun _ => True) (okp := fun _ => True) (by first | (go_simp; done) | (go_simp; rfl)) (Reps.none _ _) (fun _ hk => hk) trivial (Below.refl _ _) (Nat.le_refl _) (by simp) ?_; intro v16 w16 ho16 hb16 hg16 hn16) | ((with_reducible refine gate_builtin (b := .append) (xs := #[.tmp 62, .tmp 63]) rfl ?_); at_builtin; refine Aside0.out ?_) | fail)
  refine ⟨?_⟩
  have hO16 : OB w16 w15.heap.size v16 [] := Kd.own_of_R ho16
  have f16 := Fr.of_below hb16 (fun _ => False)
  have hs16 := H15.out.1.below hb16
  have z16 := hb16.size
  refine wpList_appe rfl (by rfl) w15.heap.size _ _ (by rfl) info5 v16 [] (by rfl) hO16 Aa la.length ca la (by rfl) rfl (H15.out.2.2.1.fr hs16.F (fun _ _ h => h)) (by simp only [List.length_nil]; omega) (by omega) ?_
  intro v17 w17 hO17 hf17 hat17
  rw [List.nil_append] at hO17
  have f17 : Fr (fun _ => False) w15 w17 := f16.trans hf17 (fun k hk => .inr (hO16.base k hk.symm))
  have hs17 := H15.out.1.fr f17 (fun k hk => hk.elim)
  have z17 := hf17.size
  obtain ⟨A17, c17, rfl, hc17⟩ := hO17.slice
  have H17 := Aside0.mk (And.intro hs17 (And.intro (H15.out.2.1.fr f17 (fun _ _ h => h)) (And.intro hO17 (And.intro hc17 H15.out.2.2))))
  clear H15 ho16 hb16 hg16 hn16 hO16 f16 f17 hs16 hf17 hat17 hO17 hs17
  go_wp2_with (fail)
  refine (ssum_calls A17 c17 la w17 (QB.rd (q_of_own H17.out.2.2.1)) H17.out.2.2.2.1 (by omega)).mono ?_
  rintro e w18 ⟨v18, rfl, hO18, hb18⟩
  have f18 := Fr.of_below hb18 (fun _ => False)
  have z18 := hb18.size
  obtain ⟨A18, c18, rfl, hc18⟩ := hO18.slice
  have hsl : (sha la).length ≤ 9223372036854775807 := by rw [sha, outB_len, run_len]; decide
  have HL := Aside0.mk hsl
  clear hsl
  have H18 := Aside0.mk (And.intro (H17.out.1.below hb18) (And.intro (H17.out.2.1.fr f18 (fun _ _ h => h)) (And.intro (QB.rd (q_of_own hO18)) H17.out.2.2.2.2)))
  clear H17 hO18 hb18 f18
  go_wp2_with (fail)
  refine (catenaryref01_Same.calls A15 c15 (sha la) A18 c18 (sha la) true w18 (H18.out.2.1.C HL.out) hc15 (H18.out.2.2.1.C HL.out) hc18 (same_self _)).mono ?_
  rintro e w19 ⟨rfl, nd, hw19⟩
  have f19 : Fr (fun _ => False) w18 w19 := by rw [hw19]; exact (Fr.refl _ _).of_drewN nd
  have z19 := f19.size
  have H19 := Aside0.mk (And.intro (H18.out.1.fr f19 (fun k hk => hk.elim)) H18.out.2.2.2)
  clear H18 f19 hw19 HL hc15 hc18
  go_wp2_with (fail)
  refine (sum_holds gg w.heap.size rg lb w19 H19.out.1.hg).mono ?_
  rintro e w20 ⟨v20, rfl, hO20, hb20⟩
  have hs20 := H19.out.1.below hb20
  have z20 := hb20.size
  obtain ⟨A20, c20, rfl, hc20⟩ := hO20.slice
  have H20 := Aside0.mk (And.intro hs20 (And.intro (QB.rd (q_of_own hO20)) H19.out.2))
  clear H19 hO20 hb20 hs20
  go_wp2_with (first | ((with_reducible refine gate_dst (N := 70) rfl ?_); (try refine gate_guard (by rfl) ?_); refine Kd.R_lit (Kd.int .u8) (w0 := w20) w20.heap.size 5 (by rfl) (N := 70) (by rfl) (xs := ([] : List Int)) (inner := []) (ok := fun _ => True) (okp := fun _ => True) (by first | (go_simp; done) | (go_simp; rfl)) (Reps.none _ _) (fun _ hk => hk) trivial (Below.refl _ _) (Nat.le_refl _) (by simp) ?_; intro v21 w21 ho21 hb21 hg21 hn21) | ((with_reducible refine gate_builtin (b := .append) (xs := #[.tmp 70, .tmp 71]) rfl ?_); at_builtin; refine Aside0.out ?_) | fail)
  refine ⟨?_⟩
  refine gate_guard (by rfl) ?_
  have hO21 : OB w21 w20.heap.size v21 [] := Kd.own_of_R ho21
  have f21 := Fr.of_below hb21 (fun _ => False)
  have hs21 := H20.out.1.below hb21
  have z21 := hb21.size
  refine wpList_appe rfl (by rfl) w20.heap.size _ _ (by rfl) info5 v21 [] (by rfl) hO21 Ab lb.length cb lb (by rfl) rfl (H20.out.2.2.2.1.fr hs21.F (fun _ _ h => h)) (by simp only [List.length_nil]; omega) (by omega) ?_
  intro v22 w22 hO22 hf22 hat22
  rw [List.nil_append] at hO22
  have f22 : Fr (fun _ => False) w20 w22 := f21.trans hf22 (fun k hk => .inr (hO21.base k hk.symm))
  have hs22 := H20.out.1.fr f22 (fun k hk => hk.elim)
  have z22 := hf22.size
  obtain ⟨A22, c22, rfl, hc22⟩ := hO22.slice
  have H22 := Aside0.mk (And.intro hs22 (And.intro (H20.out.2.1.fr f22 (fun _ _ h => h)) (And.intro hO22 hc22)))
  clear H20 ho21 hb21 hg21 hn21 hO21 f21 f22 hs21 hf22 hat22 hO22 hs22
  go_wp2_with (fail)
  refine (ssum_calls A22 c22 lb w22 (QB.rd (q_of_own H22.out.2.2.1)) H22.out.2.2.2 (by omega)).mono ?_
  rintro e w23 ⟨v23, rfl, hO23, hb23⟩
  have f23 := Fr.of_below hb23 (fun _ => False)
  have z23 := hb23.size
  obtain ⟨A23, c23, rfl, hc23⟩ := hO23.slice
  have hsl : (sha lb).length ≤ 9223372036854775807 := by rw [sha, outB_len, run_len]; decide
  have HL := Aside0.mk hsl
  clear hsl
  have H23 := Aside0.mk (And.intro (H22.out.1.below hb23) (And.intro (H22.out.2.1.fr f23 (fun _ _ h => h)) (QB.rd (q_of_own hO23))))
  clear H22 hO23 hb23 f23
  go_wp2_with (fail)
  refine (catenaryref01_Same.calls A20 c20 (sha lb) A23 c23 (sha lb) true w23 (H23.out.2.1.C HL.out) hc20 (H23.out.2.2.C HL.out) hc23 (same_self _)).mono ?_
  rintro e w24 ⟨rfl, nd, hw24⟩
  have f24 : Fr (fun _ => False) w23 w24 := by rw [hw24]; exact (Fr.refl _ _).of_drewN nd
  have H24 := Aside0.mk (H23.out.1.fr f24 (fun k hk => hk.elim))
  clear H23 f24 hw24 HL hc20 hc23
  go_wp2
  go_ret
  exact ⟨rfl, H24.out.F.below _ (Nat.le_refl _) (fun i h => h.elim)⟩
theorem apart_row (A0 : Option Addr) (c0 : Nat) (l0 : List Int) (A1 : Option Addr) (c1 : Nat) (l1 : List Int) (w : World) (hC0 : Kd.C (Kd.int .u8) w A0 l0.length l0) (hl0 : l0.length ≤ c0) (hC1 : Kd.C (Kd.int .u8) w A1 l1.length l1) (hl1 : l1.length ≤ c1) (_ : Oct.Bys l0) (_ : Oct.Bys l1) (hz0 : l0.length ≤ reachBytes) (hz1 : l1.length ≤ reachBytes) :
    Calls Try.prog 6 #[.slice A0 l0.length c0, .slice A1 l1.length c1] w fun e w' => e = .returned (.bool true) ∧ Below w.heap.size w w' :=
  apart_calls A0 A1 c0 c1 l0 l1 w (Rd.of_C hC0) (Rd.of_C hC1) hl0 hl1 (by unfold reachBytes at hz0; omega) (by unfold reachBytes at hz1; omega)
end Go.Proofs.Ytgnghgeljlaedaa.Sha
