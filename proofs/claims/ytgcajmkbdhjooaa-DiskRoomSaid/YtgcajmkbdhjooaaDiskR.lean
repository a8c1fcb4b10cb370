/-
  DiskRoom: a disk never has more bytes than there is room for.
-/
import Derived.Test.YtgcajmkbdhjooaaDiskT
set_option linter.unusedVariables false
set_option linter.unusedSimpArgs false
namespace Go.Proofs.Ytgcajmkbdhjooaa.Sha
open Go.RowKit Go.Proofs.YtgcajmkbdhjooaaW.PrintWords Go.Proofs.YtgcajmkbdhjooaaW.PrintLast Go.Proofs.YtgcajmkbdhjooaaW.PrintMore Go.Proofs.Ytgcajmkbdhjooaa.Q Go.Proofs.Ytgcajmkbdhjooaa.Fr Go.Proofs.Ytgcajmkbdhjooaa.Oct

set_option maxRecDepth 100000 in
theorem fm106 {a : Act} (h : Fm 106 a) : a = ⟨#[sl a 0, sl a 1, sl a 2, sl a 3, sl a 4, sl a 5, sl a 6, sl a 7, sl a 8, sl a 9, sl a 10, sl a 11, sl a 12, sl a 13, sl a 14, sl a 15, sl a 16, sl a 17, sl a 18, sl a 19, sl a 20, sl a 21, sl a 22, sl a 23, sl a 24, sl a 25, sl a 26, sl a 27, sl a 28, sl a 29, sl a 30, sl a 31, sl a 32, sl a 33, sl a 34, sl a 35, sl a 36, sl a 37, sl a 38, sl a 39, sl a 40, sl a 41, sl a 42, sl a 43, sl a 44, sl a 45, sl a 46, sl a 47, sl a 48, sl a 49, sl a 50, sl a 51, sl a 52, sl a 53, sl a 54, sl a 55, sl a 56, sl a 57, sl a 58, sl a 59, sl a 60, sl a 61, sl a 62, sl a 63, sl a 64, sl a 65, sl a 66, sl a 67, sl a 68, sl a 69, sl a 70, sl a 71, sl a 72, sl a 73, sl a 74, sl a 75, sl a 76, sl a 77, sl a 78, sl a 79, sl a 80, sl a 81, sl a 82, sl a 83, sl a 84, sl a 85, sl a 86, sl a 87, sl a 88, sl a 89, sl a 90, sl a 91, sl a 92, sl a 93, sl a 94, sl a 95, sl a 96, sl a 97, sl a 98, sl a 99, sl a 100, sl a 101, sl a 102, sl a 103, sl a 104, sl a 105], []⟩ := by
  obtain ⟨T, D⟩ := a
  obtain ⟨h1, h2⟩ := h
  obtain rfl : D = [] := h2
  obtain ⟨l⟩ := T
  have h1 : l.length = 106 := h1
  congr 2
  refine List.ext_getElem? fun i => ?_
  by_cases hi : i < 106
  · have hx : ∀ j, j < 106 → l[j]? = some (sl ⟨⟨l⟩, []⟩ j) := fun j hj => by
      have hl : j < l.length := by omega
      simp [sl, Array.getD_eq_getD_getElem?, List.getElem?_eq_getElem hl]
    rw [hx i hi]
    have : ∀ (s : Nat → Value) (i : Nat), i < 106 → ((List.range 106).map s)[i]? = some (s i) := fun s i hi => by simp [hi]
    exact (this _ i hi).symm
  · have h2 : ∀ (s : Nat → Value), ((List.range 106).map s)[i]? = none := fun s => by simp; omega
    exact (List.getElem?_eq_none (by omega)).trans (h2 _).symm
/-- What the loop keeps: a disk that is whole, with no more than R bytes. -/
structure RM (w0 w : World) (g : Nat) (bv : Value) (d : Dsk) (R : Int) (t : Nat) : Prop where
  dk : Dk w0 w g bv d
  dead : d.dead = false
  set : d.set = false
  room : d.room = R
  lo : -(t : Int) ≤ d.writes
  hi : d.writes ≤ 0
  ln : (d.bytes.length : Int) ≤ R
set_option maxHeartbeats 8000000 in
set_option maxRecDepth 100000 in
theorem roundRA (u : Nat → Value) (A A2 : Option Addr) (c c2 : Nat) (L : List (List Int)) (bs : List Bool) (i : Nat) (hi : i < L.length) (hL : L.length ≤ 300) (hbl : bs.length ≤ 9223372036854775807) (hb : (L.getD i []).length ≤ 140737488351232) (w0 w : World) (hC : CC w0 A L) (hC2 : Kd.C Kd.bool w0 A2 bs.length bs) (g : Nat) (bv : Value) (d : Dsk) (R : Int) (hR : R ≤ 4194304) (H : RM w0 w g bv d R i) (hx : ¬ i < bs.length)
    (Q : Exit → Act → World → Prop)
    (hQ : ∀ a' w' bv' d', Fm 106 a' → sl a' 0 = u 0 → sl a' 1 = u 1 → sl a' 2 = .slice A2 bs.length c2 → sl a' 7 = .pointer (some ⟨g, 0, none⟩) → sl a' 8 = .int .i64 R → sl a' 32 = .slice A L.length c → sl a' 33 = .int .i64 (L.length : Int) → sl a' 34 = .int .i64 ((i : Int) + 1) → RM w0 w' g bv' d' R (i + 1) → Q .normal a' w') :
    Code.wp Try.prog (bodyN Try.f10 0) Q ⟨#[u 0, u 1, .slice A2 bs.length c2, u 3, u 4, u 5, u 6, .pointer (some ⟨g, 0, none⟩), .int .i64 R, u 9, u 10, u 11, u 12, u 13, u 14, u 15, u 16, u 17, u 18, u 19, u 20, u 21, u 22, u 23, u 24, u 25, u 26, u 27, u 28, u 29, u 30, u 31, .slice A L.length c, .int .i64 (L.length : Int), .int .i64 (i : Int), u 35, u 36, u 37, u 38, u 39, u 40, u 41, u 42, u 43, u 44, u 45, u 46, u 47, u 48, u 49, u 50, u 51, u 52, u 53, u 54, u 55, u 56, u 57, u 58, u 59, u 60, u 61, u 62, u 63, u 64, u 65, u 66, u 67, u 68, u 69, u 70, u 71, u 72, u 73, u 74, u 75, u 76, u 77, u 78, u 79, u 80, u 81, u 82, u 83, u 84, u 85, u 86, u 87, u 88, u 89, u 90, u 91, u 92, u 93, u 94, u 95, u 96, u 97, u 98, u 99, u 100, u 101, u 102, u 103, u 104, u 105], []⟩ w := by
  obtain ⟨ad, A0, c0, rfl, hcell0, hc0, hr⟩ := hC.get i hi
  have hcell := H.dk.F.cell hcell0 (fun h => h)
  have x0 : decide ((i : Int) < (bs.length : Int)) = false := decide_eq_false (by omega)
  clear hC hcell0 hC2
  obtain ⟨b, hn⟩ : ∃ b, L.getD i [] = b := ⟨_, rfl⟩
  rw [hn] at hcell hc0 hr hb
  clear hn
  obtain ⟨m, hm⟩ : ∃ m, L.length = m := ⟨_, rfl⟩
  rw [hm] at hi hL hQ ⊢
  clear hm
  have b0 : decide ((i : Int) < (m : Int)) = true := decide_eq_true (by omega)
  have b1 : (0 : Int) ≤ (i : Int) := by omega
  have b2 : (i : Int) < (m : Int) := by omega
  have b5 : wrap64 ((i : Int) + 1) = (i : Int) + 1 := by unfold wrap64; omega
  obtain ⟨n0, hn0⟩ : ∃ n0, d.bytes.length = n0 := ⟨_, rfl⟩
  have hln := H.ln
  rw [hn0] at hln
  obtain ⟨nb, hnb⟩ : ∃ nb, b.length = nb := ⟨_, rfl⟩
  rw [hnb] at hcell hc0 hb
  obtain ⟨nw, hnw⟩ : ∃ nw, n0 + nb = nw := ⟨_, rfl⟩
  have b6 : wrap64 ((n0 : Int) + (nb : Int)) = (nw : Int) := by unfold wrap64; omega
  have HH := Aside0.mk (And.intro H (And.intro hr (And.intro hQ (And.intro hn0 (And.intro hnb (And.intro hln (And.intro hb hR)))))))
  clear H hr hQ hln
  conv => arg 2; whnf
  go_wp2_with (fail)
  refine (bytes_calls g w0.heap.size bv d w HH.out.1.dk.at').mono ?_
  rintro e w1 ⟨v1, rfl, hO1, hb1⟩
  obtain ⟨A1, c1, e1, _⟩ := hO1.slice
  rw [hn0] at e1
  subst e1
  have h1 := HH.out.1.dk.below hb1
  have hcell1 := (Fr.of_below hb1 (fun _ => False)).cell hcell (fun h => h)
  have H1 := Aside0.mk h1
  clear hO1 hb1 h1 hcell
  go_wp2_with (first | ((with_reducible refine gate_dst (N := 65) rfl ?_); refine wpList_copyb rfl (by rfl) (fun _ => by rfl) (fun _ _ => by rfl) (by first | (go_simp; done) | (go_simp; rfl)) _ (by rfl) A0 nb c0 b (fun _ => rfl) HH.out.2.2.2.2.1.symm (HH.out.2.1.fr H1.out.F (fun _ _ h => h)) _ _ (by rfl) (fun _ _ => rfl) (fun _ _ => rfl) (by have := HH.out; omega) ?_; intro u3 v3 w3 hO3 hb3))
  obtain ⟨A3, c3, e3, hc3⟩ := hO3.slice
  subst e3
  have h3 := H1.out.below hb3
  have hlo := HH.out.1.lo
  have hhi := HH.out.1.hi
  have HW := Aside0.mk (And.intro hlo hhi)
  refine (app_calls g w0.heap.size bv d A3 c3 b w3 h3.at' h3.F.size (QB.rd (q_of_own hO3)) hc3 (by have := HH.out; omega) (hO3.far H1.out.ne) (by omega) (by omega)).mono ?_
  rintro e w4 ⟨rfl, hf4, bv4, hD4, hn4⟩
  clear hlo hhi
  have hsum : (d.bytes.length : Int) + (b.length : Int) = (nw : Int) := by rw [HH.out.2.2.2.1, HH.out.2.2.2.2.1, ← hnw]; rfl
  have hlb : (b.length : Int) = (nb : Int) := by rw [HH.out.2.2.2.2.1]
  by_cases hok : ((nw : Nat) : Int) ≤ R
  · have eO := Dsk.app_ok d b HH.out.1.dead (by rw [HH.out.1.room, hsum]; exact hok) (by rw [HH.out.1.set]; simp)
    rw [eO] at hD4 ⊢
    have h4 := h3.call hf4 hD4
    have c1' : decide (((nw : Nat) : Int) ≤ R) = true := decide_eq_true hok
    have c2' : decide (R < ((nw : Nat) : Int)) = false := decide_eq_false (Int.not_lt.2 hok)
    have H4 := Aside0.mk h4
    clear h4 h3 hO3 hb3 hf4 hD4 hn4 hcell1 H1 hsum hlb eO
    have HO := Aside0.mk (And.intro hok hnw)
    clear hok hnw hx hn0 hnb
    go_wp2_with (fail)
    refine (bytes_calls g w0.heap.size bv4 _ w4 H4.out.at').mono ?_
    rintro e w5 ⟨v5, rfl, hO5, hb5⟩
    obtain ⟨A5, c5, e5, _⟩ := hO5.slice
    rw [show (d.bytes ++ b).length = nw from by rw [List.length_append, HH.out.2.2.2.1, HH.out.2.2.2.2.1, HO.out.2]] at e5
    subst e5
    have H5 := Aside0.mk (H4.out.below hb5)
    clear H4 hO5 hb5
    go_wp2
    exact HH.out.2.2.1 _ _ bv4 _ ⟨rfl, rfl⟩ rfl rfl rfl rfl rfl rfl rfl rfl ⟨H5.out, HH.out.1.dead, HH.out.1.set, HH.out.1.room, by show -((i + 1 : Nat) : Int) ≤ d.writes - 1; have := HW.out; omega, by show d.writes - 1 ≤ 0; have := HW.out; omega, by rw [show (d.bytes ++ b).length = nw from by rw [List.length_append, HH.out.2.2.2.1, HH.out.2.2.2.2.1, HO.out.2]]; exact HO.out.1⟩
  · have eO := Dsk.app_full d b HH.out.1.dead (by rw [HH.out.1.room, hsum]; exact Int.lt_of_not_ge hok)
    rw [eO] at hD4 ⊢
    have h4 := h3.call hf4 hD4
    have c1' : decide (((nw : Nat) : Int) ≤ R) = false := decide_eq_false hok
    have c2' : decide (R < (n0 : Int)) = false := decide_eq_false (Int.not_lt.2 HH.out.2.2.2.2.2.1)
    have H4 := Aside0.mk h4
    clear h4 h3 hO3 hb3 hf4 hD4 hn4 hcell1 H1 hsum hlb eO
    have HO := Aside0.mk (And.intro hok hnw)
    clear hok hnw hx hn0 hnb
    go_wp2_with (fail)
    refine (bytes_calls g w0.heap.size bv4 d w4 H4.out.at').mono ?_
    rintro e w5 ⟨v5, rfl, hO5, hb5⟩
    obtain ⟨A5, c5, e5, _⟩ := hO5.slice
    rw [HH.out.2.2.2.1] at e5
    subst e5
    have H5 := Aside0.mk (H4.out.below hb5)
    clear H4 hO5 hb5
    go_wp2
    exact HH.out.2.2.1 _ _ bv4 d ⟨rfl, rfl⟩ rfl rfl rfl rfl rfl rfl rfl rfl ⟨H5.out, HH.out.1.dead, HH.out.1.set, HH.out.1.room, by have := HW.out; omega, HH.out.1.hi, HH.out.1.ln⟩
set_option maxHeartbeats 8000000 in
set_option maxRecDepth 100000 in
theorem roundRB (u : Nat → Value) (A A2 : Option Addr) (c c2 : Nat) (L : List (List Int)) (bs : List Bool) (i : Nat) (hi : i < L.length) (hL : L.length ≤ 300) (hbl : bs.length ≤ 9223372036854775807) (hb : (L.getD i []).length ≤ 140737488351232) (w0 w : World) (hC : CC w0 A L) (hC2 : Kd.C Kd.bool w0 A2 bs.length bs) (g : Nat) (bv : Value) (d : Dsk) (R : Int) (hR : R ≤ 4194304) (H : RM w0 w g bv d R i) (hx : i < bs.length) (hxv : rdOf false bs (i : Int) = false)
    (Q : Exit → Act → World → Prop)
    (hQ : ∀ a' w' bv' d', Fm 106 a' → sl a' 0 = u 0 → sl a' 1 = u 1 → sl a' 2 = .slice A2 bs.length c2 → sl a' 7 = .pointer (some ⟨g, 0, none⟩) → sl a' 8 = .int .i64 R → sl a' 32 = .slice A L.length c → sl a' 33 = .int .i64 (L.length : Int) → sl a' 34 = .int .i64 ((i : Int) + 1) → RM w0 w' g bv' d' R (i + 1) → Q .normal a' w') :
    Code.wp Try.prog (bodyN Try.f10 0) Q ⟨#[u 0, u 1, .slice A2 bs.length c2, u 3, u 4, u 5, u 6, .pointer (some ⟨g, 0, none⟩), .int .i64 R, u 9, u 10, u 11, u 12, u 13, u 14, u 15, u 16, u 17, u 18, u 19, u 20, u 21, u 22, u 23, u 24, u 25, u 26, u 27, u 28, u 29, u 30, u 31, .slice A L.length c, .int .i64 (L.length : Int), .int .i64 (i : Int), u 35, u 36, u 37, u 38, u 39, u 40, u 41, u 42, u 43, u 44, u 45, u 46, u 47, u 48, u 49, u 50, u 51, u 52, u 53, u 54, u 55, u 56, u 57, u 58, u 59, u 60, u 61, u 62, u 63, u 64, u 65, u 66, u 67, u 68, u 69, u 70, u 71, u 72, u 73, u 74, u 75, u 76, u 77, u 78, u 79, u 80, u 81, u 82, u 83, u 84, u 85, u 86, u 87, u 88, u 89, u 90, u 91, u 92, u 93, u 94, u 95, u 96, u 97, u 98, u 99, u 100, u 101, u 102, u 103, u 104, u 105], []⟩ w := by
  obtain ⟨ad, A0, c0, rfl, hcell0, hc0, hr⟩ := hC.get i hi
  have hcell := H.dk.F.cell hcell0 (fun h => h)
  obtain ⟨ad2, rfl, hx2⟩ := Kd.at_bool hC2 (i : Int) (by omega) (by omega)
  rw [Int.toNat_natCast, hxv] at hx2
  have hy := H.dk.F.cell hx2 (fun h => h)
  have x0 : decide ((i : Int) < (bs.length : Int)) = true := decide_eq_true (by omega)
  have x2 : (i : Int) < (bs.length : Int) := by omega
  clear hx2 hxv
  clear hC hcell0 hC2
  obtain ⟨b, hn⟩ : ∃ b, L.getD i [] = b := ⟨_, rfl⟩
  rw [hn] at hcell hc0 hr hb
  clear hn
  obtain ⟨m, hm⟩ : ∃ m, L.length = m := ⟨_, rfl⟩
  rw [hm] at hi hL hQ ⊢
  clear hm
  have b0 : decide ((i : Int) < (m : Int)) = true := decide_eq_true (by omega)
  have b1 : (0 : Int) ≤ (i : Int) := by omega
  have b2 : (i : Int) < (m : Int) := by omega
  have b5 : wrap64 ((i : Int) + 1) = (i : Int) + 1 := by unfold wrap64; omega
  obtain ⟨n0, hn0⟩ : ∃ n0, d.bytes.length = n0 := ⟨_, rfl⟩
  have hln := H.ln
  rw [hn0] at hln
  obtain ⟨nb, hnb⟩ : ∃ nb, b.length = nb := ⟨_, rfl⟩
  rw [hnb] at hcell hc0 hb
  obtain ⟨nw, hnw⟩ : ∃ nw, n0 + nb = nw := ⟨_, rfl⟩
  have b6 : wrap64 ((n0 : Int) + (nb : Int)) = (nw : Int) := by unfold wrap64; omega
  have HH := Aside0.mk (And.intro H (And.intro hr (And.intro hQ (And.intro hn0 (And.intro hnb (And.intro hln (And.intro hb hR)))))))
  clear H hr hQ hln
  conv => arg 2; whnf
  go_wp2_with (fail)
  refine (bytes_calls g w0.heap.size bv d w HH.out.1.dk.at').mono ?_
  rintro e w1 ⟨v1, rfl, hO1, hb1⟩
  obtain ⟨A1, c1, e1, _⟩ := hO1.slice
  rw [hn0] at e1
  subst e1
  have h1 := HH.out.1.dk.below hb1
  have hcell1 := (Fr.of_below hb1 (fun _ => False)).cell hcell (fun h => h)
  have hy1 := (Fr.of_below hb1 (fun _ => False)).cell hy (fun h => h)
  clear hy
  have H1 := Aside0.mk h1
  clear hO1 hb1 h1 hcell
  go_wp2_with (first | ((with_reducible refine gate_dst (N := 65) rfl ?_); refine wpList_copyb rfl (by rfl) (fun _ => by rfl) (fun _ _ => by rfl) (by first | (go_simp; done) | (go_simp; rfl)) _ (by rfl) A0 nb c0 b (fun _ => rfl) HH.out.2.2.2.2.1.symm (HH.out.2.1.fr H1.out.F (fun _ _ h => h)) _ _ (by rfl) (fun _ _ => rfl) (fun _ _ => rfl) (by have := HH.out; omega) ?_; intro u3 v3 w3 hO3 hb3))
  obtain ⟨A3, c3, e3, hc3⟩ := hO3.slice
  subst e3
  have h3 := H1.out.below hb3
  have hlo := HH.out.1.lo
  have hhi := HH.out.1.hi
  have HW := Aside0.mk (And.intro hlo hhi)
  refine (app_calls g w0.heap.size bv d A3 c3 b w3 h3.at' h3.F.size (QB.rd (q_of_own hO3)) hc3 (by have := HH.out; omega) (hO3.far H1.out.ne) (by omega) (by omega)).mono ?_
  rintro e w4 ⟨rfl, hf4, bv4, hD4, hn4⟩
  clear hlo hhi
  have hsum : (d.bytes.length : Int) + (b.length : Int) = (nw : Int) := by rw [HH.out.2.2.2.1, HH.out.2.2.2.2.1, ← hnw]; rfl
  have hlb : (b.length : Int) = (nb : Int) := by rw [HH.out.2.2.2.2.1]
  by_cases hok : ((nw : Nat) : Int) ≤ R
  · have eO := Dsk.app_ok d b HH.out.1.dead (by rw [HH.out.1.room, hsum]; exact hok) (by rw [HH.out.1.set]; simp)
    rw [eO] at hD4 ⊢
    have h4 := h3.call hf4 hD4
    have c1' : decide (((nw : Nat) : Int) ≤ R) = true := decide_eq_true hok
    have c2' : decide (R < ((nw : Nat) : Int)) = false := decide_eq_false (Int.not_lt.2 hok)
    have H4 := Aside0.mk h4
    clear h4 h3 hO3 hb3 hf4 hD4 hn4 hcell1 H1 hsum hlb eO
    have HO := Aside0.mk (And.intro hok hnw)
    clear hok hnw hx hn0 hnb
    go_wp2_with (fail)
    refine (bytes_calls g w0.heap.size bv4 _ w4 H4.out.at').mono ?_
    rintro e w5 ⟨v5, rfl, hO5, hb5⟩
    obtain ⟨A5, c5, e5, _⟩ := hO5.slice
    rw [show (d.bytes ++ b).length = nw from by rw [List.length_append, HH.out.2.2.2.1, HH.out.2.2.2.2.1, HO.out.2]] at e5
    subst e5
    have H5 := Aside0.mk (H4.out.below hb5)
    clear H4 hO5 hb5
    go_wp2
    exact HH.out.2.2.1 _ _ bv4 _ ⟨rfl, rfl⟩ rfl rfl rfl rfl rfl rfl rfl rfl ⟨H5.out, HH.out.1.dead, HH.out.1.set, HH.out.1.room, by show -((i + 1 : Nat) : Int) ≤ d.writes - 1; have := HW.out; omega, by show d.writes - 1 ≤ 0; have := HW.out; omega, by rw [show (d.bytes ++ b).length = nw from by rw [List.length_append, HH.out.2.2.2.1, HH.out.2.2.2.2.1, HO.out.2]]; exact HO.out.1⟩
  · have eO := Dsk.app_full d b HH.out.1.dead (by rw [HH.out.1.room, hsum]; exact Int.lt_of_not_ge hok)
    rw [eO] at hD4 ⊢
    have h4 := h3.call hf4 hD4
    have c1' : decide (((nw : Nat) : Int) ≤ R) = false := decide_eq_false hok
    have c2' : decide (R < (n0 : Int)) = false := decide_eq_false (Int.not_lt.2 HH.out.2.2.2.2.2.1)
    have H4 := Aside0.mk h4
    clear h4 h3 hO3 hb3 hf4 hD4 hn4 hcell1 H1 hsum hlb eO
    have HO := Aside0.mk (And.intro hok hnw)
    clear hok hnw hx hn0 hnb
    go_wp2_with (fail)
    refine (bytes_calls g w0.heap.size bv4 d w4 H4.out.at').mono ?_
    rintro e w5 ⟨v5, rfl, hO5, hb5⟩
    obtain ⟨A5, c5, e5, _⟩ := hO5.slice
    rw [HH.out.2.2.2.1] at e5
    subst e5
    have H5 := Aside0.mk (H4.out.below hb5)
    clear H4 hO5 hb5
    go_wp2
    exact HH.out.2.2.1 _ _ bv4 d ⟨rfl, rfl⟩ rfl rfl rfl rfl rfl rfl rfl rfl ⟨H5.out, HH.out.1.dead, HH.out.1.set, HH.out.1.room, by have := HW.out; omega, HH.out.1.hi, HH.out.1.ln⟩
set_option maxHeartbeats 8000000 in
set_option maxRecDepth 100000 in
theorem roundRC (u : Nat → Value) (A A2 : Option Addr) (c c2 : Nat) (L : List (List Int)) (bs : List Bool) (i : Nat) (hi : i < L.length) (hL : L.length ≤ 300) (hbl : bs.length ≤ 9223372036854775807) (hb : (L.getD i []).length ≤ 140737488351232) (w0 w : World) (hC : CC w0 A L) (hC2 : Kd.C Kd.bool w0 A2 bs.length bs) (g : Nat) (bv : Value) (d : Dsk) (R : Int) (hR : R ≤ 4194304) (H : RM w0 w g bv d R i) (hx : i < bs.length) (hxv : rdOf false bs (i : Int) = true)
    (Q : Exit → Act → World → Prop)
    (hQ : ∀ a' w' bv' d', Fm 106 a' → sl a' 0 = u 0 → sl a' 1 = u 1 → sl a' 2 = .slice A2 bs.length c2 → sl a' 7 = .pointer (some ⟨g, 0, none⟩) → sl a' 8 = .int .i64 R → sl a' 32 = .slice A L.length c → sl a' 33 = .int .i64 (L.length : Int) → sl a' 34 = .int .i64 ((i : Int) + 1) → RM w0 w' g bv' d' R (i + 1) → Q .normal a' w') :
    Code.wp Try.prog (bodyN Try.f10 0) Q ⟨#[u 0, u 1, .slice A2 bs.length c2, u 3, u 4, u 5, u 6, .pointer (some ⟨g, 0, none⟩), .int .i64 R, u 9, u 10, u 11, u 12, u 13, u 14, u 15, u 16, u 17, u 18, u 19, u 20, u 21, u 22, u 23, u 24, u 25, u 26, u 27, u 28, u 29, u 30, u 31, .slice A L.length c, .int .i64 (L.length : Int), .int .i64 (i : Int), u 35, u 36, u 37, u 38, u 39, u 40, u 41, u 42, u 43, u 44, u 45, u 46, u 47, u 48, u 49, u 50, u 51, u 52, u 53, u 54, u 55, u 56, u 57, u 58, u 59, u 60, u 61, u 62, u 63, u 64, u 65, u 66, u 67, u 68, u 69, u 70, u 71, u 72, u 73, u 74, u 75, u 76, u 77, u 78, u 79, u 80, u 81, u 82, u 83, u 84, u 85, u 86, u 87, u 88, u 89, u 90, u 91, u 92, u 93, u 94, u 95, u 96, u 97, u 98, u 99, u 100, u 101, u 102, u 103, u 104, u 105], []⟩ w := by
  obtain ⟨ad, A0, c0, rfl, hcell0, hc0, hr⟩ := hC.get i hi
  have hcell := H.dk.F.cell hcell0 (fun h => h)
  obtain ⟨ad2, rfl, hx2⟩ := Kd.at_bool hC2 (i : Int) (by omega) (by omega)
  rw [Int.toNat_natCast, hxv] at hx2
  have hy := H.dk.F.cell hx2 (fun h => h)
  have x0 : decide ((i : Int) < (bs.length : Int)) = true := decide_eq_true (by omega)
  have x2 : (i : Int) < (bs.length : Int) := by omega
  clear hx2 hxv
  clear hC hcell0 hC2
  obtain ⟨b, hn⟩ : ∃ b, L.getD i [] = b := ⟨_, rfl⟩
  rw [hn] at hcell hc0 hr hb
  clear hn
  obtain ⟨m, hm⟩ : ∃ m, L.length = m := ⟨_, rfl⟩
  rw [hm] at hi hL hQ ⊢
  clear hm
  have b0 : decide ((i : Int) < (m : Int)) = true := decide_eq_true (by omega)
  have b1 : (0 : Int) ≤ (i : Int) := by omega
  have b2 : (i : Int) < (m : Int) := by omega
  have b5 : wrap64 ((i : Int) + 1) = (i : Int) + 1 := by unfold wrap64; omega
  obtain ⟨n0, hn0⟩ : ∃ n0, d.bytes.length = n0 := ⟨_, rfl⟩
  have hln := H.ln
  rw [hn0] at hln
  obtain ⟨nb, hnb⟩ : ∃ nb, b.length = nb := ⟨_, rfl⟩
  rw [hnb] at hcell hc0 hb
  obtain ⟨nw, hnw⟩ : ∃ nw, n0 + nb = nw := ⟨_, rfl⟩
  have b6 : wrap64 ((n0 : Int) + (nb : Int)) = (nw : Int) := by unfold wrap64; omega
  have HH := Aside0.mk (And.intro H (And.intro hr (And.intro hQ (And.intro hn0 (And.intro hnb (And.intro hln (And.intro hb hR)))))))
  clear H hr hQ hln
  conv => arg 2; whnf
  go_wp2_with (fail)
  refine (bytes_calls g w0.heap.size bv d w HH.out.1.dk.at').mono ?_
  rintro e w1 ⟨v1, rfl, hO1, hb1⟩
  obtain ⟨A1, c1, e1, _⟩ := hO1.slice
  rw [hn0] at e1
  subst e1
  have h1 := HH.out.1.dk.below hb1
  have hcell1 := (Fr.of_below hb1 (fun _ => False)).cell hcell (fun h => h)
  have hy1 := (Fr.of_below hb1 (fun _ => False)).cell hy (fun h => h)
  clear hy
  have H1 := Aside0.mk h1
  clear hO1 hb1 h1 hcell
  go_wp2_with (first | ((with_reducible refine gate_dst (N := 58) rfl ?_); refine wpList_copyb rfl (by rfl) (fun _ => by rfl) (fun _ _ => by rfl) (by first | (go_simp; done) | (go_simp; rfl)) _ (by rfl) A0 nb c0 b (fun _ => rfl) HH.out.2.2.2.2.1.symm (HH.out.2.1.fr H1.out.F (fun _ _ h => h)) _ _ (by rfl) (fun _ _ => rfl) (fun _ _ => rfl) (by have := HH.out; omega) ?_; intro u3 v3 w3 hO3 hb3))
  obtain ⟨A3, c3, e3, hc3⟩ := hO3.slice
  subst e3
  have h3 := H1.out.below hb3
  have hlo := HH.out.1.lo
  have hhi := HH.out.1.hi
  have HW := Aside0.mk (And.intro hlo hhi)
  refine (rep_calls g w0.heap.size bv d A3 c3 b w3 h3.at' h3.F.size (QB.rd (q_of_own hO3)) hc3 (by have := HH.out; omega) (hO3.far H1.out.ne) (by omega) (by omega)).mono ?_
  rintro e w4 ⟨rfl, hf4, bv4, hD4, hn4⟩
  clear hlo hhi
  have hsum : (d.bytes.length : Int) + (b.length : Int) = (nw : Int) := by rw [HH.out.2.2.2.1, HH.out.2.2.2.2.1, ← hnw]; rfl
  have hlb : (b.length : Int) = (nb : Int) := by rw [HH.out.2.2.2.2.1]
  by_cases hok : ((nb : Nat) : Int) ≤ R
  · have eO := Dsk.rep_ok d b HH.out.1.dead (by rw [HH.out.1.room, hlb]; exact hok) (by rw [HH.out.1.set]; simp)
    rw [eO] at hD4 ⊢
    have h4 := h3.call1 hf4 hD4
    have c1' : decide (((nb : Nat) : Int) ≤ R) = true := decide_eq_true hok
    have c2' : decide (R < ((nb : Nat) : Int)) = false := decide_eq_false (Int.not_lt.2 hok)
    have H4 := Aside0.mk h4
    clear h4 h3 hO3 hb3 hf4 hD4 hn4 hcell1 H1 hsum hlb eO
    have HO := Aside0.mk (And.intro hok hnw)
    clear hok hnw hx hn0 hnb
    go_wp2_with (fail)
    refine (bytes_calls g w0.heap.size bv4 _ w4 H4.out.at').mono ?_
    rintro e w5 ⟨v5, rfl, hO5, hb5⟩
    obtain ⟨A5, c5, e5, _⟩ := hO5.slice
    rw [show b.length = nb from HH.out.2.2.2.2.1] at e5
    subst e5
    have H5 := Aside0.mk (H4.out.below hb5)
    clear H4 hO5 hb5
    go_wp2
    exact HH.out.2.2.1 _ _ bv4 _ ⟨rfl, rfl⟩ rfl rfl rfl rfl rfl rfl rfl rfl ⟨H5.out, HH.out.1.dead, HH.out.1.set, HH.out.1.room, by show -((i + 1 : Nat) : Int) ≤ d.writes - 1; have := HW.out; omega, by show d.writes - 1 ≤ 0; have := HW.out; omega, by rw [show b.length = nb from HH.out.2.2.2.2.1]; exact HO.out.1⟩
  · have eO := Dsk.rep_full d b HH.out.1.dead (by rw [HH.out.1.room, hlb]; exact Int.lt_of_not_ge hok)
    rw [eO] at hD4 ⊢
    have h4 := h3.call1 hf4 hD4
    have c1' : decide (((nb : Nat) : Int) ≤ R) = false := decide_eq_false hok
    have c2' : decide (R < (n0 : Int)) = false := decide_eq_false (Int.not_lt.2 HH.out.2.2.2.2.2.1)
    have H4 := Aside0.mk h4
    clear h4 h3 hO3 hb3 hf4 hD4 hn4 hcell1 H1 hsum hlb eO
    have HO := Aside0.mk (And.intro hok hnw)
    clear hok hnw hx hn0 hnb
    go_wp2_with (fail)
    refine (bytes_calls g w0.heap.size bv4 d w4 H4.out.at').mono ?_
    rintro e w5 ⟨v5, rfl, hO5, hb5⟩
    obtain ⟨A5, c5, e5, _⟩ := hO5.slice
    rw [HH.out.2.2.2.1] at e5
    subst e5
    have H5 := Aside0.mk (H4.out.below hb5)
    clear H4 hO5 hb5
    go_wp2
    exact HH.out.2.2.1 _ _ bv4 d ⟨rfl, rfl⟩ rfl rfl rfl rfl rfl rfl rfl rfl ⟨H5.out, HH.out.1.dead, HH.out.1.set, HH.out.1.room, by have := HW.out; omega, HH.out.1.hi, HH.out.1.ln⟩
end Go.Proofs.Ytgcajmkbdhjooaa.Sha
