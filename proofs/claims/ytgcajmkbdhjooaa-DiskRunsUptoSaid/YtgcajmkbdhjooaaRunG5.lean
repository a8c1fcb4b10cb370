/-
  DiskRuns: a round of its loop, an act of kind 5.
-/
import Derived.Test.YtgcajmkbdhjooaaRunG0
import Derived.Deep.RegionHeld3
set_option linter.unusedVariables false
set_option linter.unusedSimpArgs false
namespace Go.Proofs.Ytgcajmkbdhjooaa.Sha
open Go.RowKit Go.Proofs.YtgcajmkbdhjooaaW.PrintWords Go.Proofs.YtgcajmkbdhjooaaW.PrintLast Go.Proofs.YtgcajmkbdhjooaaW.PrintMore Go.Proofs.Ytgcajmkbdhjooaa.Q Go.Proofs.Ytgcajmkbdhjooaa.Fr Go.Proofs.Ytgcajmkbdhjooaa.Oct
open Go.Proofs.Ytgcajmkbdhjooaa.Open (Ak kAct kAct_open)

set_option maxHeartbeats 8000000 in
set_option maxRecDepth 100000 in
theorem roundG5 (u : Nat → Value) (A : Option Addr) (c : Nat) (L : List Ak) (i : Nat) (hi : i < L.length) (hL : L.length ≤ 200) (w W : World) (hC : Kd.C kAct w A L.length L) (hlen : (L.getD i zAk).bytes.length ≤ 1048576) (hok : (L.getD i zAk).ok) (hk : (L.getD i zAk).kind ≠ 0 ∧ (L.getD i zAk).kind ≠ 1 ∧ (L.getD i zAk).kind ≠ 2 ∧ (L.getD i zAk).kind ≠ 3 ∧ (L.getD i zAk).kind ≠ 4) (g gw : Nat) (bv rv : Value) (d : Dsk) (r : Rdk) (H : Rn w W g gw bv rv d r i)
    (Q : Exit → Act → World → Prop) (hQ : ∀ a' W' bv' rv' d' r', Fm 150 a' → sl a' 5 = .pointer (some ⟨g, 0, none⟩) → sl a' 6 = .pointer (some ⟨gw, 0, none⟩) → sl a' 30 = .slice A L.length c → sl a' 31 = .int .i64 (L.length : Int) → sl a' 32 = .int .i64 ((i : Int) + 1) → Rn w W' g gw bv' rv' d' r' (i + 1) → Q .normal a' W') :
    Code.wp Try.prog (bodyN Try.f8 0) Q ⟨#[u 0, u 1, u 2, u 3, u 4, .pointer (some ⟨g, 0, none⟩), .pointer (some ⟨gw, 0, none⟩), u 7, u 8, u 9, u 10, u 11, u 12, u 13, u 14, u 15, u 16, u 17, u 18, u 19, u 20, u 21, u 22, u 23, u 24, u 25, u 26, u 27, u 28, u 29, .slice A L.length c, .int .i64 (L.length : Int), .int .i64 (i : Int), u 33, u 34, u 35, u 36, u 37, u 38, u 39, u 40, u 41, u 42, u 43, u 44, u 45, u 46, u 47, u 48, u 49, u 50, u 51, u 52, u 53, u 54, u 55, u 56, u 57, u 58, u 59, u 60, u 61, u 62, u 63, u 64, u 65, u 66, u 67, u 68, u 69, u 70, u 71, u 72, u 73, u 74, u 75, u 76, u 77, u 78, u 79, u 80, u 81, u 82, u 83, u 84, u 85, u 86, u 87, u 88, u 89, u 90, u 91, u 92, u 93, u 94, u 95, u 96, u 97, u 98, u 99, u 100, u 101, u 102, u 103, u 104, u 105, u 106, u 107, u 108, u 109, u 110, u 111, u 112, u 113, u 114, u 115, u 116, u 117, u 118, u 119, u 120, u 121, u 122, u 123, u 124, u 125, u 126, u 127, u 128, u 129, u 130, u 131, u 132, u 133, u 134, u 135, u 136, u 137, u 138, u 139, u 140, u 141, u 142, u 143, u 144, u 145, u 146, u 147, u 148, u 149], []⟩ W := by
  obtain ⟨ad, A1, c1, rfl, x0, x1, x2, x3, hc1, hr1⟩ := at_act hC i hi
  have F0 := H.dk.F
  replace x0 := F0.cell x0 (fun h => h)
  replace x1 := F0.cell x1 (fun h => h)
  replace x2 := F0.cell x2 (fun h => h)
  replace x3 := F0.cell x3 (fun h => h)
  obtain ⟨x, hx⟩ : ∃ x, L.getD i zAk = x := ⟨_, rfl⟩
  rw [hx] at hk x0 x1 x2 x3 hc1 hr1 hlen hok
  obtain ⟨m, hm⟩ : ∃ m, L.length = m := ⟨_, rfl⟩
  rw [hm] at hi hL hQ ⊢
  clear hx hm hC F0
  obtain ⟨kind, b, ta, tb⟩ := x
  simp only at hk x0 x1 x2 x3 hc1 hr1 hlen
  have e0 : decide (kind = 0) = false := decide_eq_false (by have := hk; omega)
  have f0 : (kind == 0) = false := by simpa using (show ¬ kind = 0 by have := hk; omega)
  have e1 : decide (kind = 1) = false := decide_eq_false (by have := hk; omega)
  have f1 : (kind == 1) = false := by simpa using (show ¬ kind = 1 by have := hk; omega)
  have e2 : decide (kind = 2) = false := decide_eq_false (by have := hk; omega)
  have f2 : (kind == 2) = false := by simpa using (show ¬ kind = 2 by have := hk; omega)
  have e3 : decide (kind = 3) = false := decide_eq_false (by have := hk; omega)
  have f3 : (kind == 3) = false := by simpa using (show ¬ kind = 3 by have := hk; omega)
  have e4 : decide (kind = 4) = false := decide_eq_false (by have := hk; omega)
  have f4 : (kind == 4) = false := by simpa using (show ¬ kind = 4 by have := hk; omega)
  clear hk
  have b0 : decide ((i : Int) < (m : Int)) = true := decide_eq_true (by omega)
  have b1 : (0 : Int) ≤ (i : Int) := by omega
  have b2 : (i : Int) < (m : Int) := by omega
  have HH := Aside0.mk (And.intro H (And.intro hr1 (And.intro hlen (And.intro hok hQ))))
  clear H hr1 hlen hok hQ
  have b5 : wrap64 ((i : Int) + 1) = (i : Int) + 1 := by unfold wrap64; omega
  have B5 := Aside0.mk b5
  have BL := Aside0.mk (show i < 200 by omega)
  clear b5 hL
  conv => arg 2; whnf
  go_wp2_with (first | ((with_reducible refine gate_dst (N := 8) rfl ?_); refine wpList_alloc_abs (by rfl) 48 (by rfl) (.agg Z4a) (by kernel_rfl) ?_; intro w2 hb2 hs2 hg2) | ((with_reducible refine gate_store (p := 8) rfl ?_); refine Aside0.out ?_))
  refine ⟨?_⟩
  refine wpList_store_abs (by rfl) 48 _ _ (by rfl) W.heap.size #[.int .i64 kind, .slice A1 b.length c1, .int .i64 ta, .int .i64 tb] (by rfl) (by rfl) 48 Z4a hg2 (by kernel_rfl) (by rfl) (by simp [Value.oneCell']) ?_
  intro w3 hf3 hs3 hg3
  have H3 : Rn w w3 g gw bv rv d r i := (HH.out.1.below hb2).fr hf3 (fun k hk => by rw [hk]; exact HH.out.1.new _ (Nat.le_refl _))
  have y : w3.cell? ⟨W.heap.size, 0, none⟩ = some (.int .i64 kind) ∧ w3.cell? ⟨W.heap.size, 1, none⟩ = some (.slice A1 b.length c1) ∧ w3.cell? ⟨W.heap.size, 2, none⟩ = some (.int .i64 ta) ∧ w3.cell? ⟨W.heap.size, 3, none⟩ = some (.int .i64 tb) := by simp [World.cell?, hg3]
  have zW : W.heap.size < w3.heap.size := blk_lt hg3
  have hnW := HH.out.1.new W.heap.size (Nat.le_refl _)
  have H3 := Aside0.mk (And.intro H3 (And.intro hg3 (And.intro zW hnW)))
  obtain ⟨y0, y1, y2, y3⟩ := y
  clear hb2 hs2 hg2 hf3 hs3 hg3 x0 x1 x2 x3 zW hnW
  go_wp2_with (first | ((with_reducible refine gate_dst (N := 36) rfl ?_); refine wpList_lit0 (by rfl) (by first | (go_simp; done) | (go_simp; rfl)) ?_; intro v4 w4 hO4 hb4; have f4 := Fr.of_below hb4 (fun _ => False); replace y1 := f4.cell y1 (fun h => h)) | ((with_reducible refine gate_builtin (b := .append) (xs := #[.tmp 36, .tmp 38]) rfl ?_); at_builtin; refine Aside0.out ?_))
  refine ⟨?_⟩
  have z4 := f4.size
  have H4 := H3.out.1.below hb4
  refine wpList_appe rfl (by rfl) w3.heap.size _ _ (by rfl) infoB v4 [] (by rfl) hO4 A1 b.length c1 b (by rfl) rfl (HH.out.2.1.fr H4.dk.F (fun _ _ h => h)) (by have := HH.out.2.2.1; simp only [List.length_nil]; omega) z4 ?_
  intro v5 w5 hO5 hf5 _
  rw [List.nil_append] at hO5
  have f5 : Fr (fun _ => False) w3 w5 := f4.trans hf5 (fun k hk => .inr (hO4.base k hk.symm))
  have H5 : Rn w w5 g gw bv rv d r i := H3.out.1.fr f5 (fun k hk => hk.elim)
  obtain ⟨A5, c5, rfl, hc5⟩ := hO5.slice
  have hg5 := f5.blk H3.out.2.1 (fun h => h)
  have hown : ∀ k, (Value.slice A5 b.length c5).ownBlock = some k → w3.heap.size ≤ k := fun k hk => hO5.base k hk
  have H5 := Aside0.mk (And.intro H5 (And.intro hO5 (And.intro hg5 (And.intro hown H3.out.2.2))))
  have y : w5.cell? ⟨W.heap.size, 0, none⟩ = some (.int .i64 kind) ∧ w5.cell? ⟨W.heap.size, 1, none⟩ = some (.slice A1 b.length c1) ∧ w5.cell? ⟨W.heap.size, 2, none⟩ = some (.int .i64 ta) ∧ w5.cell? ⟨W.heap.size, 3, none⟩ = some (.int .i64 tb) := by simp [World.cell?, hg5]
  clear H3 H4 y0 y1 y2 y3 hO4 hb4 f4 z4 hO5 hf5 f5 hg5 hown
  obtain ⟨y0, y1, y2, y3⟩ := y
  go_wp2_with (fail)
  obtain ⟨A7, c7, e7, hc7, _⟩ := HH.out.1.lies
  subst e7
  have H10 : Rn w w5 g gw bv (.slice A7 r.bytes.length c7) d r (i + 1) := ⟨H5.out.1.dk, H5.out.1.want, H5.out.1.lies, H5.out.1.ge, H5.out.1.ngw, H5.out.1.far, H5.out.1.rel.step⟩
  have hO10 := H5.out.2.1
  have own : ∀ k, (Value.slice A5 b.length c5).ownBlock = some k → w.heap.size ≤ k ∧ ¬ Fp g bv k ∧ k ≠ gw ∧ (Value.slice A7 r.bytes.length c7).ownBlock ≠ some k := fun k hk => by
    have h1 := H5.out.2.2.2.1 k hk
    have h2 := H5.out.2.2.2.2.1
    exact HH.out.1.new k (by omega)
  have H10 := Aside0.mk (And.intro H10 (And.intro hO10 own))
  clear H5 hO10 own
  go_wp2_with (fail)
  refine loopRA (.pointer (some ⟨g, 0, none⟩)) (.pointer (some ⟨gw, 0, none⟩)) (.int .i64 0) (.int .i64 0) (.slice (some ad) m c) (.int .i64 (m : Int)) (.int .i64 (i : Int)) (.slice A5 b.length c5) b w3.heap.size (by have := HH.out.2.2.1; omega) w5 _ ?_ _ _ ⟨⟨rfl, rfl⟩, ⟨rfl, rfl, rfl, rfl, rfl, rfl, rfl⟩, rfl, rfl, rfl, Fr.refl _ _, H10.out.2.1⟩
  intro a' w11 hFm j5 j6 j10 j11 j30 j31 j32 jf
  rw [fm150 hFm, j5, j6, j10, j11, j30, j31, j32]
  have H11 := Aside0.mk (H10.out.1.fr jf (fun k hk => H10.out.2.2 k hk.symm))
  clear H10 hFm j5 j6 j10 j11 j30 j31 j32 jf
  obtain ⟨v, hv⟩ : ∃ v, Value.slice A7 r.bytes.length c7 = v := ⟨_, rfl⟩
  have hS : ∀ W', Rn w W' g gw bv (.slice A7 r.bytes.length c7) d r (i + 1) → W'.cell? ⟨gw, 0, none⟩ = some (.slice A7 r.bytes.length c7) ∧ W'.cell? ⟨gw, 2, none⟩ = some (.bool r.dead) := fun W' h => ⟨(rset h.want).1, (rset h.want).2.2.1⟩
  have HA : ∀ w1, Below w11.heap.size w11 w1 → Calls Try.prog 34 #[.pointer (some ⟨g, 0, none⟩)] w1 fun e w2 => e = .returned (.bool r.dead) ∧ (w2.cell? ⟨gw, 0, none⟩ = some (.slice A7 r.bytes.length c7) ∧ w2.cell? ⟨gw, 2, none⟩ = some (.bool r.dead)) ∧ Aside0 (Rn w w2 g gw bv (.slice A7 r.bytes.length c7) d r (i + 1)) := by
    intro w1 hb1
    have h1 := H11.out.below hb1
    refine (dead_calls g w.heap.size bv d w1 h1.dk.at').mono ?_
    rintro e w2 ⟨rfl, rfl⟩
    exact ⟨by rw [h1.rel.dd], hS _ h1, ⟨h1⟩⟩
  have HB : ∀ w2, Aside0 (Rn w w2 g gw bv (.slice A7 r.bytes.length c7) d r (i + 1)) → Calls Try.prog 25 #[.pointer (some ⟨g, 0, none⟩)] w2 fun e w3 => ∃ (A : Option Addr) (c : Nat), e = .returned (.slice A r.bytes.length c) ∧ (w3.cell? ⟨gw, 0, none⟩ = some (.slice A7 r.bytes.length c7) ∧ w3.cell? ⟨gw, 2, none⟩ = some (.bool r.dead)) ∧ Aside0 (Rn w w3 g gw bv (.slice A7 r.bytes.length c7) d r (i + 1) ∧ Rd w3 A r.bytes ∧ r.bytes.length ≤ c) := by
    intro w2 h2
    refine (bytes_calls g w.heap.size bv d w2 h2.out.dk.at').mono ?_
    rintro e w3 ⟨v3, rfl, hO, hb⟩
    rw [← h2.out.rel.b] at hO
    obtain ⟨A, c, rfl, hc⟩ := hO.slice
    have h3 := h2.out.below hb
    exact ⟨A, c, rfl, hS _ h3, ⟨h3, QB.rd (q_of_own hO), hc⟩⟩
  have HC : ∀ w3 A c, Aside0 (Rn w w3 g gw bv (.slice A7 r.bytes.length c7) d r (i + 1) ∧ Rd w3 A r.bytes ∧ r.bytes.length ≤ c) → Calls Try.prog 20 #[.slice A r.bytes.length c, .slice A7 r.bytes.length c7] w3 fun e w4 => e = .returned (.bool true) ∧ (w4.cell? ⟨gw, 0, none⟩ = some (.slice A7 r.bytes.length c7) ∧ w4.cell? ⟨gw, 2, none⟩ = some (.bool r.dead)) ∧ Aside0 (Rn w w4 g gw bv (.slice A7 r.bytes.length c7) d r (i + 1)) := by
    intro w3 A c h3
    obtain ⟨A8, c8, e8, hc8, hr8⟩ := h3.out.1.lies
    injection e8 with e8 _ e9
    subst e8 e9
    refine (same_calls r.bytes A c A7 c7 w3 h3.out.2.1 h3.out.2.2 hr8 hc8 (by rw [h3.out.1.rel.b]; have := h3.out.1.dk.at'.ln; omega)).mono ?_
    rintro e w4 ⟨rfl, hb⟩
    have h4 := h3.out.1.below hb
    exact ⟨rfl, hS _ h4, ⟨h4⟩⟩
  have hs11 := hS _ H11.out
  have HA := Aside0.mk HA
  have HB := Aside0.mk HB
  have HC := Aside0.mk HC
  clear hS hv v
  go_wp2_with (fail)
  go_region_held3 (fun w' => w'.cell? ⟨gw, 0, none⟩ = some (.slice A7 r.bytes.length c7) ∧ w'.cell? ⟨gw, 2, none⟩ = some (.bool r.dead)) (first | exact hs11 | exact hs12 | exact hs13 | exact hs14)
    (first | (go_at_call 34; refine (HA.out _ (below_drew (Below.refl _ _))).mono ?_; rintro e w12 ⟨rfl, hs12, H12⟩) | (go_at_call 25; refine (HB.out _ H12).mono ?_; rintro e w13 ⟨A13, c13, rfl, hs13, H13⟩) | (go_at_call 20; refine (HC.out _ _ _ H13).mono ?_; rintro e w14 ⟨rfl, hs14, H14⟩))
  clear HA HB HC hs11 hs12 hs13 hs14 H11 H12 H13
  go_wp2_with (fail)
  refine (bytes_calls g w.heap.size bv d w14 H14.out.dk.at').mono ?_
  rintro e w15 ⟨v15, rfl, hO15, hb15⟩
  obtain ⟨A15, c15, rfl, hc15⟩ := hO15.slice
  have H15 := Aside0.mk (And.intro (H14.out.below hb15) (And.intro hO15 (fun k hk => H14.out.new k (hO15.base k hk))))
  have hln := H14.out.dk.at'.ln
  clear H14 hO15 hb15
  go_wp2_with (fail)
  refine loopRB (.pointer (some ⟨g, 0, none⟩)) (.pointer (some ⟨gw, 0, none⟩)) (.int .i64 0) (.int .i64 0) (.slice (some ad) m c) (.int .i64 (m : Int)) (.int .i64 (i : Int)) (.slice A15 d.bytes.length c15) d.bytes w14.heap.size (by omega) w15 _ ?_ _ _ ⟨⟨rfl, rfl⟩, ⟨rfl, rfl, rfl, rfl, rfl, rfl, rfl⟩, rfl, rfl, rfl, Fr.refl _ _, H15.out.2.1⟩
  intro a'' w16 hFm j5 j6 j10 j11 j30 j31 j32 jf
  rw [fm150 hFm, j5, j6, j10, j11, j30, j31, j32]
  have H16 := Aside0.mk (H15.out.1.fr jf (fun k hk => H15.out.2.2 k hk.symm))
  clear H15 hFm j5 j6 j10 j11 j30 j31 j32 jf
  have b5 := B5.out
  go_wp2
  exact HH.out.2.2.2.2 _ _ _ _ _ _ ⟨rfl, rfl⟩ rfl rfl rfl rfl (congrArg (Value.int .i64) B5.out) H16.out
end Go.Proofs.Ytgcajmkbdhjooaa.Sha
