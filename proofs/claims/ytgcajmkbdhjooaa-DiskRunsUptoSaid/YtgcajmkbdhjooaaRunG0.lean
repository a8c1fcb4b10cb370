/-
  DiskRuns: a round of its loop, an act of kind 0.
-/
import Derived.Test.YtgcajmkbdhjooaaRunA
import Derived.Deep.RegionHeld3
set_option linter.unusedVariables false
set_option linter.unusedSimpArgs false
namespace Go.Proofs.Ytgcajmkbdhjooaa.Sha
open Go.RowKit Go.Proofs.YtgcajmkbdhjooaaW.PrintWords Go.Proofs.YtgcajmkbdhjooaaW.PrintLast Go.Proofs.YtgcajmkbdhjooaaW.PrintMore Go.Proofs.Ytgcajmkbdhjooaa.Q Go.Proofs.Ytgcajmkbdhjooaa.Fr Go.Proofs.Ytgcajmkbdhjooaa.Oct
open Go.Proofs.Ytgcajmkbdhjooaa.Open (Ak kAct kAct_open)

def Z4a : Array Value := #[.int .i64 0, .slice none 0 0, .int .i64 0, .int .i64 0]
set_option maxHeartbeats 8000000 in
set_option maxRecDepth 100000 in
theorem roundG0 (u : Nat → Value) (A : Option Addr) (c : Nat) (L : List Ak) (i : Nat) (hi : i < L.length) (hL : L.length ≤ 200) (w W : World) (hC : Kd.C kAct w A L.length L) (hlen : (L.getD i zAk).bytes.length ≤ 1048576) (hok : (L.getD i zAk).ok) (hk : (L.getD i zAk).kind = 0) (g gw : Nat) (bv rv : Value) (d : Dsk) (r : Rdk) (H : Rn w W g gw bv rv d r i)
    (Q : Exit → Act → World → Prop) (hQ : ∀ a' W' bv' rv' d' r', Fm 150 a' → sl a' 5 = .pointer (some ⟨g, 0, none⟩) → sl a' 6 = .pointer (some ⟨gw, 0, none⟩) → sl a' 30 = .slice A L.length c → sl a' 31 = .int .i64 (L.length : Int) → sl a' 32 = .int .i64 ((i : Int) + 1) → Rn w W' g gw bv' rv' d' r' (i + 1) → Q .normal a' W') :
    Code.wp Try.prog (bodyN Try.f8 0) Q ⟨#[u 0, u 1, u 2, u 3, u 4, .pointer (some ⟨g, 0, none⟩), .pointer (some ⟨gw, 0, none⟩), u 7, u 8, u 9, u 10, u 11, u 12, u 13, u 14, u 15, u 16, u 17, u 18, u 19, u 20, u 21, u 22, u 23, u 24, u 25, u 26, u 27, u 28, u 29, .slice A L.length c, .int .i64 (L.length : Int), .int .i64 (i : Int), u 33, u 34, u 35, u 36, u 37, u 38, u 39, u 40, u 41, u 42, u 43, u 44, u 45, u 46, u 47, u 48, u 49, u 50, u 51, u 52, u 53, u 54, u 55, u 56, u 57, u 58, u 59, u 60, u 61, u 62, u 63, u 64, u 65, u 66, u 67, u 68, u 69, u 70, u 71, u 72, u 73, u 74, u 75, u 76, u 77, u 78, u 79, u 80, u 81, u 82, u 83, u 84, u 85, u 86, u 87, u 88, u 89, u 90, u 91, u 92, u 93, u 94, u 95, u 96, u 97, u 98, u 99, u 100, u 101, u 102, u 103, u 104, u 105, u 106, u 107, u 108, u 109, u 110, u 111, u 112, u 113, u 114, u 115, u 116, u 117, u 118, u 119, u 120, u 121, u 122, u 123, u 124, u 125, u 126, u 127, u 128, u 129, u 130, u 131, u 132, u 133, u 134, u 135, u 136, u 137, u 138, u 139, u 140, u 141, u 142, u 143, u 144, u 145, u 146, u 147, u 148, u 149], []⟩ W := by
  obtain ⟨ad, A1, c1, rfl, x0, x1, x2, x3, hc1, hr1⟩ := at_act hC i hi
  have F0 := H.dk.F
  replace x0 := F0.cell x0 (fun h => h)
  replace x1 := F0.cell x1 (fun h => h)
  replace x2 := F0.cell x2 (fun h => h)
  replace x3 := F0.cell x3 (fun h => h)
  rw [hk] at x0
  obtain ⟨x, hx⟩ : ∃ x, L.getD i zAk = x := ⟨_, rfl⟩
  rw [hx] at x1 x2 x3 hc1 hr1 hlen hok
  obtain ⟨m, hm⟩ : ∃ m, L.length = m := ⟨_, rfl⟩
  rw [hm] at hi hL hQ ⊢
  clear hk hx hm hC F0
  obtain ⟨kind, b, ta, tb⟩ := x
  simp only at x1 x2 x3 hc1 hr1 hlen
  have b0 : decide ((i : Int) < (m : Int)) = true := decide_eq_true (by omega)
  have b1 : (0 : Int) ≤ (i : Int) := by omega
  have b2 : (i : Int) < (m : Int) := by omega
  have HH := Aside0.mk (And.intro H (And.intro hr1 (And.intro hlen (And.intro hok hQ))))
  clear H hr1 hlen hok hQ
  have b5 : wrap64 ((i : Int) + 1) = (i : Int) + 1 := by unfold wrap64; omega
  have B5 := Aside0.mk b5
  have BL := Aside0.mk (show i < 200 by omega)
  clear b5 hL
  conv => arg 2; whnf
  go_wp2_with (first | ((with_reducible refine gate_dst (N := 8) rfl ?_); refine wpList_alloc_abs (by rfl) 48 (by rfl) (.agg Z4a) (by kernel_rfl) ?_; intro w2 hb2 hs2 hg2) | ((with_reducible refine gate_store (p := 8) rfl ?_); refine Aside0.out ?_))
  refine ⟨?_⟩
  refine wpList_store_abs (by rfl) 48 _ _ (by rfl) W.heap.size #[.int .i64 0, .slice A1 b.length c1, .int .i64 ta, .int .i64 tb] (by rfl) (by rfl) 48 Z4a hg2 (by kernel_rfl) (by rfl) (by simp [Value.oneCell']) ?_
  intro w3 hf3 hs3 hg3
  have H3 : Rn w w3 g gw bv rv d r i := (HH.out.1.below hb2).fr hf3 (fun k hk => by rw [hk]; exact HH.out.1.new _ (Nat.le_refl _))
  have y : w3.cell? ⟨W.heap.size, 0, none⟩ = some (.int .i64 0) ∧ w3.cell? ⟨W.heap.size, 1, none⟩ = some (.slice A1 b.length c1) ∧ w3.cell? ⟨W.heap.size, 2, none⟩ = some (.int .i64 ta) ∧ w3.cell? ⟨W.heap.size, 3, none⟩ = some (.int .i64 tb) := by simp [World.cell?, hg3]
  have zW : W.heap.size < w3.heap.size := blk_lt hg3
  have hnW := HH.out.1.new W.heap.size (Nat.le_refl _)
  have H3 := Aside0.mk (And.intro H3 (And.intro hg3 (And.intro zW hnW)))
  obtain ⟨y0, y1, y2, y3⟩ := y
  clear hb2 hs2 hg2 hf3 hs3 hg3 x0 x1 x2 x3 zW hnW
  go_wp2_with (first | ((with_reducible refine gate_dst (N := 36) rfl ?_); refine wpList_lit0 (by rfl) (by first | (go_simp; done) | (go_simp; rfl)) ?_; intro v4 w4 hO4 hb4; have f4 := Fr.of_below hb4 (fun _ => False); replace y1 := f4.cell y1 (fun h => h)) | ((with_reducible refine gate_builtin (b := .append) (xs := #[.tmp 36, .tmp 38]) rfl ?_); at_builtin; refine Aside0.out ?_))
  refine ⟨?_⟩
  have z4 := f4.size
  have H4 := H3.out.1.below hb4
  refine wpList_appe rfl (by rfl) w3.heap.size _ _ (by rfl) infoB v4 [] (by rfl) hO4 A1 b.length c1 b (by rfl) rfl (HH.out.2.1.fr H4.dk.F (fun _ _ h => h)) (by have := HH.out.2.2.1; simp only [List.length_nil]; omega) z4 ?_
  intro v5 w5 hO5 hf5 _
  rw [List.nil_append] at hO5
  have f5 : Fr (fun _ => False) w3 w5 := f4.trans hf5 (fun k hk => .inr (hO4.base k hk.symm))
  have H5 : Rn w w5 g gw bv rv d r i := H3.out.1.fr f5 (fun k hk => hk.elim)
  obtain ⟨A5, c5, rfl, hc5⟩ := hO5.slice
  have hg5 := f5.blk H3.out.2.1 (fun h => h)
  have hown : ∀ k, (Value.slice A5 b.length c5).ownBlock = some k → w3.heap.size ≤ k := fun k hk => hO5.base k hk
  have H5 := Aside0.mk (And.intro H5 (And.intro hO5 (And.intro hg5 (And.intro hown H3.out.2.2))))
  have y : w5.cell? ⟨W.heap.size, 0, none⟩ = some (.int .i64 0) ∧ w5.cell? ⟨W.heap.size, 1, none⟩ = some (.slice A1 b.length c1) ∧ w5.cell? ⟨W.heap.size, 2, none⟩ = some (.int .i64 ta) ∧ w5.cell? ⟨W.heap.size, 3, none⟩ = some (.int .i64 tb) := by simp [World.cell?, hg5]
  clear H3 H4 y0 y1 y2 y3 hO4 hb4 f4 z4 hO5 hf5 f5 hg5 hown
  obtain ⟨y0, y1, y2, y3⟩ := y
  go_wp2_with (fail)
  have hrel := HH.out.1.rel.app b
  have hlo := HH.out.1.rel.lo
  obtain ⟨⟨er, d1⟩, hd1⟩ : ∃ z, d.app b = z := ⟨_, rfl⟩
  have hap := app_calls g w.heap.size bv d A5 c5 b w5 H5.out.1.dk.at' H5.out.1.dk.F.size (QB.rd (q_of_own H5.out.2.1)) hc5 (by have := HH.out.2.2.1; omega) (fun ad e h => by have h1 := H5.out.2.2.2.1 ad.block (by rw [e]; rfl); have h2 := H5.out.2.2.2.2.1; have h3 := HH.out.1.dk.ne; omega) (by have := HH.out.1.rel.lo; have := BL.out; omega) HH.out.1.rel.hi
  rw [hd1] at hrel hap
  simp only at hrel hap
  refine hap.mono ?_
  rintro e w6 ⟨rfl, hf6, bv6, hD6, hn6⟩
  have H6 : Rh w w6 g gw bv6 rv d1 r := H5.out.1.act hf6 hD6 hn6
  have hg6 := hf6.blk H5.out.2.2.1 H5.out.2.2.2.2.2.2.1
  have hO6 : OB w6 w3.heap.size (.slice A5 b.length c5) b := H5.out.2.1.fr hf6 (fun k hk e => by have h1 := H5.out.2.2.2.1 k hk; have h2 := H5.out.2.2.2.2.1; have h3 := HH.out.1.dk.at'.lt k e; omega)
  have hs6 : ∀ k, (Value.slice A5 b.length c5).ownBlock = some k → ¬ Fp g bv6 k ∧ k < w6.heap.size := fun k hk => by
    have h1 := q_lt (q_of_own H5.out.2.1) k hk
    have h4 := hf6.size
    refine ⟨fun e => ?_, by omega⟩
    rcases hn6 k e with e | e
    · have h1 := H5.out.2.2.2.1 k hk; have h2 := H5.out.2.2.2.2.1; have h3 := HH.out.1.dk.at'.lt k e; omega
    · omega
  have HS6 := Aside0.mk hs6
  clear hs6
  have HR := Aside0.mk hrel
  have H6 := Aside0.mk (And.intro H6 (And.intro hO6 (And.intro hg6 H5.out.2.2.2)))
  have y : w6.cell? ⟨W.heap.size, 0, none⟩ = some (.int .i64 0) ∧ w6.cell? ⟨W.heap.size, 1, none⟩ = some (.slice A1 b.length c1) ∧ w6.cell? ⟨W.heap.size, 2, none⟩ = some (.int .i64 ta) ∧ w6.cell? ⟨W.heap.size, 3, none⟩ = some (.int .i64 tb) := by simp [World.cell?, hg6]
  have q := rset H6.out.1.want
  clear hrel hlo hap H5 y0 y1 y2 y3 hf6 hD6 hn6 hg6 hO6
  obtain ⟨y0, y1, y2, y3⟩ := y
  obtain ⟨q0, q1, q2, q3, q4, q5⟩ := q
  go_wp2_with (fail)
  have hwr := rwrite_app r rv A1 c1 b w6 H6.out.1.lies (HH.out.2.1.fr H6.out.1.dk.F (fun _ _ h => h)) hc1 (by rw [HH.out.1.rel.b]; have := HH.out.1.dk.at'.ln; have := HH.out.2.2.1; omega) (by have := HH.out.1.rel.rlo; omega) HH.out.1.rel.rhi
  have hrel := HR.out
  obtain ⟨⟨r1, er1⟩, hr1⟩ : ∃ z, r.write b false = z := ⟨_, rfl⟩
  rw [hr1] at hrel hwr
  simp only at hrel hwr
  obtain ⟨rfl, hrel⟩ := hrel
  clear HR hr1 q0 q1 q2 q3 q4 q5
  refine hwr.mono ?_
  clear hwr
  rintro e w7 ⟨v7, rfl, hl7, hn7, hb7⟩
  have HW := Aside0.mk (And.intro hl7 (And.intro hn7 (And.intro hb7 hrel)))
  obtain ⟨A7, c7, rfl, _, _⟩ := hl7
  clear hn7 hb7 hrel
  go_wp2_with (first | ((with_reducible refine gate_dst (N := 12) rfl ?_); refine wpList_alloc_abs (by rfl) 45 (by rfl) (.agg Z6r) (by kernel_rfl) ?_; intro w8 hb8 hs8 hg8) | ((with_reducible refine gate_store (p := 12) rfl ?_); refine wpList_store_abs (by rfl) 45 _ _ (by rfl) w7.heap.size (rcs (.slice A7 r1.bytes.length c7) r1) (by rfl) (by rfl) 45 Z6r hg8 (by kernel_rfl) (by rfl) (by simp [rcs, Value.oneCell']) ?_; intro w9 hf9 hs9 hg9; have q := rset hg9; obtain ⟨q0, q1, q2, q3, q4, q5⟩ := q) | ((with_reducible refine gate_store (p := 6) rfl ?_); refine Aside0.out ?_))
  refine ⟨?_⟩
  have f7 := Fr.of_below HW.out.2.2.1 (fun _ => False)
  have f89 := (Fr.of_below hb8 (fun _ => False)).trans hf9 (fun k hk => .inr (by omega))
  have F69 := f7.trans f89 (fun k h => h.elim)
  have z67 := f7.size
  have z79 := f89.size
  have hw9 := F69.blk H6.out.1.want (fun h => h)
  refine wpList_store_abs (by rfl) 45 _ _ (by rfl) gw (rcs (.slice A7 r1.bytes.length c7) r1) (by rfl) (by rfl) 45 (rcs rv r) hw9 (by kernel_rfl) (by rfl) (by simp [rcs, Value.oneCell']) ?_
  intro w10 hf10 hs10 hg10
  have H10 : Rn w w10 g gw bv6 (.slice A7 r1.bytes.length c7) d1 r1 (i + 1) := H6.out.1.wrote (F69.below _ (Nat.le_refl _) (fun i h => h.elim)) (HW.out.1.fr f89 (fun _ _ h => h)) (fun k hk => (HW.out.2.1 k hk).elim .inl (fun h => .inr ⟨h.1, by omega⟩)) hf10 hg10 HW.out.2.2.2
  have hO10 : OB w10 w3.heap.size (.slice A5 b.length c5) b := (H6.out.2.1.fr F69 (fun _ _ h => h)).fr hf10 (fun k hk e => by have h1 := H6.out.2.2.2.1 k hk; have h2 := blk_lt HH.out.1.want; have h3 := H6.out.2.2.2.2.1; omega)
  have own : ∀ k, (Value.slice A5 b.length c5).ownBlock = some k → w.heap.size ≤ k ∧ ¬ Fp g bv6 k ∧ k ≠ gw ∧ (Value.slice A7 r1.bytes.length c7).ownBlock ≠ some k := fun k hk => by
    have h1 := H6.out.2.2.2.1 k hk
    have h2 := blk_lt HH.out.1.want
    have h3 := H6.out.2.2.2.2.1
    have h4 := HS6.out k hk
    have h5 := HH.out.1.dk.F.size
    refine ⟨by omega, h4.1, by omega, fun e => ?_⟩
    rcases HW.out.2.1 k e with e | e
    · have := (HH.out.1.far k e).1; omega
    · omega
  have H10 := Aside0.mk (And.intro H10 (And.intro hO10 own))
  clear HW H6 HS6 y0 y1 y2 y3 q0 q1 q2 q3 q4 q5 f7 f89 F69 z67 z79 hw9 hf10 hs10 hg10 hO10 own hb8 hs8 hg8 hf9 hs9 hg9
  go_wp2_with (fail)
  refine loopRA (.pointer (some ⟨g, 0, none⟩)) (.pointer (some ⟨gw, 0, none⟩)) (.int .i64 er1) (.int .i64 er1) (.slice (some ad) m c) (.int .i64 (m : Int)) (.int .i64 (i : Int)) (.slice A5 b.length c5) b w3.heap.size (by have := HH.out.2.2.1; omega) w10 _ ?_ _ _ ⟨⟨rfl, rfl⟩, ⟨rfl, rfl, rfl, rfl, rfl, rfl, rfl⟩, rfl, rfl, rfl, Fr.refl _ _, H10.out.2.1⟩
  intro a' w11 hFm j5 j6 j10 j11 j30 j31 j32 jf
  rw [fm150 hFm, j5, j6, j10, j11, j30, j31, j32]
  have H11 := Aside0.mk (H10.out.1.fr jf (fun k hk => H10.out.2.2 k hk.symm))
  clear H10 hFm j5 j6 j10 j11 j30 j31 j32 jf
  obtain ⟨v, hv⟩ : ∃ v, Value.slice A7 r1.bytes.length c7 = v := ⟨_, rfl⟩
  have hS : ∀ W', Rn w W' g gw bv6 (.slice A7 r1.bytes.length c7) d1 r1 (i + 1) → W'.cell? ⟨gw, 0, none⟩ = some (.slice A7 r1.bytes.length c7) ∧ W'.cell? ⟨gw, 2, none⟩ = some (.bool r1.dead) := fun W' h => ⟨(rset h.want).1, (rset h.want).2.2.1⟩
  have HA : ∀ w1, Below w11.heap.size w11 w1 → Calls Try.prog 34 #[.pointer (some ⟨g, 0, none⟩)] w1 fun e w2 => e = .returned (.bool r1.dead) ∧ (w2.cell? ⟨gw, 0, none⟩ = some (.slice A7 r1.bytes.length c7) ∧ w2.cell? ⟨gw, 2, none⟩ = some (.bool r1.dead)) ∧ Aside0 (Rn w w2 g gw bv6 (.slice A7 r1.bytes.length c7) d1 r1 (i + 1)) := by
    intro w1 hb1
    have h1 := H11.out.below hb1
    refine (dead_calls g w.heap.size bv6 d1 w1 h1.dk.at').mono ?_
    rintro e w2 ⟨rfl, rfl⟩
    exact ⟨by rw [h1.rel.dd], hS _ h1, ⟨h1⟩⟩
  have HB : ∀ w2, Aside0 (Rn w w2 g gw bv6 (.slice A7 r1.bytes.length c7) d1 r1 (i + 1)) → Calls Try.prog 25 #[.pointer (some ⟨g, 0, none⟩)] w2 fun e w3 => ∃ (A : Option Addr) (c : Nat), e = .returned (.slice A r1.bytes.length c) ∧ (w3.cell? ⟨gw, 0, none⟩ = some (.slice A7 r1.bytes.length c7) ∧ w3.cell? ⟨gw, 2, none⟩ = some (.bool r1.dead)) ∧ Aside0 (Rn w w3 g gw bv6 (.slice A7 r1.bytes.length c7) d1 r1 (i + 1) ∧ Rd w3 A r1.bytes ∧ r1.bytes.length ≤ c) := by
    intro w2 h2
    refine (bytes_calls g w.heap.size bv6 d1 w2 h2.out.dk.at').mono ?_
    rintro e w3 ⟨v3, rfl, hO, hb⟩
    rw [← h2.out.rel.b] at hO
    obtain ⟨A, c, rfl, hc⟩ := hO.slice
    have h3 := h2.out.below hb
    exact ⟨A, c, rfl, hS _ h3, ⟨h3, QB.rd (q_of_own hO), hc⟩⟩
  have HC : ∀ w3 A c, Aside0 (Rn w w3 g gw bv6 (.slice A7 r1.bytes.length c7) d1 r1 (i + 1) ∧ Rd w3 A r1.bytes ∧ r1.bytes.length ≤ c) → Calls Try.prog 20 #[.slice A r1.bytes.length c, .slice A7 r1.bytes.length c7] w3 fun e w4 => e = .returned (.bool true) ∧ (w4.cell? ⟨gw, 0, none⟩ = some (.slice A7 r1.bytes.length c7) ∧ w4.cell? ⟨gw, 2, none⟩ = some (.bool r1.dead)) ∧ Aside0 (Rn w w4 g gw bv6 (.slice A7 r1.bytes.length c7) d1 r1 (i + 1)) := by
    intro w3 A c h3
    obtain ⟨A8, c8, e8, hc8, hr8⟩ := h3.out.1.lies
    injection e8 with e8 _ e9
    subst e8 e9
    refine (same_calls r1.bytes A c A7 c7 w3 h3.out.2.1 h3.out.2.2 hr8 hc8 (by rw [h3.out.1.rel.b]; have := h3.out.1.dk.at'.ln; omega)).mono ?_
    rintro e w4 ⟨rfl, hb⟩
    have h4 := h3.out.1.below hb
    exact ⟨rfl, hS _ h4, ⟨h4⟩⟩
  have hs11 := hS _ H11.out
  have HA := Aside0.mk HA
  have HB := Aside0.mk HB
  have HC := Aside0.mk HC
  clear hS hv v
  go_wp2_with (fail)
  go_region_held3 (fun w' => w'.cell? ⟨gw, 0, none⟩ = some (.slice A7 r1.bytes.length c7) ∧ w'.cell? ⟨gw, 2, none⟩ = some (.bool r1.dead)) (first | exact hs11 | exact hs12 | exact hs13 | exact hs14)
    (first | (go_at_call 34; refine (HA.out _ (below_drew (Below.refl _ _))).mono ?_; rintro e w12 ⟨rfl, hs12, H12⟩) | (go_at_call 25; refine (HB.out _ H12).mono ?_; rintro e w13 ⟨A13, c13, rfl, hs13, H13⟩) | (go_at_call 20; refine (HC.out _ _ _ H13).mono ?_; rintro e w14 ⟨rfl, hs14, H14⟩))
  clear HA HB HC hs11 hs12 hs13 hs14 H11 H12 H13
  go_wp2_with (fail)
  refine (bytes_calls g w.heap.size bv6 d1 w14 H14.out.dk.at').mono ?_
  rintro e w15 ⟨v15, rfl, hO15, hb15⟩
  obtain ⟨A15, c15, rfl, hc15⟩ := hO15.slice
  have H15 := Aside0.mk (And.intro (H14.out.below hb15) (And.intro hO15 (fun k hk => H14.out.new k (hO15.base k hk))))
  have hln := H14.out.dk.at'.ln
  clear H14 hO15 hb15
  go_wp2_with (fail)
  refine loopRB (.pointer (some ⟨g, 0, none⟩)) (.pointer (some ⟨gw, 0, none⟩)) (.int .i64 er1) (.int .i64 er1) (.slice (some ad) m c) (.int .i64 (m : Int)) (.int .i64 (i : Int)) (.slice A15 d1.bytes.length c15) d1.bytes w14.heap.size (by omega) w15 _ ?_ _ _ ⟨⟨rfl, rfl⟩, ⟨rfl, rfl, rfl, rfl, rfl, rfl, rfl⟩, rfl, rfl, rfl, Fr.refl _ _, H15.out.2.1⟩
  intro a'' w16 hFm j5 j6 j10 j11 j30 j31 j32 jf
  rw [fm150 hFm, j5, j6, j10, j11, j30, j31, j32]
  have H16 := Aside0.mk (H15.out.1.fr jf (fun k hk => H15.out.2.2 k hk.symm))
  clear H15 hFm j5 j6 j10 j11 j30 j31 j32 jf
  have b5 := B5.out
  go_wp2
  exact HH.out.2.2.2.2 _ _ _ _ _ _ ⟨rfl, rfl⟩ rfl rfl rfl rfl (congrArg (Value.int .i64) B5.out) H16.out
end Go.Proofs.Ytgcajmkbdhjooaa.Sha
