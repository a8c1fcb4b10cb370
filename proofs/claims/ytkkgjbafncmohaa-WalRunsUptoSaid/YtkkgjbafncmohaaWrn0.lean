/-
  WalRuns: a round of its loop, an act of kind 0.
-/
import Derived.Test.YtkkgjbafncmohaaWrM1
import Derived.Deep.RegionHeld3
import Derived.Test.YtkkgjbafncmohaaQx10
import Derived.Test.YtkkgjbafncmohaaQx12
set_option linter.unusedVariables false
set_option linter.unusedSimpArgs false
namespace Go.Proofs.Ytkkgjbafncmohaa.Sha
open Go.RowKit Go.Proofs.YtkkgjbafncmohaaW.PrintWords Go.Proofs.YtkkgjbafncmohaaW.PrintLast Go.Proofs.YtkkgjbafncmohaaW.PrintMore Go.Proofs.Ytkkgjbafncmohaa.Q Go.Proofs.Ytkkgjbafncmohaa.Fr Go.Proofs.Ytkkgjbafncmohaa.Oct
open Go.Proofs.Ytkkgjbafncmohaa.Open (Aw kAcw kAcw_open)

set_option maxHeartbeats 8000000 in
set_option maxRecDepth 100000 in
theorem roundW0 (u : Nat → Value) (A : Option Addr) (c : Nat) (L : List Aw) (i : Nat) (hi : i < L.length) (hL : L.length ≤ 100) (w W : World) (hC : Kd.C kAcw w A L.length L) (hlen : szL (L.getD i zAw).recs ≤ 1048576) (hok : (L.getD i zAw).ok) (hk : (L.getD i zAw).kind = 0) (hne : (L.getD i zAw).recs ≠ []) (gl g gw : Nat) (bv rv : Value) (d : Dsk) (r : Rdk) (H : Rw w W gl g gw bv rv d r i)
    (Q : Exit → Act → World → Prop) (hQ : ∀ a' W' gl' bv' rv' d' r', Fm 208 a' → sl a' 7 = .pointer (some ⟨g, 0, none⟩) → sl a' 8 = .pointer (some ⟨gw, 0, none⟩) → sl a' 10 = .pointer (some ⟨gl', 0, none⟩) → sl a' 86 = .slice A L.length c → sl a' 87 = .int .i64 (L.length : Int) → sl a' 88 = .int .i64 ((i : Int) + 1) → Rw w W' gl' g gw bv' rv' d' r' (i + 1) → Q .normal a' W') :
    Code.wp Try.prog (bodyN Try.f5 0) Q ⟨#[u 0, u 1, u 2, u 3, u 4, u 5, u 6, .pointer (some ⟨g, 0, none⟩), .pointer (some ⟨gw, 0, none⟩), u 9, .pointer (some ⟨gl, 0, none⟩), u 11, u 12, u 13, u 14, u 15, u 16, u 17, u 18, u 19, u 20, u 21, u 22, u 23, u 24, u 25, u 26, u 27, u 28, u 29, u 30, u 31, u 32, u 33, u 34, u 35, u 36, u 37, u 38, u 39, u 40, u 41, u 42, u 43, u 44, u 45, u 46, u 47, u 48, u 49, u 50, u 51, u 52, u 53, u 54, u 55, u 56, u 57, u 58, u 59, u 60, u 61, u 62, u 63, u 64, u 65, u 66, u 67, u 68, u 69, u 70, u 71, u 72, u 73, u 74, u 75, u 76, u 77, u 78, u 79, u 80, u 81, u 82, u 83, u 84, u 85, .slice A L.length c, .int .i64 (L.length : Int), .int .i64 (i : Int), u 89, u 90, u 91, u 92, u 93, u 94, u 95, u 96, u 97, u 98, u 99, u 100, u 101, u 102, u 103, u 104, u 105, u 106, u 107, u 108, u 109, u 110, u 111, u 112, u 113, u 114, u 115, u 116, u 117, u 118, u 119, u 120, u 121, u 122, u 123, u 124, u 125, u 126, u 127, u 128, u 129, u 130, u 131, u 132, u 133, u 134, u 135, u 136, u 137, u 138, u 139, u 140, u 141, u 142, u 143, u 144, u 145, u 146, u 147, u 148, u 149, u 150, u 151, u 152, u 153, u 154, u 155, u 156, u 157, u 158, u 159, u 160, u 161, u 162, u 163, u 164, u 165, u 166, u 167, u 168, u 169, u 170, u 171, u 172, u 173, u 174, u 175, u 176, u 177, u 178, u 179, u 180, u 181, u 182, u 183, u 184, u 185, u 186, u 187, u 188, u 189, u 190, u 191, u 192, u 193, u 194, u 195, u 196, u 197, u 198, u 199, u 200, u 201, u 202, u 203, u 204, u 205, u 206, u 207], []⟩ W := by
  obtain ⟨ad, A1, c1, rfl, x0, x1, x2, x3, hc1, hr1⟩ := at_acw hC i hi
  have F0 := H.rn.dk.F
  replace x0 := F0.cell x0 (fun h => h)
  replace x1 := F0.cell x1 (fun h => h)
  replace x2 := F0.cell x2 (fun h => h)
  replace x3 := F0.cell x3 (fun h => h)
  rw [hk] at x0
  obtain ⟨x, hx⟩ : ∃ x, L.getD i zAw = x := ⟨_, rfl⟩
  rw [hx] at x1 x2 x3 hc1 hr1 hlen hok hne
  obtain ⟨m, hm⟩ : ∃ m, L.length = m := ⟨_, rfl⟩
  rw [hm] at hi hL hQ ⊢
  clear hk hx hm hC F0
  obtain ⟨kind, b, ta, tb⟩ := x
  simp only at x1 x2 x3 hc1 hr1 hlen hne
  have b0 : decide ((i : Int) < (m : Int)) = true := decide_eq_true (by omega)
  have b1 : (0 : Int) ≤ (i : Int) := by omega
  have b2 : (i : Int) < (m : Int) := by omega
  have HH := Aside0.mk (And.intro H (And.intro hr1 (And.intro hlen (And.intro hok hQ))))
  clear H hr1 hlen hok hQ
  have b5 : wrap64 ((i : Int) + 1) = (i : Int) + 1 := by unfold wrap64; omega
  have B5 := Aside0.mk b5
  have BL := Aside0.mk (show i < 100 by omega)
  clear b5 hL
  have hpos : 0 < b.length := List.length_pos_iff.2 hne
  obtain ⟨ad1, A0, c0, e1, x5, hc0, hr0⟩ := CC.get HH.out.2.1 0 hpos
  subst e1
  obtain ⟨p, hp⟩ : ∃ p, b.getD 0 [] = p := ⟨_, rfl⟩
  rw [hp] at x5 hc0 hr0
  have hlp : p.length ≤ 1048576 := by
    have h1 : p ∈ b := by rw [← hp, List.getD_eq_getElem?_getD, List.getElem?_eq_getElem hpos]; exact List.getElem_mem hpos
    have := szL_mem h1
    have := HH.out.2.2.1
    omega
  have hBp : Bys p := by
    have h1 : p ∈ b := by rw [← hp, List.getD_eq_getElem?_getD, List.getElem?_eq_getElem hpos]; exact List.getElem_mem hpos
    exact HH.out.2.2.2.1.2.1 p h1
  have HP := Aside0.mk (And.intro hr0 (And.intro hlp hBp))
  rw [show ad1.add 0 = ad1 by first | exact Addr.add_zero _ | (obtain ⟨_, _, _⟩ := ad1; simp [Addr.add]) | simp] at x5
  have HX := Aside0.mk x5
  have c9 : decide ((b.length : Int) = 0) = false := decide_eq_false (by omega)
  have c9' : ((b.length : Int) == 0) = false := by simpa using (show ¬ b = [] from hne)
  have c9'' : ¬ b.length = 0 := by omega
  have c9a : (0 : Int) < (b.length : Int) := by omega
  clear hp hr0 hlp hBp
  conv => arg 2; whnf
  go_wp2_with (first | ((with_reducible refine gate_dst (N := 16) rfl ?_); refine wpList_alloc_abs (by rfl) 47 (by rfl) (.agg Z4w) (by kernel_rfl) ?_; intro w2 hb2 hs2 hg2) | ((with_reducible refine gate_store (p := 16) rfl ?_); refine Aside0.out ?_))
  refine ⟨?_⟩
  refine wpList_store_abs (by rfl) 47 _ _ (by rfl) W.heap.size #[.int .i64 0, .slice (some ad1) b.length c1, .int .i64 ta, .int .i64 tb] (by rfl) (by rfl) 47 Z4w hg2 (by kernel_rfl) (by rfl) (by simp [Value.oneCell']) ?_
  intro w3 hf3 hs3 hg3
  have F3 : Fr (fun _ => False) W w3 := (Fr.of_below hb2 (fun _ => False)).trans hf3 (fun k hk => .inr (by omega))
  have H3 : Rw w w3 gl g gw bv rv d r i := HH.out.1.fr F3 (fun k hk => hk.elim)
  have y : w3.cell? ⟨W.heap.size, 0, none⟩ = some (.int .i64 0) ∧ w3.cell? ⟨W.heap.size, 1, none⟩ = some (.slice (some ad1) b.length c1) ∧ w3.cell? ⟨W.heap.size, 2, none⟩ = some (.int .i64 ta) ∧ w3.cell? ⟨W.heap.size, 3, none⟩ = some (.int .i64 tb) := by simp [World.cell?, hg3]
  have zW : W.heap.size < w3.heap.size := blk_lt hg3
  have hnW := HH.out.1.rn.new W.heap.size (Nat.le_refl _)
  have H3 := Aside0.mk (And.intro H3 (And.intro hg3 (And.intro zW (And.intro hnW.2.1 hnW.2.2.1))))
  obtain ⟨y0, y1, y2, y3⟩ := y
  clear hb2 hs2 hg2 hf3 hs3 hg3 x0 x1 x2 x3 zW hnW F3
  go_wp2_with (first | ((with_reducible refine gate_dst (N := 101) rfl ?_); refine wpList_lit0 (by rfl) (by first | (go_simp; done) | (go_simp; rfl)) ?_; intro v4 w4 hO4 hb4; have f4 := Fr.of_below hb4 (fun _ => False); replace y1 := f4.cell y1 (fun h => h); replace x5 := (H3.out.1.below hb4).rn.dk.F.cell x5 (fun h => h)) | ((with_reducible refine gate_builtin (b := .append) (xs := #[.tmp 101, .tmp 105]) rfl ?_); at_builtin; refine Aside0.out ?_))
  refine ⟨?_⟩
  have z4 := f4.size
  have H4 := H3.out.1.below hb4
  refine wpList_appe rfl (by rfl) w3.heap.size _ _ (by rfl) infoB v4 [] (by rfl) hO4 A0 p.length c0 p (by rfl) rfl (HP.out.1.fr H4.rn.dk.F (fun _ _ h => h)) (by have := HP.out.2.1; simp only [List.length_nil]; omega) z4 ?_
  intro v5 w5 hO5 hf5 _
  rw [List.nil_append] at hO5
  have f5 : Fr (fun _ => False) w3 w5 := f4.trans hf5 (fun k hk => .inr (hO4.base k hk.symm))
  have H5 : Rw w w5 gl g gw bv rv d r i := H3.out.1.fr f5 (fun k hk => hk.elim)
  obtain ⟨A5, c5, rfl, hc5⟩ := hO5.slice
  have hg5 := f5.blk H3.out.2.1 (fun h => h)
  have H5 := Aside0.mk (And.intro H5 (And.intro (QB.rd (q_of_own hO5)) (And.intro hg5 H3.out.2.2)))
  clear H3 H4 y0 y1 y2 y3 x5 hO4 hb4 f4 z4 hO5 hf5 f5 hg5
  go_wp2_with (fail)
  have hrel := HH.out.1.rn.rel.app (bytesA p)
  obtain ⟨⟨er, d1⟩, hd1⟩ : ∃ z, d.app (bytesA p) = z := ⟨_, rfl⟩
  have hB1 : Bys d1.bytes := by
    have := Dsk.app_bys HH.out.1.bys (bytesA_bys HP.out.2.2)
    rw [hd1] at this
    exact this
  have hap := add_calls gl g w.heap.size bv d A5 c5 p w5 H5.out.1.log H5.out.1.lfar H5.out.1.rn.dk.at' H5.out.1.rn.dk.F.size H5.out.2.1 hc5 (by have := HP.out.2.1; omega) (by have := HH.out.1.rn.rel.lo; have := BL.out; omega) HH.out.1.rn.rel.hi
  rw [hd1] at hrel hap
  simp only at hrel hap
  refine hap.mono ?_
  rintro e w6 ⟨rfl, hf6, bv6, hD6, hn6⟩
  have H6 : Rx w w6 gl g gw bv6 rv d1 r := H5.out.1.act hf6 hD6 hn6
  have hg6 := hf6.blk H5.out.2.2.1 H5.out.2.2.2.2.1
  obtain ⟨⟨r1, er1⟩, hr1⟩ : ∃ z, r.write (bytesA p) false = z := ⟨_, rfl⟩
  rw [hr1] at hrel
  simp only at hrel
  obtain ⟨rfl, hrel⟩ := hrel
  have hS : ∀ w', Fr (fun _ => False) w6 w' → w'.cell? ⟨gw, 0, none⟩ = some (rv) ∧ w'.cell? ⟨gw, 1, none⟩ = some (.int .i64 r.room) ∧ w'.cell? ⟨gw, 2, none⟩ = some (.bool r.dead) ∧ w'.cell? ⟨gw, 3, none⟩ = some (.bool r.breaks) ∧ w'.cell? ⟨gw, 4, none⟩ = some (.int .i64 r.writes) ∧ w'.cell? ⟨gw, 5, none⟩ = some (.int .i64 r.tear) ∧ w'.cell? ⟨W.heap.size, 1, none⟩ = some (.slice (some ad1) b.length c1) ∧ w'.cell? ad1 = some (.slice A0 p.length c0) := fun w' hf => by
    obtain ⟨q0, q1, q2, q3, q4, q5⟩ := rset (hf.blk H6.rh.want (fun h => h))
    have hga := hf.blk hg6 (fun h => h)
    exact ⟨q0, q1, q2, q3, q4, q5, by simp [World.cell?, hga], hf.cell (H6.rh.dk.F.cell HX.out (fun h => h)) (fun h => h)⟩
  have HB : ∀ w7, Fr (fun _ => False) w6 w7 → Calls Try.prog 20 #[.agg #[rv, .int .i64 r.room, .bool r.dead, .bool r.breaks, .int .i64 r.writes, .int .i64 r.tear], .slice A0 p.length c0] w7 fun e w8 => ∃ (A7 : Option Addr) (c7 : Nat), e = .returned (.tuple #[.agg #[.slice A7 r1.bytes.length c7, .int .i64 r1.room, .bool r1.dead, .bool r1.breaks, .int .i64 r1.writes, .int .i64 r1.tear], .int .i64 er1]) ∧ (w8.cell? ⟨gw, 0, none⟩ = some (rv) ∧ w8.cell? ⟨gw, 1, none⟩ = some (.int .i64 r.room) ∧ w8.cell? ⟨gw, 2, none⟩ = some (.bool r.dead) ∧ w8.cell? ⟨gw, 3, none⟩ = some (.bool r.breaks) ∧ w8.cell? ⟨gw, 4, none⟩ = some (.int .i64 r.writes) ∧ w8.cell? ⟨gw, 5, none⟩ = some (.int .i64 r.tear) ∧ w8.cell? ⟨W.heap.size, 1, none⟩ = some (.slice (some ad1) b.length c1) ∧ w8.cell? ad1 = some (.slice A0 p.length c0)) ∧ Aside0 (Fr (fun _ => False) w7 w8 ∧ Lies w8 (.slice A7 r1.bytes.length c7) r1.bytes ∧ Near w7.heap.size w8 rv (.slice A7 r1.bytes.length c7)) := by
    intro w7 hf7
    have hwr := radd_calls r rv A0 c0 p w7 (H6.rh.lies.fr hf7 (fun _ _ h => h)) (fun k hk => Nat.lt_of_lt_of_le (H6.rh.far k hk).1 hf7.size) (HP.out.1.fr (H6.rh.dk.F.trans hf7 (fun _ h => h.elim)) (fun _ _ h => h)) hc0 (by have := HP.out.2.1; omega) (by rw [HH.out.1.rn.rel.b]; have := HH.out.1.rn.dk.at'.ln; omega) (by have := HH.out.1.rn.rel.rlo; omega) HH.out.1.rn.rel.rhi
    rw [hr1] at hwr
    refine hwr.mono ?_
    rintro e w8 ⟨v', rfl, hL, hN, hb⟩
    obtain ⟨A', c', rfl, hc', hr'⟩ := hL
    have f8 := Fr.of_below hb (fun _ => False)
    exact ⟨A', c', rfl, hS _ (hf7.trans f8 (fun _ h => h.elim)), ⟨f8, ⟨A', c', rfl, hc', hr'⟩, hN⟩⟩
  have hs6 := hS _ (Fr.refl _ _)
  have HR := Aside0.mk (And.intro hrel hB1)
  have H6 := Aside0.mk H6
  have HB := Aside0.mk HB
  have HS := Aside0.mk hS
  clear hrel hap hB1 H5 hf6 hD6 hn6 hg6 hS hd1 hr1 hc5
  go_wp2_with (fail)
  refine wp_region_noPanic ?_
  refine wp_region_held_drew (S := (fun w' => w'.cell? ⟨gw, 0, none⟩ = some (rv) ∧ w'.cell? ⟨gw, 1, none⟩ = some (.int .i64 r.room) ∧ w'.cell? ⟨gw, 2, none⟩ = some (.bool r.dead) ∧ w'.cell? ⟨gw, 3, none⟩ = some (.bool r.breaks) ∧ w'.cell? ⟨gw, 4, none⟩ = some (.int .i64 r.writes) ∧ w'.cell? ⟨gw, 5, none⟩ = some (.int .i64 r.tear) ∧ w'.cell? ⟨W.heap.size, 1, none⟩ = some (.slice (some ad1) b.length c1) ∧ w'.cell? ad1 = some (.slice A0 p.length c0))) (by kernel_rfl) hs6 (fun hHeld => ?_)
  refine wpAnyH_take (i := 0) (oi := ⟨some 109, _, _, _, _, _⟩) (v := (.agg #[rv, .int .i64 r.room, .bool r.dead, .bool r.breaks, .int .i64 r.writes, .int .i64 r.tear])) rfl (by kernel_rfl) (by kernel_rfl) (by kernel_rfl) (fun _ _ _ h => h) (Or.inl ⟨by rfl, by (intro w' hSw; (try dsimp only at hSw); go_simp)⟩) (by assumption) ?_
  try simp only [Act.put, List.setIfInBounds_toArray, List.set_cons_zero, List.set_cons_succ]
  refine wpAnyH_take (i := 1) (oi := ⟨some 110, _, _, _, _, _⟩) (v := (.pointer (some ⟨W.heap.size, 1, none⟩))) rfl (by kernel_rfl) (by kernel_rfl) (by kernel_rfl) (fun _ _ _ h => h) (Or.inl ⟨by rfl, by (intro w' hSw; (try dsimp only at hSw); go_simp)⟩) (by assumption) ?_
  try simp only [Act.put, List.setIfInBounds_toArray, List.set_cons_zero, List.set_cons_succ]
  refine wpAnyH_take (i := 2) (oi := ⟨some 111, _, _, _, _, _⟩) (v := (.slice (some ad1) b.length c1)) rfl (by kernel_rfl) (by kernel_rfl) (by kernel_rfl) (fun _ _ _ h => h) (Or.inl ⟨by rfl, by (intro w' hSw; (try dsimp only at hSw); go_simp)⟩) (by assumption) ?_
  try simp only [Act.put, List.setIfInBounds_toArray, List.set_cons_zero, List.set_cons_succ]
  refine wpAnyH_take (i := 3) (oi := ⟨some 112, _, _, _, _, _⟩) (v := (.pointer (some ad1))) rfl (by kernel_rfl) (by kernel_rfl) (by kernel_rfl) (fun _ _ _ h => h) (Or.inl ⟨by rfl, by (intro w' hSw; (try dsimp only at hSw); go_simp)⟩) (by assumption) ?_
  try simp only [Act.put, List.setIfInBounds_toArray, List.set_cons_zero, List.set_cons_succ]
  refine wpAnyH_take (i := 4) (oi := ⟨some 113, _, _, _, _, _⟩) (v := (.slice A0 p.length c0)) rfl (by kernel_rfl) (by kernel_rfl) (by kernel_rfl) (fun _ _ _ h => h) (Or.inl ⟨by rfl, by (intro w' hSw; (try dsimp only at hSw); go_simp)⟩) (by assumption) ?_
  try simp only [Act.put, List.setIfInBounds_toArray, List.set_cons_zero, List.set_cons_succ]
  have f6d : Fr (fun _ => False) w6 w6.drew := (Fr.refl _ _).of_drew
  refine wpAnyH_ready (rs := [5, 9]) (by kernel_rfl) (by simp) ?_
  refine AllReadyH.cons (o := ⟨some 114, _, _, _, _, _⟩) rfl (fun K hK => ?_) (AllReadyH.cons (o := ⟨some 19, _, _, _, _, _⟩) rfl (fun K hK => ?_) AllReadyH.nil)
  · go_simp
    go_at_call 20
    refine (HB.out _ f6d).mono ?_
    rintro e w7 ⟨A7, c7, rfl, hs7, H7⟩
    refine hK.out _ _ hs7 (fun hHeld => ?_)
    try simp only [Act.put, List.setIfInBounds_toArray, List.set_cons_zero, List.set_cons_succ]
    refine wpAnyH_take (i := 6) (oi := ⟨some 108, _, _, _, _, _⟩) (v := (.tuple #[.agg #[.slice A7 r1.bytes.length c7, .int .i64 r1.room, .bool r1.dead, .bool r1.breaks, .int .i64 r1.writes, .int .i64 r1.tear], .int .i64 er1])) rfl (by kernel_rfl) (by kernel_rfl) (by kernel_rfl) (fun _ _ _ h => h) (Or.inl ⟨by rfl, by (intro w' hSw; (try dsimp only at hSw); go_simp)⟩) (by assumption) ?_
    try simp only [Act.put, List.setIfInBounds_toArray, List.set_cons_zero, List.set_cons_succ]
    refine wpAnyH_take (i := 7) (oi := ⟨some 115, _, _, _, _, _⟩) (v := (.agg #[.slice A7 r1.bytes.length c7, .int .i64 r1.room, .bool r1.dead, .bool r1.breaks, .int .i64 r1.writes, .int .i64 r1.tear])) rfl (by kernel_rfl) (by kernel_rfl) (by kernel_rfl) (fun _ _ _ h => h) (Or.inl ⟨by rfl, by (intro w' hSw; (try dsimp only at hSw); go_simp)⟩) (by assumption) ?_
    try simp only [Act.put, List.setIfInBounds_toArray, List.set_cons_zero, List.set_cons_succ]
    refine wpAnyH_take (i := 8) (oi := ⟨some 116, _, _, _, _, _⟩) (v := (.int .i64 er1)) rfl (by kernel_rfl) (by kernel_rfl) (by kernel_rfl) (fun _ _ _ h => h) (Or.inl ⟨by rfl, by (intro w' hSw; (try dsimp only at hSw); go_simp)⟩) (by assumption) ?_
    try simp only [Act.put, List.setIfInBounds_toArray, List.set_cons_zero, List.set_cons_succ]
    refine wpAnyH_ready (rs := [9]) (by kernel_rfl) (by simp) ?_
    refine AllReadyH.cons (o := ⟨some 19, _, _, _, _, _⟩) rfl (fun K hK => ?_) AllReadyH.nil
    rw [if_pos (by rfl)]
    refine wp_alloc_abs 40 (by rfl) (.agg Z6r) (by kernel_rfl) ?_
    intro w8 hb8 hz8 hg7
    have f8 := Fr.of_below hb8 (fun _ => False)
    have hs8 := HS.out w8 ((f6d.trans H7.out.1 (fun _ h => h.elim)).trans f8 (fun _ h => h.elim))
    refine hK.out _ _ hs8 (fun hHeld => ?_)
    try simp only [Act.put, List.setIfInBounds_toArray, List.set_cons_zero, List.set_cons_succ]
    obtain ⟨g7, hgg⟩ : ∃ g, w7.heap.size = g := ⟨_, rfl⟩
    rw [hgg] at hg7
    rw [hgg]
    have FF := Aside0.mk (And.intro ((f6d.trans H7.out.1 (fun _ h => h.elim)).trans f8 (fun _ h => h.elim)) (show w6.heap.size ≤ g7 by have := f6d.size; have := H7.out.1.size; omega))
    have HLN := Aside0.mk (And.intro (H7.out.2.1.fr f8 (fun _ _ h => h)) (show ∀ k, (Value.slice A7 r1.bytes.length c7).ownBlock = some k → rv.ownBlock = some k ∨ (w6.heap.size ≤ k ∧ k < w8.heap.size ∧ k ≠ g7) from fun k hk => (H7.out.2.2 k hk).elim .inl (fun h => .inr ⟨by have := h.1; have := f6d.size; omega, by have := h.2; omega, by have := h.2; omega⟩)))
    clear hs7 hs8 H7 f8 hb8 hz8 hgg
    refine wpAnyH_ready (rs := [10]) (by kernel_rfl) (by simp) ?_
    refine AllReadyH.cons (o := ⟨none, _, _, _, _, _⟩) rfl (fun K hK => ?_) AllReadyH.nil
    rw [if_pos (by rfl)]
    refine wp_store_abs 40 _ _ (by rfl) g7 #[.slice A7 r1.bytes.length c7, .int .i64 r1.room, .bool r1.dead, .bool r1.breaks, .int .i64 r1.writes, .int .i64 r1.tear] (by rfl) (by rfl) 40 Z6r hg7 (by kernel_rfl) (by rfl) (by simp [Value.oneCell']) ?_
    intro w9 hf9 hs9 hg9
    have F69 := FF.out.1.trans hf9 (fun k hk => .inr (by have := FF.out.2; omega))
    have hs9' := HS.out _ F69
    refine hK.out _ _ hs9' (fun hHeld => ?_)
    try simp only [Act.put, List.setIfInBounds_toArray, List.set_cons_zero, List.set_cons_succ]
    refine wpAnyH_take (i := 11) (oi := ⟨some 20, _, _, _, _, _⟩) (v := (.int .i64 er1)) rfl (by kernel_rfl) (by kernel_rfl) (by kernel_rfl) (fun _ _ _ h => h) (Or.inl ⟨by rfl, by (intro w' hSw; (try dsimp only at hSw); go_simp)⟩) (by assumption) ?_
    try simp only [Act.put, List.setIfInBounds_toArray, List.set_cons_zero, List.set_cons_succ]
    refine wpAnyH_done (by kernel_rfl) ?_ _
    refine NoPanic.normal ?_
    have y : w9.cell? ⟨g7, 0, none⟩ = some (.slice A7 r1.bytes.length c7) ∧ w9.cell? ⟨g7, 1, none⟩ = some (.int .i64 r1.room) ∧ w9.cell? ⟨g7, 2, none⟩ = some (.bool r1.dead) ∧ w9.cell? ⟨g7, 3, none⟩ = some (.bool r1.breaks) ∧ w9.cell? ⟨g7, 4, none⟩ = some (.int .i64 r1.writes) ∧ w9.cell? ⟨g7, 5, none⟩ = some (.int .i64 r1.tear) := by simp [World.cell?, hg9]
    obtain ⟨y0, y1, y2, y3, y4, y5⟩ := y
    have hw9 := F69.blk H6.out.rh.want (fun h => h)
    have HF := Aside0.mk F69
    clear hHeld hs9' hs6 HS F69
    go_wp2_with (first | ((with_reducible refine gate_store (p := 8) rfl ?_); refine Aside0.out ?_))
    refine ⟨?_⟩
    refine wpList_store_abs (by rfl) 40 _ _ (by rfl) gw #[.slice A7 r1.bytes.length c7, .int .i64 r1.room, .bool r1.dead, .bool r1.breaks, .int .i64 r1.writes, .int .i64 r1.tear] (by rfl) (by rfl) 40 (rcs rv r) hw9 (by kernel_rfl) (by rfl) (by simp [Value.oneCell']) ?_
    intro w10 hf10 hs10 hg10
    have H10 : Rw w w10 gl g gw bv6 (.slice A7 r1.bytes.length c7) d1 r1 (i + 1) := H6.out.wrote (HF.out.below _ (Nat.le_refl _) (fun i h => h.elim)) (HLN.out.1.fr hf9 (fun k hk e => (HLN.out.2 k hk).elim (fun h => by have := (H6.out.rh.far k h).1; have := FF.out.2; omega) (fun h => by have := h.2.2; omega))) (fun k hk => (HLN.out.2 k hk).elim .inl (fun h => .inr ⟨h.1, by have := h.2.1; omega⟩)) hf10 hg10 HR.out.1 HR.out.2
    have H10 := Aside0.mk H10
    clear y0 y1 y2 y3 y4 y5 hw9 HF hf9 hs9 hg9 hf10 hs10 hg10 HR H6 HLN FF HB
    have hS : ∀ W', Rw w W' gl g gw bv6 (.slice A7 r1.bytes.length c7) d1 r1 (i + 1) → W'.cell? ⟨gw, 0, none⟩ = some (.slice A7 r1.bytes.length c7) := fun W' h => (rset h.rn.want).1
    have HB : ∀ w2, Below w10.heap.size w10 w2 → Calls Try.prog 29 #[.pointer (some ⟨g, 0, none⟩)] w2 fun e w3 => ∃ (A : Option Addr) (c : Nat), e = .returned (.slice A r1.bytes.length c) ∧ w3.cell? ⟨gw, 0, none⟩ = some (.slice A7 r1.bytes.length c7) ∧ Aside0 (Rw w w3 gl g gw bv6 (.slice A7 r1.bytes.length c7) d1 r1 (i + 1) ∧ Rd w3 A r1.bytes ∧ r1.bytes.length ≤ c) := by
      intro w2 hb2
      have h2 := H10.out.below hb2
      refine (bytes_calls g w.heap.size bv6 d1 w2 h2.rn.dk.at').mono ?_
      rintro e w3 ⟨v3, rfl, hO, hb⟩
      rw [← h2.rn.rel.b] at hO
      obtain ⟨A, c, rfl, hc⟩ := hO.slice
      have h3 := h2.below hb
      exact ⟨A, c, rfl, hS _ h3, ⟨h3, QB.rd (q_of_own hO), hc⟩⟩
    have HC : ∀ w3 A c, Aside0 (Rw w w3 gl g gw bv6 (.slice A7 r1.bytes.length c7) d1 r1 (i + 1) ∧ Rd w3 A r1.bytes ∧ r1.bytes.length ≤ c) → Calls Try.prog 28 #[.slice A r1.bytes.length c, .slice A7 r1.bytes.length c7] w3 fun e w4 => e = .returned (.bool true) ∧ w4.cell? ⟨gw, 0, none⟩ = some (.slice A7 r1.bytes.length c7) ∧ Aside0 (Rw w w4 gl g gw bv6 (.slice A7 r1.bytes.length c7) d1 r1 (i + 1)) := by
      intro w3 A c h3
      obtain ⟨A8, c8, e8, hc8, hr8⟩ := h3.out.1.rn.lies
      injection e8 with e8 _ e9
      subst e8 e9
      refine (same_calls r1.bytes A c A7 c7 w3 h3.out.2.1 h3.out.2.2 hr8 hc8 (by rw [h3.out.1.rn.rel.b]; have := h3.out.1.rn.dk.at'.ln; omega)).mono ?_
      rintro e w4 ⟨rfl, hb⟩
      have h4 := h3.out.1.below hb
      exact ⟨rfl, hS _ h4, ⟨h4⟩⟩
    have hs11 := hS _ H10.out
    have HB := Aside0.mk HB
    have HC := Aside0.mk HC
    clear hS
    go_wp2_with (fail)
    go_region_held3 (fun w' => w'.cell? ⟨gw, 0, none⟩ = some (.slice A7 r1.bytes.length c7)) (first | exact hs11 | exact hs13 | exact hs14)
      (first | (go_at_call 29; refine (HB.out _ (below_drew (Below.refl _ _))).mono ?_; rintro e w13 ⟨A13, c13, rfl, hs13, H13⟩) | (go_at_call 28; refine (HC.out _ _ _ H13).mono ?_; rintro e w14 ⟨rfl, hs14, H14⟩))
    clear HB HC hs11 hs13 hs14 H10 H13
    have b5 := B5.out
    go_wp2
    exact HH.out.2.2.2.2 _ _ _ _ _ _ _ ⟨rfl, rfl⟩ rfl rfl rfl rfl rfl (congrArg (Value.int .i64) B5.out) H14.out
  · rw [if_pos (by rfl)]
    refine wp_alloc_abs 40 (by rfl) (.agg Z6r) (by kernel_rfl) ?_
    intro w7 hb7 hz7 hg4
    have f7 := f6d.trans (Fr.of_below hb7 (fun _ => False)) (fun _ h => h.elim)
    have hs7 := HS.out w7 f7
    refine hK.out _ _ hs7 (fun hHeld => ?_)
    try simp only [Act.put, List.setIfInBounds_toArray, List.set_cons_zero, List.set_cons_succ]
    refine wpAnyH_ready (rs := [5]) (by kernel_rfl) (by simp) ?_
    refine AllReadyH.cons (o := ⟨some 114, _, _, _, _, _⟩) rfl (fun K hK => ?_) AllReadyH.nil
    go_simp
    go_at_call 20
    refine (HB.out _ f7).mono ?_
    rintro e w8 ⟨A7, c7, rfl, hs8, H8⟩
    refine hK.out _ _ hs8 (fun hHeld => ?_)
    try simp only [Act.put, List.setIfInBounds_toArray, List.set_cons_zero, List.set_cons_succ]
    refine wpAnyH_take (i := 6) (oi := ⟨some 108, _, _, _, _, _⟩) (v := (.tuple #[.agg #[.slice A7 r1.bytes.length c7, .int .i64 r1.room, .bool r1.dead, .bool r1.breaks, .int .i64 r1.writes, .int .i64 r1.tear], .int .i64 er1])) rfl (by kernel_rfl) (by kernel_rfl) (by kernel_rfl) (fun _ _ _ h => h) (Or.inl ⟨by rfl, by (intro w' hSw; (try dsimp only at hSw); go_simp)⟩) (by assumption) ?_
    try simp only [Act.put, List.setIfInBounds_toArray, List.set_cons_zero, List.set_cons_succ]
    refine wpAnyH_take (i := 7) (oi := ⟨some 115, _, _, _, _, _⟩) (v := (.agg #[.slice A7 r1.bytes.length c7, .int .i64 r1.room, .bool r1.dead, .bool r1.breaks, .int .i64 r1.writes, .int .i64 r1.tear])) rfl (by kernel_rfl) (by kernel_rfl) (by kernel_rfl) (fun _ _ _ h => h) (Or.inl ⟨by rfl, by (intro w' hSw; (try dsimp only at hSw); go_simp)⟩) (by assumption) ?_
    try simp only [Act.put, List.setIfInBounds_toArray, List.set_cons_zero, List.set_cons_succ]
    refine wpAnyH_take (i := 8) (oi := ⟨some 116, _, _, _, _, _⟩) (v := (.int .i64 er1)) rfl (by kernel_rfl) (by kernel_rfl) (by kernel_rfl) (fun _ _ _ h => h) (Or.inl ⟨by rfl, by (intro w' hSw; (try dsimp only at hSw); go_simp)⟩) (by assumption) ?_
    try simp only [Act.put, List.setIfInBounds_toArray, List.set_cons_zero, List.set_cons_succ]
    have hg7 := H8.out.1.blk hg4 (fun h => h)
    have hdz : w6.drew.heap.size = w6.heap.size := rfl
    obtain ⟨g7, hgg⟩ : ∃ g, w6.heap.size = g := ⟨_, rfl⟩
    rw [hdz, hgg] at hg7 hz7
    rw [hgg]
    have FF := Aside0.mk (And.intro (f7.trans H8.out.1 (fun _ h => h.elim)) (show w6.heap.size ≤ g7 by omega))
    have HLN := Aside0.mk (And.intro H8.out.2.1 (show ∀ k, (Value.slice A7 r1.bytes.length c7).ownBlock = some k → rv.ownBlock = some k ∨ (w6.heap.size ≤ k ∧ k < w8.heap.size ∧ k ≠ g7) from fun k hk => (H8.out.2.2 k hk).elim .inl (fun h => .inr ⟨by have := h.1; have := f7.size; omega, by have := h.2; omega, by have := h.1; omega⟩)))
    clear hs7 hs8 H8 f7 hb7 hz7 hg4 hgg
    refine wpAnyH_ready (rs := [10]) (by kernel_rfl) (by simp) ?_
    refine AllReadyH.cons (o := ⟨none, _, _, _, _, _⟩) rfl (fun K hK => ?_) AllReadyH.nil
    rw [if_pos (by rfl)]
    refine wp_store_abs 40 _ _ (by rfl) g7 #[.slice A7 r1.bytes.length c7, .int .i64 r1.room, .bool r1.dead, .bool r1.breaks, .int .i64 r1.writes, .int .i64 r1.tear] (by rfl) (by rfl) 40 Z6r hg7 (by kernel_rfl) (by rfl) (by simp [Value.oneCell']) ?_
    intro w9 hf9 hs9 hg9
    have F69 := FF.out.1.trans hf9 (fun k hk => .inr (by have := FF.out.2; omega))
    have hs9' := HS.out _ F69
    refine hK.out _ _ hs9' (fun hHeld => ?_)
    try simp only [Act.put, List.setIfInBounds_toArray, List.set_cons_zero, List.set_cons_succ]
    refine wpAnyH_take (i := 11) (oi := ⟨some 20, _, _, _, _, _⟩) (v := (.int .i64 er1)) rfl (by kernel_rfl) (by kernel_rfl) (by kernel_rfl) (fun _ _ _ h => h) (Or.inl ⟨by rfl, by (intro w' hSw; (try dsimp only at hSw); go_simp)⟩) (by assumption) ?_
    try simp only [Act.put, List.setIfInBounds_toArray, List.set_cons_zero, List.set_cons_succ]
    refine wpAnyH_done (by kernel_rfl) ?_ _
    refine NoPanic.normal ?_
    have y : w9.cell? ⟨g7, 0, none⟩ = some (.slice A7 r1.bytes.length c7) ∧ w9.cell? ⟨g7, 1, none⟩ = some (.int .i64 r1.room) ∧ w9.cell? ⟨g7, 2, none⟩ = some (.bool r1.dead) ∧ w9.cell? ⟨g7, 3, none⟩ = some (.bool r1.breaks) ∧ w9.cell? ⟨g7, 4, none⟩ = some (.int .i64 r1.writes) ∧ w9.cell? ⟨g7, 5, none⟩ = some (.int .i64 r1.tear) := by simp [World.cell?, hg9]
    obtain ⟨y0, y1, y2, y3, y4, y5⟩ := y
    have hw9 := F69.blk H6.out.rh.want (fun h => h)
    have HF := Aside0.mk F69
    clear hHeld hs9' hs6 HS F69
    go_wp2_with (first | ((with_reducible refine gate_store (p := 8) rfl ?_); refine Aside0.out ?_))
    refine ⟨?_⟩
    refine wpList_store_abs (by rfl) 40 _ _ (by rfl) gw #[.slice A7 r1.bytes.length c7, .int .i64 r1.room, .bool r1.dead, .bool r1.breaks, .int .i64 r1.writes, .int .i64 r1.tear] (by rfl) (by rfl) 40 (rcs rv r) hw9 (by kernel_rfl) (by rfl) (by simp [Value.oneCell']) ?_
    intro w10 hf10 hs10 hg10
    have H10 : Rw w w10 gl g gw bv6 (.slice A7 r1.bytes.length c7) d1 r1 (i + 1) := H6.out.wrote (HF.out.below _ (Nat.le_refl _) (fun i h => h.elim)) (HLN.out.1.fr hf9 (fun k hk e => (HLN.out.2 k hk).elim (fun h => by have := (H6.out.rh.far k h).1; have := FF.out.2; omega) (fun h => by have := h.2.2; omega))) (fun k hk => (HLN.out.2 k hk).elim .inl (fun h => .inr ⟨h.1, by have := h.2.1; omega⟩)) hf10 hg10 HR.out.1 HR.out.2
    have H10 := Aside0.mk H10
    clear y0 y1 y2 y3 y4 y5 hw9 HF hf9 hs9 hg9 hf10 hs10 hg10 HR H6 HLN FF HB
    have hS : ∀ W', Rw w W' gl g gw bv6 (.slice A7 r1.bytes.length c7) d1 r1 (i + 1) → W'.cell? ⟨gw, 0, none⟩ = some (.slice A7 r1.bytes.length c7) := fun W' h => (rset h.rn.want).1
    have HB : ∀ w2, Below w10.heap.size w10 w2 → Calls Try.prog 29 #[.pointer (some ⟨g, 0, none⟩)] w2 fun e w3 => ∃ (A : Option Addr) (c : Nat), e = .returned (.slice A r1.bytes.length c) ∧ w3.cell? ⟨gw, 0, none⟩ = some (.slice A7 r1.bytes.length c7) ∧ Aside0 (Rw w w3 gl g gw bv6 (.slice A7 r1.bytes.length c7) d1 r1 (i + 1) ∧ Rd w3 A r1.bytes ∧ r1.bytes.length ≤ c) := by
      intro w2 hb2
      have h2 := H10.out.below hb2
      refine (bytes_calls g w.heap.size bv6 d1 w2 h2.rn.dk.at').mono ?_
      rintro e w3 ⟨v3, rfl, hO, hb⟩
      rw [← h2.rn.rel.b] at hO
      obtain ⟨A, c, rfl, hc⟩ := hO.slice
      have h3 := h2.below hb
      exact ⟨A, c, rfl, hS _ h3, ⟨h3, QB.rd (q_of_own hO), hc⟩⟩
    have HC : ∀ w3 A c, Aside0 (Rw w w3 gl g gw bv6 (.slice A7 r1.bytes.length c7) d1 r1 (i + 1) ∧ Rd w3 A r1.bytes ∧ r1.bytes.length ≤ c) → Calls Try.prog 28 #[.slice A r1.bytes.length c, .slice A7 r1.bytes.length c7] w3 fun e w4 => e = .returned (.bool true) ∧ w4.cell? ⟨gw, 0, none⟩ = some (.slice A7 r1.bytes.length c7) ∧ Aside0 (Rw w w4 gl g gw bv6 (.slice A7 r1.bytes.length c7) d1 r1 (i + 1)) := by
      intro w3 A c h3
      obtain ⟨A8, c8, e8, hc8, hr8⟩ := h3.out.1.rn.lies
      injection e8 with e8 _ e9
      subst e8 e9
      refine (same_calls r1.bytes A c A7 c7 w3 h3.out.2.1 h3.out.2.2 hr8 hc8 (by rw [h3.out.1.rn.rel.b]; have := h3.out.1.rn.dk.at'.ln; omega)).mono ?_
      rintro e w4 ⟨rfl, hb⟩
      have h4 := h3.out.1.below hb
      exact ⟨rfl, hS _ h4, ⟨h4⟩⟩
    have hs11 := hS _ H10.out
    have HB := Aside0.mk HB
    have HC := Aside0.mk HC
    clear hS
    go_wp2_with (fail)
    go_region_held3 (fun w' => w'.cell? ⟨gw, 0, none⟩ = some (.slice A7 r1.bytes.length c7)) (first | exact hs11 | exact hs13 | exact hs14)
      (first | (go_at_call 29; refine (HB.out _ (below_drew (Below.refl _ _))).mono ?_; rintro e w13 ⟨A13, c13, rfl, hs13, H13⟩) | (go_at_call 28; refine (HC.out _ _ _ H13).mono ?_; rintro e w14 ⟨rfl, hs14, H14⟩))
    clear HB HC hs11 hs13 hs14 H10 H13
    have b5 := B5.out
    go_wp2
    exact HH.out.2.2.2.2 _ _ _ _ _ _ _ ⟨rfl, rfl⟩ rfl rfl rfl rfl rfl (congrArg (Value.int .i64) B5.out) H14.out
end Go.Proofs.Ytkkgjbafncmohaa.Sha
