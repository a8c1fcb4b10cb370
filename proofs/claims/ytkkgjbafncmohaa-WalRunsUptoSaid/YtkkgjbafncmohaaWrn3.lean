/-
  WalRuns: a round of its loop, an act of kind 3.
-/
import Derived.Test.YtkkgjbafncmohaaWrM1
import Derived.Test.YtkkgjbafncmohaaWalM1
import Derived.Deep.RegionHeld3
import Derived.Test.YtkkgjbafncmohaaQx10
import Derived.Test.YtkkgjbafncmohaaQx12
set_option linter.unusedVariables false
set_option linter.unusedSimpArgs false
namespace Go.Proofs.Ytkkgjbafncmohaa.Sha
open Go.RowKit Go.Proofs.YtkkgjbafncmohaaW.PrintWords Go.Proofs.YtkkgjbafncmohaaW.PrintLast Go.Proofs.YtkkgjbafncmohaaW.PrintMore Go.Proofs.Ytkkgjbafncmohaa.Q Go.Proofs.Ytkkgjbafncmohaa.Fr Go.Proofs.Ytkkgjbafncmohaa.Oct
open Go.Proofs.Ytkkgjbafncmohaa.Open (Aw kAcw kAcw_open)

set_option maxHeartbeats 8000000 in
set_option maxRecDepth 100000 in
theorem roundW3 (u : Nat → Value) (A : Option Addr) (c : Nat) (L : List Aw) (i : Nat) (hi : i < L.length) (hL : L.length ≤ 100) (w W : World) (hC : Kd.C kAcw w A L.length L) (hlen : szL (L.getD i zAw).recs ≤ 1048576) (hok : (L.getD i zAw).ok) (hk : (L.getD i zAw).kind = 3) (gl g gw : Nat) (bv rv : Value) (d : Dsk) (r : Rdk) (H : Rw w W gl g gw bv rv d r i)
    (Q : Exit → Act → World → Prop) (hQ : ∀ a' W' gl' bv' rv' d' r', Fm 208 a' → sl a' 7 = .pointer (some ⟨g, 0, none⟩) → sl a' 8 = .pointer (some ⟨gw, 0, none⟩) → sl a' 10 = .pointer (some ⟨gl', 0, none⟩) → sl a' 86 = .slice A L.length c → sl a' 87 = .int .i64 (L.length : Int) → sl a' 88 = .int .i64 ((i : Int) + 1) → Rw w W' gl' g gw bv' rv' d' r' (i + 1) → Q .normal a' W') :
    Code.wp Try.prog (bodyN Try.f5 0) Q ⟨#[u 0, u 1, u 2, u 3, u 4, u 5, u 6, .pointer (some ⟨g, 0, none⟩), .pointer (some ⟨gw, 0, none⟩), u 9, .pointer (some ⟨gl, 0, none⟩), u 11, u 12, u 13, u 14, u 15, u 16, u 17, u 18, u 19, u 20, u 21, u 22, u 23, u 24, u 25, u 26, u 27, u 28, u 29, u 30, u 31, u 32, u 33, u 34, u 35, u 36, u 37, u 38, u 39, u 40, u 41, u 42, u 43, u 44, u 45, u 46, u 47, u 48, u 49, u 50, u 51, u 52, u 53, u 54, u 55, u 56, u 57, u 58, u 59, u 60, u 61, u 62, u 63, u 64, u 65, u 66, u 67, u 68, u 69, u 70, u 71, u 72, u 73, u 74, u 75, u 76, u 77, u 78, u 79, u 80, u 81, u 82, u 83, u 84, u 85, .slice A L.length c, .int .i64 (L.length : Int), .int .i64 (i : Int), u 89, u 90, u 91, u 92, u 93, u 94, u 95, u 96, u 97, u 98, u 99, u 100, u 101, u 102, u 103, u 104, u 105, u 106, u 107, u 108, u 109, u 110, u 111, u 112, u 113, u 114, u 115, u 116, u 117, u 118, u 119, u 120, u 121, u 122, u 123, u 124, u 125, u 126, u 127, u 128, u 129, u 130, u 131, u 132, u 133, u 134, u 135, u 136, u 137, u 138, u 139, u 140, u 141, u 142, u 143, u 144, u 145, u 146, u 147, u 148, u 149, u 150, u 151, u 152, u 153, u 154, u 155, u 156, u 157, u 158, u 159, u 160, u 161, u 162, u 163, u 164, u 165, u 166, u 167, u 168, u 169, u 170, u 171, u 172, u 173, u 174, u 175, u 176, u 177, u 178, u 179, u 180, u 181, u 182, u 183, u 184, u 185, u 186, u 187, u 188, u 189, u 190, u 191, u 192, u 193, u 194, u 195, u 196, u 197, u 198, u 199, u 200, u 201, u 202, u 203, u 204, u 205, u 206, u 207], []⟩ W := by
  obtain ⟨ad, A1, c1, rfl, x0, x1, x2, x3, hc1, hr1⟩ := at_acw hC i hi
  have F0 := H.rn.dk.F
  replace x0 := F0.cell x0 (fun h => h)
  replace x1 := F0.cell x1 (fun h => h)
  replace x2 := F0.cell x2 (fun h => h)
  replace x3 := F0.cell x3 (fun h => h)
  rw [hk] at x0
  obtain ⟨x, hx⟩ : ∃ x, L.getD i zAw = x := ⟨_, rfl⟩
  rw [hx] at x1 x2 x3 hc1 hr1 hlen hok
  obtain ⟨m, hm⟩ : ∃ m, L.length = m := ⟨_, rfl⟩
  rw [hm] at hi hL hQ ⊢
  clear hk hx hm hC F0
  obtain ⟨kind, b, ta, tb⟩ := x
  simp only at x1 x2 x3 hc1 hr1 hlen
  have b0 : decide ((i : Int) < (m : Int)) = true := decide_eq_true (by omega)
  have b1 : (0 : Int) ≤ (i : Int) := by omega
  have b2 : (i : Int) < (m : Int) := by omega
  have HH := Aside0.mk (And.intro H (And.intro hr1 (And.intro hlen (And.intro hok hQ))))
  clear H hr1 hlen hok hQ
  have b5 : wrap64 ((i : Int) + 1) = (i : Int) + 1 := by unfold wrap64; omega
  have B5 := Aside0.mk b5
  have BL := Aside0.mk (show i < 100 by omega)
  clear b5 hL
  conv => arg 2; whnf
  go_wp2_with (first | ((with_reducible refine gate_dst (N := 16) rfl ?_); refine wpList_alloc_abs (by rfl) 47 (by rfl) (.agg Z4w) (by kernel_rfl) ?_; intro w2 hb2 hs2 hg2) | ((with_reducible refine gate_store (p := 16) rfl ?_); refine Aside0.out ?_))
  refine ⟨?_⟩
  refine wpList_store_abs (by rfl) 47 _ _ (by rfl) W.heap.size #[.int .i64 3, .slice A1 b.length c1, .int .i64 ta, .int .i64 tb] (by rfl) (by rfl) 47 Z4w hg2 (by kernel_rfl) (by rfl) (by simp [Value.oneCell']) ?_
  intro w3 hf3 hs3 hg3
  have F3 : Fr (fun _ => False) W w3 := (Fr.of_below hb2 (fun _ => False)).trans hf3 (fun k hk => .inr (by omega))
  have H3 : Rw w w3 gl g gw bv rv d r i := HH.out.1.fr F3 (fun k hk => hk.elim)
  have y : w3.cell? ⟨W.heap.size, 0, none⟩ = some (.int .i64 3) ∧ w3.cell? ⟨W.heap.size, 1, none⟩ = some (.slice A1 b.length c1) ∧ w3.cell? ⟨W.heap.size, 2, none⟩ = some (.int .i64 ta) ∧ w3.cell? ⟨W.heap.size, 3, none⟩ = some (.int .i64 tb) := by simp [World.cell?, hg3]
  have zW : W.heap.size < w3.heap.size := blk_lt hg3
  have hnW := HH.out.1.rn.new W.heap.size (Nat.le_refl _)
  have H3 := Aside0.mk (And.intro H3 (And.intro hg3 (And.intro zW (And.intro hnW.2.1 hnW.2.2.1))))
  obtain ⟨y0, y1, y2, y3⟩ := y
  clear hb2 hs2 hg2 hf3 hs3 hg3 x0 x1 x2 x3 zW hnW F3
  go_wp2_with (fail)
  have hrm := HH.out.1.rn.rel.mend0
  have hrmb : r.mend.bytes = r.bytes := rfl
  have hBm : Bys d.mend.bytes := HH.out.1.bys
  have hap := mend_calls g w.heap.size bv d w3 H3.out.1.rn.dk.at'
  obtain ⟨dm, hdm⟩ : ∃ z, d.mend = z := ⟨_, rfl⟩
  obtain ⟨rm, hrmm⟩ : ∃ z, r.mend = z := ⟨_, rfl⟩
  rw [hdm] at hap hBm
  rw [hdm, hrmm] at hrm
  rw [hrmm] at hrmb
  refine hap.mono ?_
  clear hap
  rintro e w4 ⟨rfl, hf4, hD4⟩
  have H4 : Rx w w4 gl g gw bv rv dm r := H3.out.1.act (hf4.mono (S' := Fp g bv) (fun i e => .inl e)) hD4 (fun k hk => .inl hk)
  have hop := hrm.opn
  have hob := Dsk.open_bys hBm
  have hoc := open_calls g w.heap.size bv dm w4 H4.rh.dk.at' H4.rh.dk.F.size hBm (by have := hrm.lo; have := BL.out; omega) hrm.hi
  have hln := H4.rh.dk.at'.ln
  obtain ⟨⟨d2, rs, er⟩, hd2⟩ : ∃ z, dm.open = z := ⟨_, rfl⟩
  obtain ⟨⟨r2, q2⟩, hr2⟩ : ∃ z, rm.open = z := ⟨_, rfl⟩
  rw [hd2] at hop hob hoc
  rw [hr2] at hop
  simp only at hop hob hoc
  obtain ⟨hq2, hrel⟩ := hop
  subst hq2
  have HK := Aside0.mk (And.intro hrm (And.intro hrmb (And.intro hBm (And.intro hrel (And.intro hob.1 (And.intro (hob.2 (by omega)) hln))))))
  have H4 := Aside0.mk H4
  clear H3 y0 y1 y2 y3 hf4 hD4 hrm hrmb hBm hrel hob hln
  go_wp2_with (fail)
  refine hoc.mono ?_
  clear hoc
  rintro e w5 ⟨pv, rv5, A5, c5, rfl, rfl, hc5, hC5, hp0, hp1, hf5, bv5, hD5, hn5, hpf⟩
  have H5 : Rx w w5 gl g gw bv5 rv d2 r := H4.out.act hf5 hD5 hn5
  have z5 := hf5.size
  by_cases h0 : er = 0
  · subst h0
    obtain ⟨gl', rfl, hge, hlog⟩ := hp1 rfl
    have H5' : Rx w w5 gl' g gw bv5 rv d2 r := H5.relog hlog (hpf gl' rfl) (by have := H4.out.rh.dk.F.size; omega) (by have := blk_lt H4.out.rh.want; omega) (fun e => by have := (H4.out.rh.far _ e).1; omega)
    have H6 := Aside0.mk H5'
    have HC5 := Aside0.mk (show CC w5 A5 rs from hC5)
    have q := rset H5'.rh.want
    obtain ⟨q0, q1, q2, q3, q4, q5⟩ := q
    clear H5 H5' hp0 hp1 hf5 hD5 hn5 hpf hC5 z5 H4 hge hlog
    go_wp2_with (fail)
    have hwm := rmend_calls r rv w5 H6.out.rh.lies
    rw [hrmm] at hwm
    refine hwm.mono ?_
    clear hwm q0 q1 q2 q3 q4 q5
    rintro e w6 ⟨rfl, hb6⟩
    go_wp2_with (fail)
    have f6 := Fr.of_below hb6 (fun _ => False)
    have hwo := ropen_calls rm rv w6 (by rw [HK.out.2.1]; exact H6.out.rh.lies.fr f6 (fun _ _ h => h)) (fun k hk => Nat.lt_of_lt_of_le (H6.out.rh.far k hk).1 f6.size) (by rw [HK.out.1.b]; exact HK.out.2.2.1) (by rw [HK.out.1.b]; have := HK.out.2.2.2.2.2.2; omega) (by have := HK.out.1.rlo; omega) HK.out.1.rhi
    rw [hr2] at hwo
    simp only at hwo
    refine hwo.mono ?_
    clear hwo
    rintro e w7 ⟨v7, Aq, cq, rfl, hcq, hCq, hl7, hn7, hb7⟩
    have z56 := f6.size
    have hb57 := f6.trans (Fr.of_below hb7 (fun _ => False)) (fun _ h => h.elim)
    have HW := Aside0.mk (And.intro hl7 (And.intro (show Near w5.heap.size w7 rv v7 from fun k hk => (hn7 k hk).elim .inl (fun h => .inr ⟨by omega, h.2⟩)) (And.intro hb57 (show CC w7 Aq rs from hCq.cc))))
    obtain ⟨A7, c7, rfl, _, _⟩ := hl7
    clear hn7 hb7 hCq hb6 f6 hb57 z56
    go_wp2_with (first | ((with_reducible refine gate_dst (N := 26) rfl ?_); refine wpList_alloc_abs (by rfl) 40 (by rfl) (.agg Z6r) (by kernel_rfl) ?_; intro w8 hb8 hs8 hg8) | ((with_reducible refine gate_store (p := 26) rfl ?_); refine wpList_store_abs (by rfl) 40 _ _ (by rfl) w7.heap.size (rcs (.slice A7 r2.bytes.length c7) r2) (by rfl) (by rfl) 40 Z6r hg8 (by kernel_rfl) (by rfl) (by simp [rcs, Value.oneCell']) ?_; intro w9 hf9 hs9 hg9))
    have f89 := (Fr.of_below hb8 (fun _ => False)).trans hf9 (fun k hk => .inr (by omega))
    have hs := samelist_calls rs rs A5 c5 Aq cq w9 (CC.fr HC5.out (HW.out.2.2.1.trans f89 (fun _ h => h.elim))) hc5 (CC.fr HW.out.2.2.2 f89) hcq HK.out.2.2.2.2.2.1 HK.out.2.2.2.2.2.1
    rw [decide_eq_true rfl] at hs
    refine hs.mono ?_
    clear hs
    rintro e w9' ⟨rfl, hb9'⟩
    have f9' := Fr.of_below hb9' (fun _ => False)
    have hg9' := f9'.blk hg9 (fun h => h)
    have q := rset hg9'
    obtain ⟨q0, q1, q2, q3, q4, q5⟩ := q
    have f79 := f89.trans f9' (fun _ h => h.elim)
    have F59 := HW.out.2.2.1.trans f79 (fun _ h => h.elim)
    have hw9 := F59.blk H6.out.rh.want (fun h => h)
    have HF := Aside0.mk (And.intro f79 F59)
    clear hb8 hs8 hg8 hf9 hs9 hg9 hb9' f9' hg9' f89 f79 F59
    go_wp2_with (first | ((with_reducible refine gate_store (p := 8) rfl ?_); refine Aside0.out ?_))
    refine ⟨?_⟩
    refine wpList_store_abs (by rfl) 40 _ _ (by rfl) gw (rcs (.slice A7 r2.bytes.length c7) r2) (by rfl) (by rfl) 40 (rcs rv r) hw9 (by kernel_rfl) (by rfl) (by simp [rcs, Value.oneCell']) ?_
    intro w10 hf10 hs10 hg10
    have H10 : Rw w w10 gl' g gw bv5 (.slice A7 r2.bytes.length c7) d2 r2 (i + 1) := H6.out.wrote (HF.out.2.below _ (Nat.le_refl _) (fun i h => h.elim)) (HW.out.1.fr HF.out.1 (fun _ _ h => h)) (fun k hk => (HW.out.2.1 k hk).elim .inl (fun h => .inr ⟨h.1, Nat.lt_of_lt_of_le h.2 HF.out.1.size⟩)) hf10 hg10 HK.out.2.2.2.1 HK.out.2.2.2.2.1
    have H10 := Aside0.mk H10
    clear HW H6 q0 q1 q2 q3 q4 q5 hw9 hf10 hs10 hg10 HF HC5
    have hS : ∀ W', Rw w W' gl' g gw bv5 (.slice A7 r2.bytes.length c7) d2 r2 (i + 1) → W'.cell? ⟨gw, 0, none⟩ = some (.slice A7 r2.bytes.length c7) := fun W' h => (rset h.rn.want).1
    have HB : ∀ w2, Below w10.heap.size w10 w2 → Calls Try.prog 29 #[.pointer (some ⟨g, 0, none⟩)] w2 fun e w3 => ∃ (A : Option Addr) (c : Nat), e = .returned (.slice A r2.bytes.length c) ∧ w3.cell? ⟨gw, 0, none⟩ = some (.slice A7 r2.bytes.length c7) ∧ Aside0 (Rw w w3 gl' g gw bv5 (.slice A7 r2.bytes.length c7) d2 r2 (i + 1) ∧ Rd w3 A r2.bytes ∧ r2.bytes.length ≤ c) := by
      intro w2 hb2
      have h2 := H10.out.below hb2
      refine (bytes_calls g w.heap.size bv5 d2 w2 h2.rn.dk.at').mono ?_
      rintro e w3 ⟨v3, rfl, hO, hb⟩
      rw [← h2.rn.rel.b] at hO
      obtain ⟨A, c, rfl, hc⟩ := hO.slice
      have h3 := h2.below hb
      exact ⟨A, c, rfl, hS _ h3, ⟨h3, QB.rd (q_of_own hO), hc⟩⟩
    have HC : ∀ w3 A c, Aside0 (Rw w w3 gl' g gw bv5 (.slice A7 r2.bytes.length c7) d2 r2 (i + 1) ∧ Rd w3 A r2.bytes ∧ r2.bytes.length ≤ c) → Calls Try.prog 28 #[.slice A r2.bytes.length c, .slice A7 r2.bytes.length c7] w3 fun e w4 => e = .returned (.bool true) ∧ w4.cell? ⟨gw, 0, none⟩ = some (.slice A7 r2.bytes.length c7) ∧ Aside0 (Rw w w4 gl' g gw bv5 (.slice A7 r2.bytes.length c7) d2 r2 (i + 1)) := by
      intro w3 A c h3
      obtain ⟨A8, c8, e8, hc8, hr8⟩ := h3.out.1.rn.lies
      injection e8 with e8 _ e9
      subst e8 e9
      refine (same_calls r2.bytes A c A7 c7 w3 h3.out.2.1 h3.out.2.2 hr8 hc8 (by rw [h3.out.1.rn.rel.b]; have := h3.out.1.rn.dk.at'.ln; omega)).mono ?_
      rintro e w4 ⟨rfl, hb⟩
      have h4 := h3.out.1.below hb
      exact ⟨rfl, hS _ h4, ⟨h4⟩⟩
    have hs11 := hS _ H10.out
    have HB := Aside0.mk HB
    have HC := Aside0.mk HC
    clear hS
    go_wp2_with (fail)
    go_region_held3 (fun w' => w'.cell? ⟨gw, 0, none⟩ = some (.slice A7 r2.bytes.length c7)) (first | exact hs11 | exact hs13 | exact hs14)
      (first | (go_at_call 29; refine (HB.out _ (below_drew (Below.refl _ _))).mono ?_; rintro e w13 ⟨A13, c13, rfl, hs13, H13⟩) | (go_at_call 28; refine (HC.out _ _ _ H13).mono ?_; rintro e w14 ⟨rfl, hs14, H14⟩))
    clear HB HC hs11 hs13 hs14 H10 H13
    have b5 := B5.out
    go_wp2
    exact HH.out.2.2.2.2 _ _ _ _ _ _ _ ⟨rfl, rfl⟩ rfl rfl rfl rfl rfl (congrArg (Value.int .i64) B5.out) H14.out
  · obtain rfl := hp0 h0
    have H5' : Rx w w5 gl g gw bv5 rv d2 r := H5
    have c2' : decide (er = 0) = false := decide_eq_false h0
    have c3' : (er == 0) = false := by simpa using h0
    have c4' : ¬ er = 0 := h0
    have c5' : (er != 0) = true := by simpa using h0
    have H6 := Aside0.mk H5'
    have HC5 := Aside0.mk (show CC w5 A5 rs from hC5)
    have q := rset H5'.rh.want
    obtain ⟨q0, q1, q2, q3, q4, q5⟩ := q
    clear H5 H5' hp0 hp1 hf5 hD5 hn5 hpf hC5 z5 H4
    go_wp2_with (fail)
    have hwm := rmend_calls r rv w5 H6.out.rh.lies
    rw [hrmm] at hwm
    refine hwm.mono ?_
    clear hwm q0 q1 q2 q3 q4 q5
    rintro e w6 ⟨rfl, hb6⟩
    go_wp2_with (fail)
    have f6 := Fr.of_below hb6 (fun _ => False)
    have hwo := ropen_calls rm rv w6 (by rw [HK.out.2.1]; exact H6.out.rh.lies.fr f6 (fun _ _ h => h)) (fun k hk => Nat.lt_of_lt_of_le (H6.out.rh.far k hk).1 f6.size) (by rw [HK.out.1.b]; exact HK.out.2.2.1) (by rw [HK.out.1.b]; have := HK.out.2.2.2.2.2.2; omega) (by have := HK.out.1.rlo; omega) HK.out.1.rhi
    rw [hr2] at hwo
    simp only at hwo
    refine hwo.mono ?_
    clear hwo
    rintro e w7 ⟨v7, Aq, cq, rfl, hcq, hCq, hl7, hn7, hb7⟩
    have z56 := f6.size
    have hb57 := f6.trans (Fr.of_below hb7 (fun _ => False)) (fun _ h => h.elim)
    have HW := Aside0.mk (And.intro hl7 (And.intro (show Near w5.heap.size w7 rv v7 from fun k hk => (hn7 k hk).elim .inl (fun h => .inr ⟨by omega, h.2⟩)) (And.intro hb57 (show CC w7 Aq rs from hCq.cc))))
    obtain ⟨A7, c7, rfl, _, _⟩ := hl7
    clear hn7 hb7 hCq hb6 f6 hb57 z56
    go_wp2_with (first | ((with_reducible refine gate_dst (N := 26) rfl ?_); refine wpList_alloc_abs (by rfl) 40 (by rfl) (.agg Z6r) (by kernel_rfl) ?_; intro w8 hb8 hs8 hg8) | ((with_reducible refine gate_store (p := 26) rfl ?_); refine wpList_store_abs (by rfl) 40 _ _ (by rfl) w7.heap.size (rcs (.slice A7 r2.bytes.length c7) r2) (by rfl) (by rfl) 40 Z6r hg8 (by kernel_rfl) (by rfl) (by simp [rcs, Value.oneCell']) ?_; intro w9 hf9 hs9 hg9))
    have f89 := (Fr.of_below hb8 (fun _ => False)).trans hf9 (fun k hk => .inr (by omega))
    have hs := samelist_calls rs rs A5 c5 Aq cq w9 (CC.fr HC5.out (HW.out.2.2.1.trans f89 (fun _ h => h.elim))) hc5 (CC.fr HW.out.2.2.2 f89) hcq HK.out.2.2.2.2.2.1 HK.out.2.2.2.2.2.1
    rw [decide_eq_true rfl] at hs
    refine hs.mono ?_
    clear hs
    rintro e w9' ⟨rfl, hb9'⟩
    have f9' := Fr.of_below hb9' (fun _ => False)
    have hg9' := f9'.blk hg9 (fun h => h)
    have q := rset hg9'
    obtain ⟨q0, q1, q2, q3, q4, q5⟩ := q
    have f79 := f89.trans f9' (fun _ h => h.elim)
    have F59 := HW.out.2.2.1.trans f79 (fun _ h => h.elim)
    have hw9 := F59.blk H6.out.rh.want (fun h => h)
    have HF := Aside0.mk (And.intro f79 F59)
    clear hb8 hs8 hg8 hf9 hs9 hg9 hb9' f9' hg9' f89 f79 F59
    go_wp2_with (first | ((with_reducible refine gate_store (p := 8) rfl ?_); refine Aside0.out ?_))
    refine ⟨?_⟩
    refine wpList_store_abs (by rfl) 40 _ _ (by rfl) gw (rcs (.slice A7 r2.bytes.length c7) r2) (by rfl) (by rfl) 40 (rcs rv r) hw9 (by kernel_rfl) (by rfl) (by simp [rcs, Value.oneCell']) ?_
    intro w10 hf10 hs10 hg10
    have H10 : Rw w w10 gl g gw bv5 (.slice A7 r2.bytes.length c7) d2 r2 (i + 1) := H6.out.wrote (HF.out.2.below _ (Nat.le_refl _) (fun i h => h.elim)) (HW.out.1.fr HF.out.1 (fun _ _ h => h)) (fun k hk => (HW.out.2.1 k hk).elim .inl (fun h => .inr ⟨h.1, Nat.lt_of_lt_of_le h.2 HF.out.1.size⟩)) hf10 hg10 HK.out.2.2.2.1 HK.out.2.2.2.2.1
    have H10 := Aside0.mk H10
    clear HW H6 q0 q1 q2 q3 q4 q5 hw9 hf10 hs10 hg10 HF HC5
    have hS : ∀ W', Rw w W' gl g gw bv5 (.slice A7 r2.bytes.length c7) d2 r2 (i + 1) → W'.cell? ⟨gw, 0, none⟩ = some (.slice A7 r2.bytes.length c7) := fun W' h => (rset h.rn.want).1
    have HB : ∀ w2, Below w10.heap.size w10 w2 → Calls Try.prog 29 #[.pointer (some ⟨g, 0, none⟩)] w2 fun e w3 => ∃ (A : Option Addr) (c : Nat), e = .returned (.slice A r2.bytes.length c) ∧ w3.cell? ⟨gw, 0, none⟩ = some (.slice A7 r2.bytes.length c7) ∧ Aside0 (Rw w w3 gl g gw bv5 (.slice A7 r2.bytes.length c7) d2 r2 (i + 1) ∧ Rd w3 A r2.bytes ∧ r2.bytes.length ≤ c) := by
      intro w2 hb2
      have h2 := H10.out.below hb2
      refine (bytes_calls g w.heap.size bv5 d2 w2 h2.rn.dk.at').mono ?_
      rintro e w3 ⟨v3, rfl, hO, hb⟩
      rw [← h2.rn.rel.b] at hO
      obtain ⟨A, c, rfl, hc⟩ := hO.slice
      have h3 := h2.below hb
      exact ⟨A, c, rfl, hS _ h3, ⟨h3, QB.rd (q_of_own hO), hc⟩⟩
    have HC : ∀ w3 A c, Aside0 (Rw w w3 gl g gw bv5 (.slice A7 r2.bytes.length c7) d2 r2 (i + 1) ∧ Rd w3 A r2.bytes ∧ r2.bytes.length ≤ c) → Calls Try.prog 28 #[.slice A r2.bytes.length c, .slice A7 r2.bytes.length c7] w3 fun e w4 => e = .returned (.bool true) ∧ w4.cell? ⟨gw, 0, none⟩ = some (.slice A7 r2.bytes.length c7) ∧ Aside0 (Rw w w4 gl g gw bv5 (.slice A7 r2.bytes.length c7) d2 r2 (i + 1)) := by
      intro w3 A c h3
      obtain ⟨A8, c8, e8, hc8, hr8⟩ := h3.out.1.rn.lies
      injection e8 with e8 _ e9
      subst e8 e9
      refine (same_calls r2.bytes A c A7 c7 w3 h3.out.2.1 h3.out.2.2 hr8 hc8 (by rw [h3.out.1.rn.rel.b]; have := h3.out.1.rn.dk.at'.ln; omega)).mono ?_
      rintro e w4 ⟨rfl, hb⟩
      have h4 := h3.out.1.below hb
      exact ⟨rfl, hS _ h4, ⟨h4⟩⟩
    have hs11 := hS _ H10.out
    have HB := Aside0.mk HB
    have HC := Aside0.mk HC
    clear hS
    go_wp2_with (fail)
    go_region_held3 (fun w' => w'.cell? ⟨gw, 0, none⟩ = some (.slice A7 r2.bytes.length c7)) (first | exact hs11 | exact hs13 | exact hs14)
      (first | (go_at_call 29; refine (HB.out _ (below_drew (Below.refl _ _))).mono ?_; rintro e w13 ⟨A13, c13, rfl, hs13, H13⟩) | (go_at_call 28; refine (HC.out _ _ _ H13).mono ?_; rintro e w14 ⟨rfl, hs14, H14⟩))
    clear HB HC hs11 hs13 hs14 H10 H13
    have b5 := B5.out
    go_wp2
    exact HH.out.2.2.2.2 _ _ _ _ _ _ _ ⟨rfl, rfl⟩ rfl rfl rfl rfl rfl (congrArg (Value.int .i64) B5.out) H14.out
end Go.Proofs.Ytkkgjbafncmohaa.Sha
