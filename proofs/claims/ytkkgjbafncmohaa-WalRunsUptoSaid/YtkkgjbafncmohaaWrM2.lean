/- Parts of one work, laid together: WrnL, WrnM. -/
import Derived.Test.YtkkgjbafncmohaaWrn0
import Derived.Test.YtkkgjbafncmohaaWrM1
import Derived.Test.YtkkgjbafncmohaaWrn3
import Derived.Test.YtkkgjbafncmohaaWalM1
/-
  WalRuns: its loop.
-/
set_option linter.unusedVariables false
set_option linter.unusedSimpArgs false
namespace Go.Proofs.Ytkkgjbafncmohaa.Sha
open Go.RowKit Go.Proofs.YtkkgjbafncmohaaW.PrintWords Go.Proofs.YtkkgjbafncmohaaW.PrintLast Go.Proofs.YtkkgjbafncmohaaW.PrintMore Go.Proofs.Ytkkgjbafncmohaa.Q Go.Proofs.Ytkkgjbafncmohaa.Fr Go.Proofs.Ytkkgjbafncmohaa.Oct
open Go.Proofs.Ytkkgjbafncmohaa.Open (Aw kAcw kAcw_open)

set_option maxHeartbeats 8000000 in
set_option maxRecDepth 100000 in
theorem exitW (u : Nat → Value) (n : Nat) (w : World) (Q : Exit → Act → World → Prop) (hQ : ∀ a', Fm 208 a' → Q (.exit 0) a' w) :
    Code.wp Try.prog (bodyN Try.f5 0) Q ⟨#[u 0, u 1, u 2, u 3, u 4, u 5, u 6, u 7, u 8, u 9, u 10, u 11, u 12, u 13, u 14, u 15, u 16, u 17, u 18, u 19, u 20, u 21, u 22, u 23, u 24, u 25, u 26, u 27, u 28, u 29, u 30, u 31, u 32, u 33, u 34, u 35, u 36, u 37, u 38, u 39, u 40, u 41, u 42, u 43, u 44, u 45, u 46, u 47, u 48, u 49, u 50, u 51, u 52, u 53, u 54, u 55, u 56, u 57, u 58, u 59, u 60, u 61, u 62, u 63, u 64, u 65, u 66, u 67, u 68, u 69, u 70, u 71, u 72, u 73, u 74, u 75, u 76, u 77, u 78, u 79, u 80, u 81, u 82, u 83, u 84, u 85, u 86, .int .i64 (n : Int), .int .i64 (n : Int), u 89, u 90, u 91, u 92, u 93, u 94, u 95, u 96, u 97, u 98, u 99, u 100, u 101, u 102, u 103, u 104, u 105, u 106, u 107, u 108, u 109, u 110, u 111, u 112, u 113, u 114, u 115, u 116, u 117, u 118, u 119, u 120, u 121, u 122, u 123, u 124, u 125, u 126, u 127, u 128, u 129, u 130, u 131, u 132, u 133, u 134, u 135, u 136, u 137, u 138, u 139, u 140, u 141, u 142, u 143, u 144, u 145, u 146, u 147, u 148, u 149, u 150, u 151, u 152, u 153, u 154, u 155, u 156, u 157, u 158, u 159, u 160, u 161, u 162, u 163, u 164, u 165, u 166, u 167, u 168, u 169, u 170, u 171, u 172, u 173, u 174, u 175, u 176, u 177, u 178, u 179, u 180, u 181, u 182, u 183, u 184, u 185, u 186, u 187, u 188, u 189, u 190, u 191, u 192, u 193, u 194, u 195, u 196, u 197, u 198, u 199, u 200, u 201, u 202, u 203, u 204, u 205, u 206, u 207], []⟩ w := by
  have c0 : decide ((n : Int) < (n : Int)) = false := by simp
  have HQ := Aside0.mk hQ
  clear hQ
  conv => arg 2; whnf
  go_wp2
  exact HQ.out _ ⟨rfl, rfl⟩
theorem loopW (A : Option Addr) (c : Nat) (L : List Aw) (hL : L.length ≤ 100) (w : World) (hC : Kd.C kAcw w A L.length L) (hlen : ∀ i, i < L.length → szL (L.getD i zAw).recs ≤ 1048576) (hok : ∀ i, i < L.length → (L.getD i zAw).ok) (g gw : Nat)
    (Q : Exit → Act → World → Prop) (hQ : ∀ a' W', Fm 208 a' → Fr (fun _ => False) w W' → Q (.exit 0) a' W')
    (a : Act) (W : World) (h : Fm 208 a ∧ sl a 7 = .pointer (some ⟨g, 0, none⟩) ∧ sl a 8 = .pointer (some ⟨gw, 0, none⟩) ∧ (∃ gl, sl a 10 = .pointer (some ⟨gl, 0, none⟩) ∧ ∃ bv rv d r, Rw w W gl g gw bv rv d r 0) ∧ sl a 86 = .slice A L.length c ∧ sl a 87 = .int .i64 (L.length : Int) ∧ sl a 88 = .int .i64 0) : (Code.loop (bodyN Try.f5 0)).wp Try.prog Q a W := by
  refine wp_loop_up L.length (fun t a W => Fm 208 a ∧ sl a 7 = .pointer (some ⟨g, 0, none⟩) ∧ sl a 8 = .pointer (some ⟨gw, 0, none⟩) ∧ (∃ gl, sl a 10 = .pointer (some ⟨gl, 0, none⟩) ∧ ∃ bv rv d r, Rw w W gl g gw bv rv d r t) ∧ sl a 86 = .slice A L.length c ∧ sl a 87 = .int .i64 (L.length : Int) ∧ sl a 88 = .int .i64 (t : Int)) ?_ ?_
  · exact h
  rintro t a W ht ⟨hF, h7, h8, ⟨gl, h10, bv, rv, d, r, hR⟩, h86, h87, h88⟩
  have ha := fm208 hF
  by_cases h64 : t = L.length
  · subst h64
    rw [h87, h88] at ha
    rw [ha]
    exact exitW (sl a) _ W _ fun a' b0 => hQ _ _ b0 hR.rn.dk.F
  · rw [h7, h8, h10, h86, h87, h88] at ha
    rw [ha]
    have hi : t < L.length := by omega
    have hK : ∀ a' W' gl' bv' rv' d' r', Fm 208 a' → sl a' 7 = .pointer (some ⟨g, 0, none⟩) → sl a' 8 = .pointer (some ⟨gw, 0, none⟩) → sl a' 10 = .pointer (some ⟨gl', 0, none⟩) → sl a' 86 = .slice A L.length c → sl a' 87 = .int .i64 (L.length : Int) → sl a' 88 = .int .i64 ((t : Int) + 1) → Rw w W' gl' g gw bv' rv' d' r' (t + 1) → t + 1 ≤ L.length ∧ Fm 208 a' ∧ sl a' 7 = .pointer (some ⟨g, 0, none⟩) ∧ sl a' 8 = .pointer (some ⟨gw, 0, none⟩) ∧ (∃ gl, sl a' 10 = .pointer (some ⟨gl, 0, none⟩) ∧ ∃ bv rv d r, Rw w W' gl g gw bv rv d r (t + 1)) ∧ sl a' 86 = .slice A L.length c ∧ sl a' 87 = .int .i64 (L.length : Int) ∧ sl a' 88 = .int .i64 ((t + 1 : Nat) : Int) := fun a' W' gl' bv' rv' d' r' b0 b7 b8 b10 b86 b87 b88 hR' => ⟨by omega, b0, b7, b8, ⟨gl', b10, bv', rv', d', r', hR'⟩, b86, b87, by rw [b88]; congr 1⟩
    by_cases k0 : (L.getD t zAw).kind = 0
    · by_cases hne : (L.getD t zAw).recs = []
      · exact roundWe (sl a) A c L t hi hL w W hC (hlen t hi) (hok t hi) k0 hne gl g gw bv rv d r hR _ hK
      · exact roundW0 (sl a) A c L t hi hL w W hC (hlen t hi) (hok t hi) k0 hne gl g gw bv rv d r hR _ hK
    by_cases k1 : (L.getD t zAw).kind = 1
    · exact roundW1 (sl a) A c L t hi hL w W hC (hlen t hi) (hok t hi) k1 gl g gw bv rv d r hR _ hK
    by_cases k2 : (L.getD t zAw).kind = 2
    · exact roundW2 (sl a) A c L t hi hL w W hC (hlen t hi) (hok t hi) k2 gl g gw bv rv d r hR _ hK
    by_cases k3 : (L.getD t zAw).kind = 3
    · exact roundW3 (sl a) A c L t hi hL w W hC (hlen t hi) (hok t hi) k3 gl g gw bv rv d r hR _ hK
    by_cases k4 : (L.getD t zAw).kind = 4
    · exact roundW4 (sl a) A c L t hi hL w W hC (hlen t hi) (hok t hi) k4 gl g gw bv rv d r hR _ hK
    exact roundW5 (sl a) A c L t hi hL w W hC (hlen t hi) (hok t hi) ⟨k0, k1, k2, k3, k4⟩ gl g gw bv rv d r hR _ hK
end Go.Proofs.Ytkkgjbafncmohaa.Sha

/-
  WalRuns: whatever is done with a log, all answers and what is on the disk are the document's.
-/
set_option linter.unusedVariables false
set_option linter.unusedSimpArgs false
namespace Go.Proofs.Ytkkgjbafncmohaa.Sha
open Go.RowKit Go.Proofs.YtkkgjbafncmohaaW.PrintWords Go.Proofs.YtkkgjbafncmohaaW.PrintLast Go.Proofs.YtkkgjbafncmohaaW.PrintMore Go.Proofs.Ytkkgjbafncmohaa.Q Go.Proofs.Ytkkgjbafncmohaa.Fr Go.Proofs.Ytkkgjbafncmohaa.Oct
open Go.Proofs.Ytkkgjbafncmohaa.Open (Aw kAcw kAcw_open)

theorem sum_get {l : List Nat} : ∀ (i : Nat) (h : i < l.length), l[i] ≤ l.sum := by
  induction l with
  | nil => intro i h; simp at h
  | cons a l ih =>
    intro i h
    cases i with
    | zero => simp
    | succ i =>
      have := ih i (by simpa using h)
      simp only [List.getElem_cons_succ, List.sum_cons]
      omega
set_option maxHeartbeats 8000000 in
set_option maxRecDepth 100000 in
theorem wruns_calls (a0 : Int) (Af : Option Addr) (cf : Nat) (fi : List Int) (A : Option Addr) (c : Nat) (L : List Aw) (w : World) (hrf : Rd w Af fi) (hcf : fi.length ≤ cf) (hBf : Bys fi) (hlf : fi.length ≤ 1048576) (hC : Kd.C kAcw w A L.length L) (hc : L.length ≤ c) (hlen : ∀ i, i < L.length → szL (L.getD i zAw).recs ≤ 1048576) (hok : ∀ i, i < L.length → (L.getD i zAw).ok) (hl : L.length ≤ 1048576) :
    Calls Try.prog 5 #[.int .i64 a0, .slice Af fi.length cf, .slice A L.length c] w fun e w' => e = .returned (.bool true) ∧ Below w.heap.size w w' := by
  by_cases hL : 100 < L.length
  · have c1 : decide (100 < (L.length : Int)) = true := decide_eq_true (by omega)
    clear hC hlen hok hrf hBf
    go_enter Try.func5, Try.ntmps5
    go_wp2_with (fail)
    refine (walive_calls w).mono ?_
    rintro e w1 ⟨rfl, hb1⟩
    have H1 := Aside0.mk (Fr.of_below hb1 (fun _ => False))
    clear hb1
    go_wp2_with (fail)
    refine (dnew_calls a0 w1).mono ?_
    rintro e w2 ⟨g, rfl, hD2, hb2⟩
    have H2 := Aside0.mk (H1.out.trans (Fr.of_below hb2 (fun _ => False)) (fun _ h => h.elim))
    clear H1 hD2 hb2
    go_wp2
    go_ret
    exact ⟨rfl, H2.out.below _ (Nat.le_refl _) (fun i h => h.elim)⟩
  have c1 : decide (100 < (L.length : Int)) = false := decide_eq_false (by omega)
  have HH := Aside0.mk (And.intro hC (And.intro hlen (And.intro hok hL)))
  have HI := Aside0.mk (And.intro hrf (And.intro hBf hlf))
  clear hC hlen hok hrf hBf hlf
  go_enter Try.func5, Try.ntmps5
  go_wp2_with (fail)
  refine (walive_calls w).mono ?_
  rintro e w1 ⟨rfl, hb1⟩
  have H1 := Aside0.mk (Fr.of_below hb1 (fun _ => False))
  clear hb1
  go_wp2_with (fail)
  refine (dnew_calls a0 w1).mono ?_
  rintro e w2 ⟨g, rfl, hD2, hb2⟩
  have H2 := Aside0.mk (Dk.new H1.out hD2 hb2)
  clear H1 hD2 hb2
  go_wp2_with (first | ((with_reducible refine gate_dst (N := 43) rfl ?_); refine wpList_copyb rfl (by rfl) (fun _ => by rfl) (fun _ _ => by rfl) (by first | (go_simp; done) | (go_simp; rfl)) _ (by rfl) Af fi.length cf fi (fun _ => rfl) rfl (HI.out.1.fr H2.out.F (fun _ _ h => h)) _ _ (by rfl) (fun _ _ => rfl) (fun _ _ => rfl) (by have := HI.out; omega) ?_; intro u3 v3 w3 hO3 hb3))
  obtain ⟨A3, c3, rfl, hc3⟩ := hO3.slice
  have h3 := H2.out.below hb3
  have hrel := (Rel.new a0).app fi
  have hB1 : Bys ((dsk0 a0).app fi).2.bytes := Dsk.app_bys (show Bys [] from Bys.nil) HI.out.2.1
  have hap := app_calls g w.heap.size _ _ A3 c3 fi w3 h3.at' h3.F.size (QB.rd (q_of_own hO3)) hc3 (by have := HI.out; omega) (hO3.far H2.out.ne) (by show -4611686018427387904 ≤ (0 : Int); decide) (by show (0 : Int) ≤ 9223372036854775807; decide)
  obtain ⟨⟨e1, d1⟩, hd1⟩ : ∃ z, (dsk0 a0).app fi = z := ⟨_, rfl⟩
  rw [hd1] at hrel hap hB1
  simp only at hrel hap hB1
  refine hap.mono ?_
  rintro e w4 ⟨rfl, hf4, bv4, hD4, hn4⟩
  have H4 := Aside0.mk (h3.call hf4 hD4)
  clear H2 hO3 hb3 h3 hap hf4 hD4 hn4 hc3 hd1
  go_wp2_with (fail)
  have hn := rnew_calls a0 w4
  have hwr : ∀ w5, Fr (fun _ => False) w4 w5 → _ := fun w5 hf5 => rwrite_app (rdk0 a0) (.slice none 0 0) Af cf fi w5 ⟨none, 0, rfl, Nat.le_refl _, Rd.nil _ _⟩ (HI.out.1.fr (H4.out.F.trans hf5 (fun _ h => h.elim)) (fun _ _ h => h)) hcf (by show 0 + _ ≤ _; have := HI.out; omega) (by show -4611686018427387904 ≤ (0 : Int); decide) (by show (0 : Int) ≤ 9223372036854775807; decide)
  obtain ⟨r0, hr0⟩ : ∃ r, rdk0 a0 = r := ⟨_, rfl⟩
  rw [hr0] at hn hrel hwr
  refine hn.mono ?_
  clear hn
  rintro e w5 ⟨rfl, hb5⟩
  go_wp2_with (fail)
  have hwr := hwr w5 (Fr.of_below hb5 (fun _ => False))
  obtain ⟨⟨r1, e2⟩, hr1⟩ : ∃ z, r0.write fi false = z := ⟨_, rfl⟩
  rw [hr1] at hrel hwr
  simp only at hrel hwr
  obtain ⟨rfl, hrel⟩ := hrel
  refine hwr.mono ?_
  clear hwr hr1 hr0
  rintro e w7 ⟨v7, rfl, hl7, hn7, hb7⟩
  have f57 := (Fr.of_below hb5 (fun _ => False)).trans (Fr.of_below hb7 (fun _ => False)) (fun _ h => h.elim)
  have zz := hb5.size
  have HW := Aside0.mk (And.intro hl7 (And.intro (show ∀ k, v7.ownBlock = some k → w4.heap.size ≤ k ∧ k < w7.heap.size from fun k hk => (hn7 k hk).elim (fun h => by cases h) (fun h => ⟨by omega, h.2⟩)) f57))
  obtain ⟨A7, c7, rfl, _, _⟩ := hl7
  clear hb5 hn7 hb7 f57 zz
  go_wp2_with (first | ((with_reducible refine gate_dst (N := 8) rfl ?_); refine wpList_alloc_abs (by rfl) 40 (by rfl) (.agg Z6r) (by kernel_rfl) ?_; intro w8 hb8 hs8 hg8) | ((with_reducible refine gate_store (p := 8) rfl ?_); refine wpList_store_abs (by rfl) 40 _ _ (by rfl) w7.heap.size (rcs (.slice A7 r1.bytes.length c7) r1) (by rfl) (by rfl) 40 Z6r hg8 (by kernel_rfl) (by rfl) (by simp [rcs, Value.oneCell']) ?_; intro w9 hf9 hs9 hg9))
  have f89 := (Fr.of_below hb8 (fun _ => False)).trans hf9 (fun k hk => .inr (by omega))
  have f49 := HW.out.2.2.trans f89 (fun _ h => h.elim)
  have h9 := H4.out.fr f49 (fun k h => h.elim)
  have z79 := f89.size
  have z47 := HW.out.2.2.size
  have hltw : w7.heap.size < w9.heap.size := blk_lt hg9
  have hapt : ∀ k, w4.heap.size ≤ k → ¬ Fp g bv4 k := fun k hk => (H4.out.apart k hk).2
  obtain ⟨gw, hgw⟩ : ∃ g, w7.heap.size = g := ⟨_, rfl⟩
  rw [hgw] at hg9 z47 hltw
  have H9 : Rh w w9 g gw bv4 (.slice A7 r1.bytes.length c7) d1 r1 := ⟨h9, hg9, HW.out.1.fr f89 (fun _ _ h => h), by have := H4.out.F.size; omega, hapt _ z47, fun k hk => ⟨by have := (HW.out.2.1 k hk).2; omega, by have := (HW.out.2.1 k hk).2; omega, hapt k (HW.out.2.1 k hk).1⟩⟩
  have q := rset hg9
  obtain ⟨q0, q1, q2, q3, q4, q5⟩ := q
  have H9 := Aside0.mk H9
  have HR := Aside0.mk (And.intro hrel hB1)
  clear H4 HW hb8 hs8 hg8 hf9 hs9 hg9 f89 f49 h9 z79 z47 hltw hapt hrel hB1
  rw [hgw]
  clear hgw
  go_wp2_with (fail)
  have hop := HR.out.1.opn
  have hob := Dsk.open_bys HR.out.2
  have hoc := openS_calls g w.heap.size bv4 d1 w9 H9.out.dk.at' H9.out.dk.F.size HR.out.2 (by have := HR.out.1.lo; omega) HR.out.1.hi
  have hln := H9.out.dk.at'.ln
  obtain ⟨⟨d2, rs, er⟩, hd2⟩ : ∃ z, d1.open = z := ⟨_, rfl⟩
  obtain ⟨⟨r2, q2'⟩, hr2⟩ : ∃ z, r1.open = z := ⟨_, rfl⟩
  rw [hd2] at hop hob hoc
  rw [hr2] at hop
  simp only at hop hob hoc
  obtain ⟨hq2, hrel⟩ := hop
  subst hq2
  have HK := Aside0.mk (And.intro hrel (And.intro hob.1 (And.intro (hob.2 (by omega)) hln)))
  clear hrel hob hln
  refine hoc.mono ?_
  clear hoc
  rintro e w10 ⟨pv, rv5, A5, c5, rfl, rfl, hc5, hC5, hp0, hp1, hf10, bv10, hD10, hn10, hpf⟩
  have H10 : Rh w w10 g gw bv10 (.slice A7 r1.bytes.length c7) d2 r1 := ⟨H9.out.dk.call hf10 hD10, hf10.blk H9.out.want H9.out.ngw, H9.out.lies.fr hf10 (fun k hk => (H9.out.far k hk).2.2), H9.out.ge, fun e => (hn10 gw e).elim H9.out.ngw (fun e => by have := blk_lt H9.out.want; omega), fun k hk => ⟨Nat.lt_of_lt_of_le (H9.out.far k hk).1 hf10.size, (H9.out.far k hk).2.1, fun e => (hn10 k e).elim (H9.out.far k hk).2.2 (fun e => by have := (H9.out.far k hk).1; omega)⟩⟩
  have hz9 := blk_lt H9.out.want
  have hz10 := hf10.size
  have HO := Aside0.mk (And.intro H10 (And.intro hC5 (And.intro hp0 (And.intro hp1 (And.intro hpf (And.intro hz9 hz10))))))
  have q := rset H10.want
  clear q0 q1 q2 q3 q4 q5 hf10 hD10 hn10 hp0 hp1 hpf hC5 H10 hz9 hz10
  obtain ⟨q0, q1, q2, q3, q4, q5⟩ := q
  go_wp2_with (fail)
  have hwo := ropen_calls r1 (.slice A7 r1.bytes.length c7) w10 HO.out.1.lies (fun k hk => (HO.out.1.far k hk).1) (by rw [HR.out.1.b]; exact HR.out.2) (by rw [HR.out.1.b]; have := HK.out.2.2.2; omega) (by have := HR.out.1.rlo; omega) HR.out.1.rhi
  rw [hr2] at hwo
  simp only at hwo
  refine hwo.mono ?_
  clear hwo q0 q1 q2 q3 q4 q5
  rintro e w11 ⟨v11, Aq, cq, rfl, hcq, hCq, hl11, hn11, hb11⟩
  have HW := Aside0.mk (And.intro hl11 (And.intro hn11 (And.intro hb11 hCq)))
  obtain ⟨A8, c8, rfl, _, _⟩ := hl11
  have hw11 := (Fr.of_below hb11 (fun _ => False)).blk HO.out.1.want (fun h => h)
  clear hn11 hb11 hCq
  go_wp2_with (first | ((with_reducible refine gate_store (p := 8) rfl ?_); refine Aside0.out ?_))
  refine ⟨?_⟩
  refine wpList_store_abs (by rfl) 40 _ _ (by rfl) gw (rcs (.slice A8 r2.bytes.length c8) r2) (by rfl) (by rfl) 40 (rcs (.slice A7 r1.bytes.length c7) r1) hw11 (by kernel_rfl) (by rfl) (by simp [rcs, Value.oneCell']) ?_
  intro w12 hf12 hs12 hg12
  have f1011 := Fr.of_below HW.out.2.2.1 (fun _ => False)
  have hR12 : Rn w w12 g gw bv10 (.slice A8 r2.bytes.length c8) d2 r2 0 := HO.out.1.wrote HW.out.2.2.1 HW.out.1 HW.out.2.1 hf12 hg12 HK.out.1
  have hs := samelist_calls rs rs A5 c5 Aq cq w12 ((HO.out.2.1.fr f1011 (fun _ h => h.elim)).fr hf12 (fun k hk => .inl (by rw [hk]; exact HO.out.2.2.2.2.2.1))).cc hc5 (HW.out.2.2.2.fr hf12 (fun k hk => .inl (by rw [hk]; exact blk_lt HO.out.1.want))).cc hcq HK.out.2.2.1 HK.out.2.2.1
  rw [decide_eq_true rfl] at hs
  have hnr : ∀ k, (Value.slice A8 r2.bytes.length c8).ownBlock = some k → (Value.slice A7 r1.bytes.length c7).ownBlock = some k ∨ w10.heap.size ≤ k := fun k hk => (HW.out.2.1 k hk).elim .inl (fun h => .inr h.1)
  have z11 := f1011.size
  have z12 := hf12.size
  have hlog : ∀ gl, LogAt w10 gl g → gl ≠ gw → LogAt w12 gl g := fun gl h hne => (h.fr f1011 (fun h => h)).fr hf12 hne
  have HZ := Aside0.mk (And.intro hR12 (And.intro hnr hlog))
  clear hf12 hs12 hg12 hw11 f1011 HW hR12 hnr hlog z11 z12
  go_wp2_with (fail)
  refine hs.mono ?_
  clear hs
  rintro e w13 ⟨rfl, hb13⟩
  have HB13 := Aside0.mk hb13
  clear hb13
  by_cases h0 : er = 0
  · subst h0
    obtain ⟨gl, rfl, hge, hlg⟩ := HO.out.2.2.2.1 rfl
    have hne : gl ≠ gw := by have := HO.out.2.2.2.2.2.1; omega
    have H12 : Rw w w12 gl g gw bv10 (.slice A8 r2.bytes.length c8) d2 r2 0 := ⟨HZ.out.1, HZ.out.2.2 gl hlg hne, HO.out.2.2.2.2.1 gl rfl, by have := HZ.out.1.ge; have := HO.out.2.2.2.2.2.1; omega, hne, fun e => (HZ.out.2.1 gl e).elim (fun h => by have := (H9.out.far gl h).1; omega) (fun h => by have := blk_lt hlg; omega), HK.out.2.1⟩
    have H13 := Aside0.mk (H12.below HB13.out)
    clear H12 hge hlg hne HZ HB13 HO HR HK H9
    go_wp2_with (fail)
    refine loopW A c L (by have := HH.out.2.2.2; omega) w HH.out.1 HH.out.2.1 HH.out.2.2.1 g gw _ ?_ _ _ ⟨⟨rfl, rfl⟩, rfl, rfl, ⟨gl, rfl, _, _, _, _, H13.out⟩, rfl, rfl, rfl⟩
    intro a' W' hFm hF
    rw [fm208 hFm]
    have HF := Aside0.mk hF
    clear hF H13
    go_wp2
    go_ret
    exact ⟨rfl, HF.out.below _ (Nat.le_refl _) (fun i h => h.elim)⟩
  · obtain rfl := HO.out.2.2.1 h0
    have c2' : decide (er = 0) = false := decide_eq_false h0
    have c3' : (er == 0) = false := by simpa using h0
    have c4' : ¬ er = 0 := h0
    have c5' : (er != 0) = true := by simpa using h0
    go_wp2
    go_ret
    exact ⟨by simp [h0], ((HZ.out.1.below HB13.out).dk.F).below _ (Nat.le_refl _) (fun i h => h.elim)⟩
theorem wruns_row (a0 : Int) (A1 : Option Addr) (c1 : Nat) (l1 : List Int) (A2 : Option Addr) (c2 : Nat) (l2 : List Aw) (w : World) (hC1 : Kd.C (Kd.int .u8) w A1 l1.length l1) (hl1 : l1.length ≤ c1) (hC : Kd.C kAcw w A2 l2.length l2) (hc : l2.length ≤ c2) (_ : (Lit.int .i64 a0).wf = true) (hB : Bys l1) (hok : ∀ x ∈ l2, x.ok) (hb : l1.length + 1 + ((l2.map fun x => (x.recs.map fun y => y.length + 1).sum + 5).sum + 1) ≤ 1048576) :
    Calls Try.prog 5 #[.int .i64 a0, .slice A1 l1.length c1, .slice A2 l2.length c2] w fun e w' => e = .returned (.bool true) ∧ Below w.heap.size w w' := by
  have hs : ∀ i, i < l2.length → szL (l2.getD i zAw).recs ≤ 1048576 := fun i hi => by
    have h1 := sum_get (l := l2.map fun x => (x.recs.map fun y => y.length + 1).sum + 5) i (by simpa using hi)
    rw [List.getElem_map] at h1
    rw [List.getD_eq_getElem?_getD, List.getElem?_eq_getElem hi, Option.getD_some]
    unfold szL
    omega
  have hn : l2.length ≤ (l2.map fun x => (x.recs.map fun y => y.length + 1).sum + 5).sum := by
    clear hb hok hC hc hs
    induction l2 with
    | nil => simp
    | cons x l ih => simp only [List.map_cons, List.sum_cons, List.length_cons]; omega
  exact wruns_calls a0 A1 c1 l1 A2 c2 l2 w (Rd.of_C hC1) hl1 hB (by omega) hC hc hs (fun i hi => by
    rw [List.getD_eq_getElem?_getD, List.getElem?_eq_getElem hi, Option.getD_some]
    exact hok _ (List.getElem_mem hi)) (by omega)
end Go.Proofs.Ytkkgjbafncmohaa.Sha
