/- Parts of one work, laid together: ShaG, ShaH, ShaI, ShaJ. -/
import Derived.Test.YtnabilhcmplhcaaShaM1
import Derived.Test.YtnabilhcmplhcaaBys
import Derived.Great.Ranges
/-
  The document's schedule: the same words.
-/
set_option linter.unusedVariables false
set_option linter.unusedSimpArgs false
namespace Go.Proofs.Ytnabilhcmplhcaa.Sha
open Go.RowKit Go.Proofs.YtnabilhcmplhcaaW.PrintWords Go.Proofs.YtnabilhcmplhcaaW.PrintLast Go.Proofs.YtnabilhcmplhcaaW.PrintMore Go.Proofs.Ytnabilhcmplhcaa.Q Go.Proofs.Ytnabilhcmplhcaa.Fr Go.Proofs.Ytnabilhcmplhcaa.Oct

theorem wraps_u32 (n : Int) (h₀ : 0 ≤ n) (h₁ : n < 2 ^ 32) : IntKind.u32.wrap n = n := by rw [IntKind.wrap_u32]; omega
theorem word4_sum (a b c d : Int) (ha : 0 ≤ a ∧ a ≤ 255) (hb : 0 ≤ b ∧ b ≤ 255) (hc : 0 ≤ c ∧ c ≤ 255) (hd : 0 ≤ d ∧ d ≤ 255) : word4 a b c d = a * 16777216 + b * 65536 + c * 256 + d := by
  unfold word4
  rw [show a % 4294967296 * 16777216 % 4294967296 = a * 16777216 by omega, show b % 4294967296 * 65536 % 4294967296 = b * 65536 by omega, show c % 4294967296 * 256 % 4294967296 = c * 256 by omega, show d % 4294967296 = d by omega]
  rw [bits_join .u32 32 (by decide) wraps_u32 24 (a * 16777216) (b * 65536) (by omega) (by omega) (by omega) (by omega) (by omega) (by omega)]
  rw [bits_join .u32 32 (by decide) wraps_u32 16 (a * 16777216 + b * 65536) (c * 256) (by omega) (by omega) (by omega) (by omega) (by omega) (by omega)]
  rw [bits_join .u32 32 (by decide) wraps_u32 8 (a * 16777216 + b * 65536 + c * 256) d (by omega) (by omega) (by omega) (by omega) (by omega) (by omega)]
theorem word_f (l : List Int) (h4 : 4 ≤ l.length) (hB : Bys l) : catenaryref02_word.f 5 l = some (word4 (l.getD 0 0) (l.getD 1 0) (l.getD 2 0) (l.getD 3 0)) := by
  have hb : ∀ i, i < l.length → 0 ≤ l.getD i 0 ∧ l.getD i 0 ≤ 255 := fun i hi => by
    rw [List.getD_eq_getElem?_getD, List.getElem?_eq_getElem hi]
    exact hB _ (List.getElem_mem hi)
  have b0 := hb 0 (by omega)
  have b1 := hb 1 (by omega)
  have b2 := hb 2 (by omega)
  have b3 := hb 3 (by omega)
  have l0 : (0 : Int) < (l.length : Int) := by omega
  have l1 : (1 : Int) < (l.length : Int) := by omega
  have l2 : (2 : Int) < (l.length : Int) := by omega
  have l3 : (3 : Int) < (l.length : Int) := by omega
  rw [word4_sum _ _ _ _ b0 b1 b2 b3]
  have w1 : wrap64 (0 + 1) = 1 := by decide +kernel
  have w2 : wrap64 (1 + 1) = 2 := by decide +kernel
  have w3 : wrap64 (2 + 1) = 3 := by decide +kernel
  have w4 : wrap64 (3 + 1) = 4 := by decide +kernel
  unfold catenaryref02_word.f
  simp only [catenaryref02_word.l0, if_pos l0, if_pos l1, if_pos l2, if_pos l3, w1, w2, w3, w4, rd, show (0 : Int).toNat = 0 from rfl, show (1 : Int).toNat = 1 from rfl, show (2 : Int).toNat = 2 from rfl, show (3 : Int).toNat = 3 from rfl,
    if_pos (show (0 : Int) < 4 by decide), if_pos (show (1 : Int) < 4 by decide), if_pos (show (2 : Int) < 4 by decide), if_pos (show (3 : Int) < 4 by decide), if_neg (show ¬ (4 : Int) < 4 by decide),
    if_pos (show (0 : Int) ≤ 0 by decide), if_pos (show (0 : Int) ≤ 1 by decide), if_pos (show (0 : Int) ≤ 2 by decide), if_pos (show (0 : Int) ≤ 3 by decide)]
  generalize l.getD 0 0 = a at *
  generalize l.getD 1 0 = b at *
  generalize l.getD 2 0 = c at *
  generalize l.getD 3 0 = d at *
  congr 1
  omega

set_option maxHeartbeats 8000000 in
set_option maxRecDepth 100000 in
/-- The document's table. -/
theorem K_calls (w : World) : Calls Try.prog 69 #[] w fun e w' => e = .returned (.agg KT) ∧ Below w.heap.size w w' := by
  go_enter Try.func69, Try.ntmps69
  go_wp2_with (first | ((with_reducible refine gate_dst (N := 0) rfl ?_); refine wpList_alloc_abs (by rfl) 121 (by rfl) (.agg ZT) (by kernel_rfl) ?_; intro w1 hb1 hs1 hg1) | ((with_reducible refine gate_dst (N := 1) rfl ?_); refine wpList_build_abs (by rfl) 121 _ (by rfl) KT (by kernel_rfl) ?_) | ((with_reducible refine gate_store (p := 0) rfl ?_); refine wpList_store_abs (by rfl) 121 _ _ (by rfl) w.heap.size KT (by rfl) (by rfl) 121 ZT hg1 (by kernel_rfl) (by rw [ZT_size, KT_size]) KT_one ?_; intro w2 hf2 hs2 hg2))
  refine bodyPost_ret (results_cell_row (by rfl) _ _ w.heap.size 121 KT (0, 0) _ (by rfl) hg2 Try.underlying121 (by rfl) (by rw [KT_size]; kernel_rfl)) rfl ?_
  exact ⟨rfl, (Fr.of_below hb1 (fun _ => False)).trans hf2 (fun i h => .inr (by omega)) |>.below _ (Nat.le_refl _) (fun i h => h.elim)⟩

/-! ### schedule -/
def JA (A : Option Addr) (c gr gw : Nat) (P : List Int) (w0 : World) (t : Nat) (a : Act) (w : World) : Prop :=
  Fm 74 a ∧ sl a 0 = .slice A 64 c ∧ sl a 2 = .pointer (some ⟨gr, 0, none⟩) ∧ sl a 3 = .pointer (some ⟨gw, 0, none⟩) ∧ sl a 4 = .int .i64 (t : Int) ∧
    Fr (fun k => k = gw) w0 w ∧ w.heap[gw]? = some (.cells (encs (Value.int .u32) (sched P t)).toArray 121 (0, 0))
set_option maxHeartbeats 8000000 in
set_option maxRecDepth 100000 in
theorem roundA (u : Nat → Value) (A : Option Addr) (c gr gw : Nat) (P : List Int) (hP : P.length = 64) (hB : Bys P) (hc : 64 ≤ c) (t : Nat) (ht : t < 16) (w0 w : World) (W : List Int) (hW : W.length = 64) (hw : w.heap[gw]? = some (.cells (encs (Value.int .u32) W).toArray 121 (0, 0)))
    (hr : Kd.C (Kd.int .u8) w A P.length P) (hf : Fr (fun k => k = gw) w0 w)
    (Q : Exit → Act → World → Prop) (hQ : ∀ a' w', Fm 74 a' → sl a' 0 = .slice A 64 c → sl a' 2 = .pointer (some ⟨gr, 0, none⟩) → sl a' 3 = .pointer (some ⟨gw, 0, none⟩) → sl a' 4 = .int .i64 ((t : Int) + 1) → Fr (fun k => k = gw) w0 w' → w'.heap[gw]? = some (.cells (encs (Value.int .u32) (W.set t (wrd P t))).toArray 121 (0, 0)) → Q .normal a' w') :
    Code.wp Try.prog (bodyN Try.f68 0) Q ⟨#[.slice A 64 c, u 1, .pointer (some ⟨gr, 0, none⟩), .pointer (some ⟨gw, 0, none⟩), .int .i64 (t : Int), u 5, u 6, u 7, u 8, u 9, u 10, u 11, u 12, u 13, u 14, u 15, u 16, u 17, u 18, u 19, u 20, u 21, u 22, u 23, u 24, u 25, u 26, u 27, u 28, u 29, u 30, u 31, u 32, u 33, u 34, u 35, u 36, u 37, u 38, u 39, u 40, u 41, u 42, u 43, u 44, u 45, u 46, u 47, u 48, u 49, u 50, u 51, u 52, u 53, u 54, u 55, u 56, u 57, u 58, u 59, u 60, u 61, u 62, u 63, u 64, u 65, u 66, u 67, u 68, u 69, u 70, u 71, u 72, u 73], []⟩ w := by
  have hd := Kd.C_drop (m := 4 * t) (c := c) hr (by omega) (by omega)
  have hl : (P.drop (4 * t)).length = 64 - 4 * t := by rw [List.length_drop, hP]
  have hv := word_f (P.drop (4 * t)) (by omega) (hB.drop _)
  have hg : word4 ((P.drop (4 * t)).getD 0 0) ((P.drop (4 * t)).getD 1 0) ((P.drop (4 * t)).getD 2 0) ((P.drop (4 * t)).getD 3 0) = wrd P t := by
    unfold wrd
    simp only [List.getD_eq_getElem?_getD, List.getElem?_drop]
    rw [show (4 * (t : Int)).toNat = 4 * t + 0 by omega, show (4 * (t : Int) + 1).toNat = 4 * t + 1 by omega, show (4 * (t : Int) + 2).toNat = 4 * t + 2 by omega, show (4 * (t : Int) + 3).toNat = 4 * t + 3 by omega]
  rw [hg] at hv
  rw [if_neg (by omega), show 4 * t * (Kd.int .u8).sz = 4 * t from Nat.mul_one _] at hd
  have hcall := catenaryref02_word.calls 5 (A.map (·.add (4 * t))) (c - 4 * t) (P.drop (4 * t)) _ w hd (by omega) hv
  rw [hl] at hcall
  obtain ⟨i0, hi0, _, hsz, _⟩ := info_parts info5
  have hcut := cut_from (P := Try.prog) 29 5 .i64 Try.underlying29 hi0 1 hsz A 64 c (4 * (t : Int)) (by omega) (by omega)
  rw [show (4 * (t : Int)).toNat = 4 * t by omega, if_neg (by omega), Nat.mul_one] at hcut
  have HC := Aside0.mk hcall
  have HW := Aside0.mk hw
  have HF := Aside0.mk hf
  clear hcall hw hf hd hv hg hr
  conv => arg 2; whnf
  have c0 : decide ((t : Int) < 16) = true := decide_eq_true (by omega)
  have e1 : IntKind.i64.wrap (4 * (t : Int)) = 4 * (t : Int) := IntWalk.i64_in _ (by omega)
  go_wp2_with (fail)
  refine HC.out.mono ?_
  rintro e w' ⟨rfl, nd, rfl⟩
  have hw2 : (w.drewN nd).heap[gw]? = some (.cells (encs (Value.int .u32) W).toArray 121 (0, 0)) := by simpa using HW.out
  have hf2 : Fr (fun k => k = gw) w0 (w.drewN nd) := HF.out.of_drewN nd
  clear HW HF HC hcut
  generalize w.drewN nd = w3 at *
  have kt := cellV hw2 (t : Int) (by omega) (by omega)
  have ft := frozenV hw2 t
  rw [Int.toNat_natCast] at kt
  have HW := Aside0.mk hw2
  have HF := Aside0.mk hf2
  clear hw2 hf2
  have tl : (t : Int) < 64 := by omega
  go_wp2
  refine hQ _ _ ⟨rfl, rfl⟩ rfl rfl rfl ?_ ?_ ?_
  · rfl
  · exact HF.out.setCell (.inl rfl) _
  · have := heap_putV HW.out (t : Int).toNat (by omega) (wrd P t)
    simpa using this
set_option maxHeartbeats 8000000 in
set_option maxRecDepth 100000 in
theorem exitA (u : Nat → Value) (w : World) (Q : Exit → Act → World → Prop) (hQ : ∀ a', Fm 74 a' → sl a' 0 = u 0 → sl a' 2 = u 2 → sl a' 3 = u 3 → Q (.exit 0) a' w) :
    Code.wp Try.prog (bodyN Try.f68 0) Q ⟨#[u 0, u 1, u 2, u 3, .int .i64 16, u 5, u 6, u 7, u 8, u 9, u 10, u 11, u 12, u 13, u 14, u 15, u 16, u 17, u 18, u 19, u 20, u 21, u 22, u 23, u 24, u 25, u 26, u 27, u 28, u 29, u 30, u 31, u 32, u 33, u 34, u 35, u 36, u 37, u 38, u 39, u 40, u 41, u 42, u 43, u 44, u 45, u 46, u 47, u 48, u 49, u 50, u 51, u 52, u 53, u 54, u 55, u 56, u 57, u 58, u 59, u 60, u 61, u 62, u 63, u 64, u 65, u 66, u 67, u 68, u 69, u 70, u 71, u 72, u 73], []⟩ w := by
  conv => arg 2; whnf
  go_wp2
  exact hQ _ ⟨rfl, rfl⟩ rfl rfl rfl
theorem loopA (A : Option Addr) (c gr gw : Nat) (P : List Int) (hP : P.length = 64) (hB : Bys P) (hc : 64 ≤ c) (w0 : World) (hr : ∀ w, Fr (fun k => k = gw) w0 w → Kd.C (Kd.int .u8) w A P.length P)
    (Q : Exit → Act → World → Prop) (hQ : ∀ a' w', Fm 74 a' → sl a' 2 = .pointer (some ⟨gr, 0, none⟩) → sl a' 3 = .pointer (some ⟨gw, 0, none⟩) → Fr (fun k => k = gw) w0 w' → w'.heap[gw]? = some (.cells (encs (Value.int .u32) (sched P 16)).toArray 121 (0, 0)) → Q (.exit 0) a' w')
    (a : Act) (w : World) (h : JA A c gr gw P w0 0 a w) : (Code.loop (bodyN Try.f68 0)).wp Try.prog Q a w := by
  refine wp_loop_up 16 (JA A c gr gw P w0) h ?_
  rintro t a w ht ⟨hF, h0, h2, h3, h4, hf, hw⟩
  have ha := fm74 hF
  by_cases h64 : t = 16
  · subst h64
    rw [h4] at ha
    rw [ha]
    exact exitA (sl a) w _ fun a' b0 b1 b2 b3 => hQ _ _ b0 (b2.trans h2) (b3.trans h3) hf hw
  · have e1 : ((t + 1 : Nat) : Int) = (t : Int) + 1 := by omega
    rw [h0, h2, h3, h4] at ha
    rw [ha]
    refine roundA (sl a) A c gr gw P hP hB hc t (by omega) w0 w _ (sched_len P t) hw (hr w hf) hf _ ?_
    intro a' w' b0 b1 b2 b3 b4 b5 b6
    refine ⟨by omega, b0, b1, b2, b3, by rw [b4, e1], b5, ?_⟩
    rw [b6, sched, if_pos (by omega)]

/-- The second loop: the words from the sixteenth on. -/
def JB (gr gw : Nat) (P : List Int) (w0 : World) (t : Nat) (a : Act) (w : World) : Prop :=
  Fm 74 a ∧ sl a 2 = .pointer (some ⟨gr, 0, none⟩) ∧ sl a 3 = .pointer (some ⟨gw, 0, none⟩) ∧ sl a 5 = .int .i64 ((t + 16 : Nat) : Int) ∧
    Fr (fun k => k = gw) w0 w ∧ w.heap[gw]? = some (.cells (encs (Value.int .u32) (sched P (t + 16))).toArray 121 (0, 0))
set_option maxHeartbeats 8000000 in
set_option maxRecDepth 100000 in
theorem roundB (u : Nat → Value) (gr gw : Nat) (t : Int) (h16 : 16 ≤ t) (ht : t < 64) (w0 w : World) (W : List Int) (hW : W.length = 64) (hw : w.heap[gw]? = some (.cells (encs (Value.int .u32) W).toArray 121 (0, 0)))
    (hf : Fr (fun k => k = gw) w0 w)
    (Q : Exit → Act → World → Prop) (hQ : ∀ a' w', Fm 74 a' → sl a' 2 = .pointer (some ⟨gr, 0, none⟩) → sl a' 3 = .pointer (some ⟨gw, 0, none⟩) → sl a' 5 = .int .i64 (t + 1) → Fr (fun k => k = gw) w0 w' → w'.heap[gw]? = some (.cells (encs (Value.int .u32) (W.set t.toNat (sch W t))).toArray 121 (0, 0)) → Q .normal a' w') :
    Code.wp Try.prog (bodyN Try.f68 1) Q ⟨#[u 0, u 1, .pointer (some ⟨gr, 0, none⟩), .pointer (some ⟨gw, 0, none⟩), u 4, .int .i64 t, u 6, u 7, u 8, u 9, u 10, u 11, u 12, u 13, u 14, u 15, u 16, u 17, u 18, u 19, u 20, u 21, u 22, u 23, u 24, u 25, u 26, u 27, u 28, u 29, u 30, u 31, u 32, u 33, u 34, u 35, u 36, u 37, u 38, u 39, u 40, u 41, u 42, u 43, u 44, u 45, u 46, u 47, u 48, u 49, u 50, u 51, u 52, u 53, u 54, u 55, u 56, u 57, u 58, u 59, u 60, u 61, u 62, u 63, u 64, u 65, u 66, u 67, u 68, u 69, u 70, u 71, u 72, u 73], []⟩ w := by
  obtain ⟨x, hx⟩ : ∃ x, W.getD (t - 15).toNat 0 = x := ⟨_, rfl⟩
  obtain ⟨y, hy⟩ : ∃ x, W.getD (t - 2).toNat 0 = x := ⟨_, rfl⟩
  obtain ⟨x7, hx7⟩ : ∃ x, W.getD (t - 7).toNat 0 = x := ⟨_, rfl⟩
  obtain ⟨x16, hx16⟩ : ∃ x, W.getD (t - 16).toNat 0 = x := ⟨_, rfl⟩
  rw [show sch W t = (sig1 y + x7 + sig0 x + x16) % 4294967296 by rw [← hx, ← hy, ← hx7, ← hx16]; rfl] at hQ
  conv => arg 2; whnf
  have c0 := decide_eq_true ht
  go_wp2
  refine region_tail 17 (by kernel_rfl) (by kernel_rfl) ?_
  intro w3 e3
  have hw3 : w3.heap[gw]? = some (.cells (encs (Value.int .u32) W).toArray 121 (0, 0)) := by rw [e3]; exact hw
  have hf3 : Fr (fun k => k = gw) w0 w3 := by rw [e3]; exact hf.of_drew
  clear hw hf e3
  have k15 := cellV hw3 (t - 15) (by omega) (by omega)
  rw [hx] at k15
  have HW := Aside0.mk hw3
  have HF := Aside0.mk hf3
  clear hw3 hf3
  have f1 : 0 ≤ t - 15 := by omega
  have g1 : 15 ≤ t := by omega
  have f2 : t - 15 < 64 := by omega
  have e1 : IntKind.i64.wrap (t - 15) = t - 15 := IntWalk.i64_in _ (by omega)
  simp only [List.take_succ_cons, List.take_zero, List.drop_succ_cons, List.drop_zero]
  repeat (first | still_step | still_call (turn_same _ _ (by simp [turnable]) _))
  refine wpStill_nil ?_
  go_wp2
  refine region_tail 17 (by kernel_rfl) (by kernel_rfl) ?_
  intro w4 e3
  have hw3 : w4.heap[gw]? = some (.cells (encs (Value.int .u32) W).toArray 121 (0, 0)) := by rw [e3]; exact HW.out
  have hf3 : Fr (fun k => k = gw) w0 w4 := by rw [e3]; exact HF.out.of_drew
  clear HW HF e3 f1 g1 f2 e1 k15
  have k2 := cellV hw3 (t - 2) (by omega) (by omega)
  rw [hy] at k2
  have HW := Aside0.mk hw3
  have HF := Aside0.mk hf3
  clear hw3 hf3
  have f1 : 0 ≤ t - 2 := by omega
  have g1 : 2 ≤ t := by omega
  have f2 : t - 2 < 64 := by omega
  have e1 : IntKind.i64.wrap (t - 2) = t - 2 := IntWalk.i64_in _ (by omega)
  simp only [List.take_succ_cons, List.take_zero, List.drop_succ_cons, List.drop_zero]
  repeat (first | still_step | still_call (turn_same _ _ (by simp [turnable]) _))
  refine wpStill_nil ?_
  go_wp2
  refine region_tail 14 (by kernel_rfl) (by kernel_rfl) ?_
  intro w5 e3
  have hw3 : w5.heap[gw]? = some (.cells (encs (Value.int .u32) W).toArray 121 (0, 0)) := by rw [e3]; exact HW.out
  have hf3 : Fr (fun k => k = gw) w0 w5 := by rw [e3]; exact HF.out.of_drew
  clear HW HF e3 f1 g1 f2 e1 k2
  have k7 := cellV hw3 (t - 7) (by omega) (by omega)
  have k16 := cellV hw3 (t - 16) (by omega) (by omega)
  rw [hx7] at k7
  rw [hx16] at k16
  have HW := Aside0.mk hw3
  have HF := Aside0.mk hf3
  clear hw3 hf3
  have f1 : 0 ≤ t - 7 := by omega
  have g1 : 7 ≤ t := by omega
  have f2 : t - 7 < 64 := by omega
  have f3 : 0 ≤ t - 16 := by omega
  have f4 : t - 16 < 64 := by omega
  have e1 : IntKind.i64.wrap (t - 7) = t - 7 := IntWalk.i64_in _ (by omega)
  have e2 : IntKind.i64.wrap (t - 16) = t - 16 := IntWalk.i64_in _ (by omega)
  simp only [List.take_succ_cons, List.take_zero, List.drop_succ_cons, List.drop_zero]
  repeat still_step
  refine wpStill_nil ?_
  clear f1 g1 f2 f3 f4 e1 e2 k7 k16
  have f0 : 0 ≤ t := by omega
  have kt := cellV HW.out t (by omega) (by omega)
  have ft := frozenV HW.out t.toNat
  go_wp2
  refine hQ _ _ ⟨rfl, rfl⟩ rfl rfl rfl ?_ ?_
  · exact HF.out.setCell (.inl rfl) _
  · exact heap_putV HW.out _ (by omega) _
end Go.Proofs.Ytnabilhcmplhcaa.Sha

/-
  The document's schedule, whole.
-/
set_option linter.unusedVariables false
set_option linter.unusedSimpArgs false
namespace Go.Proofs.Ytnabilhcmplhcaa.Sha
open Go.RowKit Go.Proofs.YtnabilhcmplhcaaW.PrintWords Go.Proofs.YtnabilhcmplhcaaW.PrintLast Go.Proofs.YtnabilhcmplhcaaW.PrintMore Go.Proofs.Ytnabilhcmplhcaa.Q Go.Proofs.Ytnabilhcmplhcaa.Fr Go.Proofs.Ytnabilhcmplhcaa.Oct

set_option maxHeartbeats 8000000 in
set_option maxRecDepth 100000 in
theorem exitB (u : Nat → Value) (w : World) (Q : Exit → Act → World → Prop) (hQ : ∀ a', Fm 74 a' → sl a' 2 = u 2 → sl a' 3 = u 3 → Q (.exit 2) a' w) :
    Code.wp Try.prog (bodyN Try.f68 1) Q ⟨#[u 0, u 1, u 2, u 3, u 4, .int .i64 64, u 6, u 7, u 8, u 9, u 10, u 11, u 12, u 13, u 14, u 15, u 16, u 17, u 18, u 19, u 20, u 21, u 22, u 23, u 24, u 25, u 26, u 27, u 28, u 29, u 30, u 31, u 32, u 33, u 34, u 35, u 36, u 37, u 38, u 39, u 40, u 41, u 42, u 43, u 44, u 45, u 46, u 47, u 48, u 49, u 50, u 51, u 52, u 53, u 54, u 55, u 56, u 57, u 58, u 59, u 60, u 61, u 62, u 63, u 64, u 65, u 66, u 67, u 68, u 69, u 70, u 71, u 72, u 73], []⟩ w := by
  conv => arg 2; whnf
  go_wp2
  exact hQ _ ⟨rfl, rfl⟩ rfl rfl
theorem loopB (gr gw : Nat) (P : List Int) (w0 : World)
    (Q : Exit → Act → World → Prop) (hQ : ∀ a' w', Fm 74 a' → sl a' 2 = .pointer (some ⟨gr, 0, none⟩) → sl a' 3 = .pointer (some ⟨gw, 0, none⟩) → Fr (fun k => k = gw) w0 w' → w'.heap[gw]? = some (.cells (encs (Value.int .u32) (sched P 64)).toArray 121 (0, 0)) → Q (.exit 2) a' w')
    (a : Act) (w : World) (h : JB gr gw P w0 0 a w) : (Code.loop (bodyN Try.f68 1)).wp Try.prog Q a w := by
  refine wp_loop_up 48 (JB gr gw P w0) h ?_
  rintro t a w ht ⟨hF, h2, h3, h5, hf, hw⟩
  have ha := fm74 hF
  by_cases h64 : t = 48
  · subst h64
    rw [h5] at ha
    rw [ha]
    exact exitB (sl a) w _ fun a' b0 b1 b2 => hQ _ _ b0 (b1.trans h2) (b2.trans h3) hf hw
  · have e1 : ((t + 1 + 16 : Nat) : Int) = ((t + 16 : Nat) : Int) + 1 := by omega
    rw [h2, h3, h5] at ha
    rw [ha]
    refine roundB (sl a) gr gw ((t + 16 : Nat) : Int) (by omega) (by omega) w0 w _ (sched_len P _) hw hf _ ?_
    intro a' w' b0 b2 b3 b4 b5 b6
    refine ⟨by omega, b0, b2, b3, by rw [b4, e1], b5, ?_⟩
    have e2 : sched P ((t + 16) + 1) = (sched P (t + 16)).set (t + 16) (sch (sched P (t + 16)) ((t + 16 : Nat) : Int)) := by
      rw [sched, if_neg (by omega)]
    rw [b6, show t + 1 + 16 = (t + 16) + 1 by omega, e2, Int.toNat_natCast]

set_option maxHeartbeats 8000000 in
set_option maxRecDepth 100000 in
theorem schedule_calls (A : Option Addr) (c : Nat) (P : List Int) (hP : P.length = 64) (hB : Bys P) (hc : 64 ≤ c) (w : World) (hr : Kd.C (Kd.int .u8) w A P.length P) :
    Calls Try.prog 68 #[.slice A 64 c] w fun e w' => e = .returned (.agg (encs (Value.int .u32) (sched P 64)).toArray) ∧ Below w.heap.size w w' := by
  have HR := Aside0.mk hr
  clear hr
  have hlen : (encs (Value.int .u32) (sched P 64)).toArray.size = 64 := by simp [encs, sched_len]
  have hone : (encs (Value.int .u32) (sched P 64)).toArray.all (·.oneCell') = true := by simp [encs, Value.oneCell']
  obtain ⟨cs, hcs⟩ : ∃ cs, (encs (Value.int .u32) (sched P 64)).toArray = cs := ⟨_, rfl⟩
  rw [hcs] at hlen hone
  rw [hcs]
  have hi : (Try.prog.info? 121).map (·.size) = some cs.size := by rw [hlen]; kernel_rfl
  have HO := Aside0.mk hone
  have HI := Aside0.mk hi
  have HL := Aside0.mk hlen
  have HX := Aside0.mk hcs
  clear hone hcs hi hlen
  go_enter Try.func68, Try.ntmps68
  go_wp2_with (first | ((with_reducible refine gate_dst (N := 2) rfl ?_); refine wpList_alloc_abs (by rfl) 121 (by rfl) (.agg ZT) (by kernel_rfl) ?_; intro w1 hb1 hs1 hg1) | ((with_reducible refine gate_dst (N := 8) rfl ?_); refine wpList_build_abs (by rfl) 121 _ (by rfl) ZT (by kernel_rfl) ?_) | ((with_reducible refine gate_dst (N := 3) rfl ?_); refine wpList_alloc_abs (by rfl) 121 (by rfl) (.agg ZT) (by kernel_rfl) ?_; intro w2 hb2 hs2 hg2) | ((with_reducible refine gate_store (p := 3) rfl ?_); refine wpList_store_abs (by rfl) 121 _ _ (by rfl) w1.heap.size ZT (by rfl) (by rfl) 121 ZT hg2 (by kernel_rfl) (by rfl) (by decide +kernel) ?_; intro w3 hf3 hs3 hg3))
  have lr : w.heap.size < w2.heap.size := by omega
  have hr3 : w3.heap[w.heap.size]? = some (.cells ZT 121 (0, 0)) := hf3.blk ((Fr.of_below hb2 (fun _ => False)).blk hg1 (fun h => h)) (fun h => by omega)
  have F3 : Fr (fun _ => False) w w3 := ((Fr.of_below hb1 _).trans (Fr.of_below hb2 (fun _ => False)) (fun i h => h.elim)).trans hf3 (fun i h => .inr (by omega))
  have lA : ∀ w', Fr (fun k => k = w.heap.size + 1) w3 w' → Kd.C (Kd.int .u8) w' A P.length P := fun w' h => (F3.trans h (S := fun _ => False) (fun i h2 => .inr (by omega))).C HR.out (fun i h => h.elim)
  rw [hs1] at hg3
  clear hf3 hb2 hg2 hg1 hb1 HR
  refine loopA A c w.heap.size (w.heap.size + 1) P hP hB hc w3 lA _ ?_ _ _ ⟨⟨rfl, rfl⟩, rfl, rfl, rfl, rfl, Fr.refl _ _, hg3⟩
  clear lA hg3
  intro a' w4 hF j2 j3 jf jw
  rw [fm74 hF, j2, j3]
  have F4 : Fr (fun _ => False) w w4 := F3.trans jf (fun i h => .inr (by omega))
  have hr4 := jf.blk hr3 (fun h => by omega)
  clear hr3 F3 jf hF j2 j3
  have HW := Aside0.mk jw
  have HF := Aside0.mk F4
  have HR := Aside0.mk hr4
  clear jw F4 hr4
  go_wp2
  refine loopB w.heap.size (w.heap.size + 1) P w4 _ ?_ _ _ ⟨⟨rfl, rfl⟩, rfl, rfl, rfl, Fr.refl _ _, HW.out⟩
  intro a' w5 hF j2 j3 jf jw
  rw [fm74 hF, j2, j3]
  have hr5 := jf.blk HR.out (fun h => by omega)
  have F5 : Fr (fun _ => False) w w5 := HF.out.trans jf (fun i h => .inr (by omega))
  clear HR HF HW jf hF j2 j3
  rw [HX.out] at jw
  have HW := Aside0.mk jw
  have HF := Aside0.mk F5
  have HR := Aside0.mk hr5
  clear jw F5 hr5 HX
  go_wp2_with (first | ((with_reducible refine gate_dst (N := 73) rfl ?_); refine wpList_load_row (by rfl) 121 _ (by rfl) (w.heap.size + 1) (by rfl) _ cs _ _ HW.out Try.underlying121 (by rfl) HI.out ?_) | ((with_reducible refine gate_store (p := 2) rfl ?_); refine wpList_store_abs (by rfl) 121 _ _ (by rfl) w.heap.size cs (by rfl) (by rfl) 121 ZT HR.out HI.out (by rw [HL.out]; exact ZT_size) HO.out ?_; intro w6 hf6 hs6 hg6))
  refine bodyPost_ret (results_cell_row (by rfl) _ _ w.heap.size 121 cs (0, 0) _ (by rfl) hg6 Try.underlying121 (by rfl) HI.out) rfl ?_
  exact ⟨rfl, (HF.out.trans hf6 (S := fun _ => False) (fun i h => .inr (by omega))).below _ (Nat.le_refl _) (fun i h => h.elim)⟩
end Go.Proofs.Ytnabilhcmplhcaa.Sha

/-
  The document's block: a round.
-/
set_option linter.unusedVariables false
set_option linter.unusedSimpArgs false
namespace Go.Proofs.Ytnabilhcmplhcaa.Sha
open Go.RowKit Go.Proofs.YtnabilhcmplhcaaW.PrintWords Go.Proofs.YtnabilhcmplhcaaW.PrintLast Go.Proofs.YtnabilhcmplhcaaW.PrintMore Go.Proofs.Ytnabilhcmplhcaa.Q Go.Proofs.Ytnabilhcmplhcaa.Fr Go.Proofs.Ytnabilhcmplhcaa.Oct

theorem add_wrap (a b : Int) : (a + b) % 4294967296 = (a + IntKind.u32.wrap b) % 4294967296 := by rw [IntKind.wrap_u32]; omega
set_option maxHeartbeats 8000000 in
set_option maxRecDepth 100000 in
theorem roundR (u : Nat → Value) (gb gr gk gw gv : Nat) (t : Int) (ht0 : 0 ≤ t) (ht : t < 64) (w0 w : World) (va vb vc vd ve vf vg vh kt wt : Int)
   (hv : w.heap[gv]? = some (.cells (encs (Value.int .u32) [va, vb, vc, vd, ve, vf, vg, vh]).toArray 116 (0, 0)))
   (hk : w.cell? ⟨gk, t.toNat, none⟩ = some (.int .u32 kt)) (hw : w.cell? ⟨gw, t.toNat, none⟩ = some (.int .u32 wt)) (hf : Fr (fun k => k = gv) w0 w)
   (Q : Exit → Act → World → Prop) (hQ : ∀ a' w', Fm 113 a' → sl a' 2 = .pointer (some ⟨gb, 0, none⟩) → sl a' 4 = .pointer (some ⟨gr, 0, none⟩) → sl a' 5 = .pointer (some ⟨gw, 0, none⟩) → sl a' 6 = .pointer (some ⟨gk, 0, none⟩) → sl a' 7 = .pointer (some ⟨gv, 0, none⟩) → sl a' 8 = .int .i64 (t + 1) →
      Fr (fun k => k = gv) w0 w' → w'.heap[gv]? = some (.cells (encs (Value.int .u32) (rnd [va, vb, vc, vd, ve, vf, vg, vh] kt wt)).toArray 116 (0, 0)) → Q .normal a' w') :
    Code.wp Try.prog (bodyN Try.f63 0) Q ⟨#[u 0, u 1, .pointer (some ⟨gb, 0, none⟩), u 3, .pointer (some ⟨gr, 0, none⟩), .pointer (some ⟨gw, 0, none⟩), .pointer (some ⟨gk, 0, none⟩), .pointer (some ⟨gv, 0, none⟩), .int .i64 t, u 9, u 10, u 11, u 12, u 13, u 14, u 15, u 16, u 17, u 18, u 19, u 20, u 21, u 22, u 23, u 24, u 25, u 26, u 27, u 28, u 29, u 30, u 31, u 32, u 33, u 34, u 35, u 36, u 37, u 38, u 39, u 40, u 41, u 42, u 43, u 44, u 45, u 46, u 47, u 48, u 49, u 50, u 51, u 52, u 53, u 54, u 55, u 56, u 57, u 58, u 59, u 60, u 61, u 62, u 63, u 64, u 65, u 66, u 67, u 68, u 69, u 70, u 71, u 72, u 73, u 74, u 75, u 76, u 77, u 78, u 79, u 80, u 81, u 82, u 83, u 84, u 85, u 86, u 87, u 88, u 89, u 90, u 91, u 92, u 93, u 94, u 95, u 96, u 97, u 98, u 99, u 100, u 101, u 102, u 103, u 104, u 105, u 106, u 107, u 108, u 109, u 110, u 111, u 112], []⟩ w := by
  conv => arg 2; whnf
  have c0 := decide_eq_true ht
  go_wp2
  refine region_tail 17 (by kernel_rfl) (by kernel_rfl) ?_
  intro w3 e3
  have e4 : ∀ p, w3.cell? p = w.cell? p := fun p => by rw [e3]; simp
  rw [← e4] at hk hw
  have hv3 : w3.heap[gv]? = some (.cells (encs (Value.int .u32) [va, vb, vc, vd, ve, vf, vg, vh]).toArray 116 (0, 0)) := by rw [e3]; exact hv
  have hf3 : Fr (fun k => k = gv) w0 w3 := by rw [e3]; exact hf.of_drew
  clear hv hf e4 e3
  have HV := Aside0.mk hv3
  have HF := Aside0.mk hf3
  obtain ⟨v0, v1, v2, v3, v4, v5, v6, v7⟩ := cells8 hv3
  clear hv3 hf3
  simp only [List.take_succ_cons, List.take_zero, List.drop_succ_cons, List.drop_zero]
  repeat still_step
  refine wpStill_nil ?_
  go_wp2
  refine region_tail 28 (by kernel_rfl) (by kernel_rfl) ?_
  intro w4 e3
  have e4 : ∀ p, w4.cell? p = w3.cell? p := fun p => by rw [e3]; simp
  rw [← e4] at v0 v1 v2 v3 v4 v5 v6 v7 hk hw
  have hv : w4.heap[gv]? = some (.cells (encs (Value.int .u32) [va, vb, vc, vd, ve, vf, vg, vh]).toArray 116 (0, 0)) := by rw [e3]; exact HV.out
  have hf : Fr (fun k => k = gv) w0 w4 := by rw [e3]; exact (HF.out).of_drew
  clear HV HF e4 e3
  have HV := Aside0.mk hv
  have HF := Aside0.mk hf
  clear hv hf
  simp only [List.take_succ_cons, List.take_zero, List.drop_succ_cons, List.drop_zero]
  repeat (first | still_step | still_call (turn_same _ _ (by simp [turnable]) _))
  refine wpStill_nil ?_
  go_wp2_with (fail)
  generalize hT1 : IntKind.u32.wrap (IntKind.u32.wrap (IntKind.u32.wrap (IntKind.u32.wrap (vh + Go.bits .xor .u32 (Go.bits .xor .u32 (rotr ve 6) (rotr ve 11)) (rotr ve 25)) + Go.bits .or .u32 (Go.bits .and .u32 ve vf) (Go.bits .and .u32 (Go.bits .xor .u32 ve 4294967295) vg)) + kt) + wt) = T1
  refine (turn_same _ _ (by simp [turnable]) _).mono ?_
  rintro e w' ⟨rfl, rfl⟩
  go_wp2_with (fail)
  refine (turn_same _ _ (by simp [turnable]) _).mono ?_
  rintro e w' ⟨rfl, rfl⟩
  go_wp2_with (fail)
  refine (turn_same _ _ (by simp [turnable]) _).mono ?_
  rintro e w' ⟨rfl, rfl⟩
  have hv5 := HV.out
  go_wp2_with (first | ((with_reducible refine gate_store (p := 7) rfl ?_); refine Aside0.out ?_))
  refine ⟨?_⟩
  refine wpList_store_abs (by rfl) 116 _ _ (by rfl) gv _ (by rfl) (by rfl) 116 _ hv5 (by kernel_rfl) (by rfl) (by simp [Value.oneCell']) ?_
  intro w6 hf6 hs6 hg6
  go_wp2
  refine hQ _ _ ⟨rfl, rfl⟩ rfl rfl rfl rfl rfl rfl ?_ ?_
  · exact HF.out.trans hf6 (fun i h => .inl h)
  · rw [hg6, ← hT1, ch32, maj32, add_wrap _ (Go.bits .xor .u32 (Go.bits .xor .u32 (rotr va 2) (rotr va 13)) (rotr va 22) + _)]
    rfl
end Go.Proofs.Ytnabilhcmplhcaa.Sha

/-
  The document's block, whole: the same as the program's.
-/
set_option linter.unusedVariables false
set_option linter.unusedSimpArgs false
namespace Go.Proofs.Ytnabilhcmplhcaa.Sha
open Go.RowKit Go.Proofs.YtnabilhcmplhcaaW.PrintWords Go.Proofs.YtnabilhcmplhcaaW.PrintLast Go.Proofs.YtnabilhcmplhcaaW.PrintMore Go.Proofs.Ytnabilhcmplhcaa.Q Go.Proofs.Ytnabilhcmplhcaa.Fr Go.Proofs.Ytnabilhcmplhcaa.Oct

set_option maxHeartbeats 8000000 in
set_option maxRecDepth 100000 in
theorem exitR (u : Nat → Value) (w : World) (Q : Exit → Act → World → Prop) (hQ : ∀ a', Fm 113 a' → sl a' 2 = u 2 → sl a' 4 = u 4 → sl a' 7 = u 7 → Q (.exit 0) a' w) :
    Code.wp Try.prog (bodyN Try.f63 0) Q ⟨#[u 0, u 1, u 2, u 3, u 4, u 5, u 6, u 7, .int .i64 64, u 9, u 10, u 11, u 12, u 13, u 14, u 15, u 16, u 17, u 18, u 19, u 20, u 21, u 22, u 23, u 24, u 25, u 26, u 27, u 28, u 29, u 30, u 31, u 32, u 33, u 34, u 35, u 36, u 37, u 38, u 39, u 40, u 41, u 42, u 43, u 44, u 45, u 46, u 47, u 48, u 49, u 50, u 51, u 52, u 53, u 54, u 55, u 56, u 57, u 58, u 59, u 60, u 61, u 62, u 63, u 64, u 65, u 66, u 67, u 68, u 69, u 70, u 71, u 72, u 73, u 74, u 75, u 76, u 77, u 78, u 79, u 80, u 81, u 82, u 83, u 84, u 85, u 86, u 87, u 88, u 89, u 90, u 91, u 92, u 93, u 94, u 95, u 96, u 97, u 98, u 99, u 100, u 101, u 102, u 103, u 104, u 105, u 106, u 107, u 108, u 109, u 110, u 111, u 112], []⟩ w := by
  conv => arg 2; whnf
  go_wp2
  exact hQ _ ⟨rfl, rfl⟩ rfl rfl rfl
def JR (gb gr gk gw gv : Nat) (K W V : List Int) (w0 : World) (t : Nat) (a : Act) (w : World) : Prop :=
  Fm 113 a ∧ sl a 2 = .pointer (some ⟨gb, 0, none⟩) ∧ sl a 4 = .pointer (some ⟨gr, 0, none⟩) ∧ sl a 5 = .pointer (some ⟨gw, 0, none⟩) ∧ sl a 6 = .pointer (some ⟨gk, 0, none⟩) ∧ sl a 7 = .pointer (some ⟨gv, 0, none⟩) ∧ sl a 8 = .int .i64 (t : Int) ∧
    Fr (fun k => k = gv) w0 w ∧ w.heap[gv]? = some (.cells (encs (Value.int .u32) (rnds K W V t)).toArray 116 (0, 0))
theorem loopR (gb gr gk gw gv : Nat) (K W V : List Int) (tk tw : TypeId) (w0 : World) (hV : V.length = 8) (hK : K.length = 64) (hW : W.length = 64) (hk : w0.heap[gk]? = some (.cells (encs (Value.int .u32) K).toArray tk (0, 0)))
    (hw : w0.heap[gw]? = some (.cells (encs (Value.int .u32) W).toArray tw (0, 0))) (hnk : gk ≠ gv) (hnw : gw ≠ gv)
    (Q : Exit → Act → World → Prop) (hQ : ∀ a' w', Fm 113 a' → sl a' 2 = .pointer (some ⟨gb, 0, none⟩) → sl a' 4 = .pointer (some ⟨gr, 0, none⟩) → sl a' 7 = .pointer (some ⟨gv, 0, none⟩) → Fr (fun k => k = gv) w0 w' → w'.heap[gv]? = some (.cells (encs (Value.int .u32) (rnds K W V 64)).toArray 116 (0, 0)) → Q (.exit 0) a' w')
    (a : Act) (w : World) (h : JR gb gr gk gw gv K W V w0 0 a w) : (Code.loop (bodyN Try.f63 0)).wp Try.prog Q a w := by
  refine wp_loop_up 64 (JR gb gr gk gw gv K W V w0) h ?_
  rintro t a w ht ⟨hF, h2, h4, h5, h6, h7, h8, hf, hv⟩
  have ha := fm113 hF
  by_cases h64 : t = 64
  · subst h64
    rw [h8] at ha
    rw [ha]
    exact exitR (sl a) w _ fun a' b0 b1 b2 b3 => hQ _ _ b0 (b1.trans h2) (b2.trans h4) (b3.trans h7) hf hv
  · have e1 : ((t + 1 : Nat) : Int) = (t : Int) + 1 := by omega
    obtain ⟨va, vb, vc, vd, ve, vf, vg, vh, hx⟩ := eight ((rnds_len K W V t).trans hV)
    rw [hx] at hv
    have ck := cellV (hf.blk hk hnk) (t : Int) (by omega) (by omega)
    have cw := cellV (hf.blk hw hnw) (t : Int) (by omega) (by omega)
    rw [h2, h4, h5, h6, h7, h8] at ha
    rw [ha]
    refine roundR (sl a) gb gr gk gw gv t (by omega) (by omega) w0 w va vb vc vd ve vf vg vh (K.getD t 0) (W.getD t 0) hv ck cw hf _ ?_
    intro a' w' b0 b2 b4 b5 b6 b7 b8 b9 b10
    refine ⟨by omega, b0, b2, b4, b5, b6, b7, by rw [b8, e1], b9, ?_⟩
    rw [b10, rnds, hx]

set_option maxHeartbeats 8000000 in
set_option maxRecDepth 100000 in
theorem roundT (u : Nat → Value) (gs gr gv : Nat) (t : Int) (ht0 : 0 ≤ t) (ht : t < 8) (w0 w : World) (S : List Int) (hS : S.length = 8) (st vt : Int)
   (hs : w.heap[gs]? = some (.cells (encs (Value.int .u32) S).toArray 116 (0, 0))) (hst : S.getD t.toNat 0 = st)
   (hv : w.cell? ⟨gv, t.toNat, none⟩ = some (.int .u32 vt)) (hf : Fr (fun k => k = gs) w0 w)
   (Q : Exit → Act → World → Prop) (hQ : ∀ a' w', Fm 113 a' → sl a' 2 = .pointer (some ⟨gs, 0, none⟩) → sl a' 4 = .pointer (some ⟨gr, 0, none⟩) → sl a' 7 = .pointer (some ⟨gv, 0, none⟩) → sl a' 17 = .int .i64 (t + 1) →
      Fr (fun k => k = gs) w0 w' → w'.heap[gs]? = some (.cells (encs (Value.int .u32) (S.set t.toNat ((st + vt) % 4294967296))).toArray 116 (0, 0)) → Q .normal a' w') :
    Code.wp Try.prog (bodyN Try.f63 1) Q ⟨#[u 0, u 1, .pointer (some ⟨gs, 0, none⟩), u 3, .pointer (some ⟨gr, 0, none⟩), u 5, u 6, .pointer (some ⟨gv, 0, none⟩), u 8, u 9, u 10, u 11, u 12, u 13, u 14, u 15, u 16, .int .i64 t, u 18, u 19, u 20, u 21, u 22, u 23, u 24, u 25, u 26, u 27, u 28, u 29, u 30, u 31, u 32, u 33, u 34, u 35, u 36, u 37, u 38, u 39, u 40, u 41, u 42, u 43, u 44, u 45, u 46, u 47, u 48, u 49, u 50, u 51, u 52, u 53, u 54, u 55, u 56, u 57, u 58, u 59, u 60, u 61, u 62, u 63, u 64, u 65, u 66, u 67, u 68, u 69, u 70, u 71, u 72, u 73, u 74, u 75, u 76, u 77, u 78, u 79, u 80, u 81, u 82, u 83, u 84, u 85, u 86, u 87, u 88, u 89, u 90, u 91, u 92, u 93, u 94, u 95, u 96, u 97, u 98, u 99, u 100, u 101, u 102, u 103, u 104, u 105, u 106, u 107, u 108, u 109, u 110, u 111, u 112], []⟩ w := by
  conv => arg 2; whnf
  have c0 := decide_eq_true ht
  have hc := cellV hs t (by omega) (by omega)
  rw [hst] at hc
  go_wp2
  refine region_tail 7 (by kernel_rfl) (by kernel_rfl) ?_
  intro w3 e3
  have e4 : ∀ p, w3.cell? p = w.cell? p := fun p => by rw [e3]; simp
  rw [← e4] at hc hv
  have hs3 : w3.heap[gs]? = some (.cells (encs (Value.int .u32) S).toArray 116 (0, 0)) := by rw [e3]; exact hs
  have hf3 : Fr (fun k => k = gs) w0 w3 := by rw [e3]; exact hf.of_drew
  clear hs hf e3 e4
  have HS := Aside0.mk hs3
  have HF := Aside0.mk hf3
  clear hs3 hf3
  simp only [List.take_succ_cons, List.take_zero, List.drop_succ_cons, List.drop_zero]
  repeat still_step
  refine wpStill_nil ?_
  have fz := frozenV HS.out t.toNat
  go_wp2
  refine hQ _ _ ⟨rfl, rfl⟩ rfl rfl rfl rfl ?_ ?_
  · exact HF.out.setCell (.inl rfl) _
  · exact heap_putV HS.out _ (by omega) _
set_option maxHeartbeats 8000000 in
set_option maxRecDepth 100000 in
theorem exitT (u : Nat → Value) (w : World) (Q : Exit → Act → World → Prop) (hQ : ∀ a', Fm 113 a' → sl a' 2 = u 2 → sl a' 4 = u 4 → Q (.exit 2) a' w) :
    Code.wp Try.prog (bodyN Try.f63 1) Q ⟨#[u 0, u 1, u 2, u 3, u 4, u 5, u 6, u 7, u 8, u 9, u 10, u 11, u 12, u 13, u 14, u 15, u 16, .int .i64 8, u 18, u 19, u 20, u 21, u 22, u 23, u 24, u 25, u 26, u 27, u 28, u 29, u 30, u 31, u 32, u 33, u 34, u 35, u 36, u 37, u 38, u 39, u 40, u 41, u 42, u 43, u 44, u 45, u 46, u 47, u 48, u 49, u 50, u 51, u 52, u 53, u 54, u 55, u 56, u 57, u 58, u 59, u 60, u 61, u 62, u 63, u 64, u 65, u 66, u 67, u 68, u 69, u 70, u 71, u 72, u 73, u 74, u 75, u 76, u 77, u 78, u 79, u 80, u 81, u 82, u 83, u 84, u 85, u 86, u 87, u 88, u 89, u 90, u 91, u 92, u 93, u 94, u 95, u 96, u 97, u 98, u 99, u 100, u 101, u 102, u 103, u 104, u 105, u 106, u 107, u 108, u 109, u 110, u 111, u 112], []⟩ w := by
  conv => arg 2; whnf
  go_wp2
  exact hQ _ ⟨rfl, rfl⟩ rfl rfl
def JT (gs gr gv : Nat) (S V : List Int) (w0 : World) (t : Nat) (a : Act) (w : World) : Prop :=
  Fm 113 a ∧ sl a 2 = .pointer (some ⟨gs, 0, none⟩) ∧ sl a 4 = .pointer (some ⟨gr, 0, none⟩) ∧ sl a 7 = .pointer (some ⟨gv, 0, none⟩) ∧ sl a 17 = .int .i64 (t : Int) ∧
    Fr (fun k => k = gs) w0 w ∧ w.heap[gs]? = some (.cells (encs (Value.int .u32) (adds S V t)).toArray 116 (0, 0))
theorem loopT (gs gr gv : Nat) (S V : List Int) (tv : TypeId) (w0 : World) (hS : S.length = 8) (hV : V.length = 8) (hv : w0.heap[gv]? = some (.cells (encs (Value.int .u32) V).toArray tv (0, 0))) (hn : gv ≠ gs)
    (Q : Exit → Act → World → Prop) (hQ : ∀ a' w', Fm 113 a' → sl a' 2 = .pointer (some ⟨gs, 0, none⟩) → sl a' 4 = .pointer (some ⟨gr, 0, none⟩) → Fr (fun k => k = gs) w0 w' → w'.heap[gs]? = some (.cells (encs (Value.int .u32) (adds S V 8)).toArray 116 (0, 0)) → Q (.exit 2) a' w')
    (a : Act) (w : World) (h : JT gs gr gv S V w0 0 a w) : (Code.loop (bodyN Try.f63 1)).wp Try.prog Q a w := by
  refine wp_loop_up 8 (JT gs gr gv S V w0) h ?_
  rintro t a w ht ⟨hF, h2, h4, h7, h17, hf, hs⟩
  have ha := fm113 hF
  by_cases h64 : t = 8
  · subst h64
    rw [h17] at ha
    rw [ha]
    exact exitT (sl a) w _ fun a' b0 b1 b2 => hQ _ _ b0 (b1.trans h2) (b2.trans h4) hf hs
  · have e1 : ((t + 1 : Nat) : Int) = (t : Int) + 1 := by omega
    rw [h2, h4, h7, h17] at ha
    have cv := cellV (hf.blk hv hn) (t : Int) (by omega) (by omega)
    rw [ha]
    refine roundT (sl a) gs gr gv t (by omega) (by omega) w0 w _ ((adds_len S V t).trans hS) _ (V.getD t 0) hs rfl cv hf _ ?_
    intro a' w' b0 b1 b2 b3 b4 b5 b6
    refine ⟨by omega, b0, b1, b2, b3, by rw [b4, e1], b5, ?_⟩
    rw [b6, adds, Int.toNat_natCast]

section
variable {P : Program} {ops : Array Oper} {rest : List Oper} {o : Oper} {a : Act} {Q : Exit → Act → World → Prop} {w : World}
theorem wpList_box_abs (hg : o.guard = none) (t : TypeId) (x : Operand) (ho : o.op = .box t x) (cells : Array Value) (hx : a.eval x = .agg cells)
    (hK : ∀ w1, Below w.heap.size w w1 → w1.heap.size = w.heap.size + 1 → w1.heap[w.heap.size]? = some (.cells cells t (0, 0)) → wpList P ops Q rest (a.put o.dst (.pointer (some ⟨w.heap.size, 0, none⟩))) w1) : wpList P ops Q (o :: rest) a w :=
  Great.wpList_boxTo hg t x ho _ rfl _ rfl cells (by rw [hx]; rfl) (hK _ (below_alloc (Below.refl _ _) _) (by simp) (heap_alloc_new w _))
end

set_option maxHeartbeats 8000000 in
set_option maxRecDepth 100000 in
theorem Block_calls (S : List Int) (hS : S.length = 8) (A : Option Addr) (c : Nat) (P : List Int) (hP : P.length = 64) (hB : Bys P) (hc : 64 ≤ c) (w : World) (hr : Kd.C (Kd.int .u8) w A P.length P) :
    Calls Try.prog 63 #[.agg (encs (Value.int .u32) S).toArray, .slice A 64 c] w fun e w' => e = .returned (.agg (encs (Value.int .u32) (compress S P)).toArray) ∧ Below w.heap.size w w' := by
  have HR := Aside0.mk hr
  clear hr
  have hi8 : (Try.prog.info? 116).map (·.size) = some 8 := by kernel_rfl
  have hl1 : (encs (Value.int .u32) S).toArray.size = 8 := by simp [encs, hS]
  have ho1 : (encs (Value.int .u32) S).toArray.all (·.oneCell') = true := by simp [encs, Value.oneCell']
  have hl2 : (encs (Value.int .u32) (compress S P)).toArray.size = 8 := by simp [encs, compress_len, hS]
  have ho2 : (encs (Value.int .u32) (compress S P)).toArray.all (·.oneCell') = true := by simp [encs, Value.oneCell']
  have hl3 : (encs (Value.int .u32) (sched P 64)).toArray.size = 64 := by simp [encs, sched_len]
  have ho3 : (encs (Value.int .u32) (sched P 64)).toArray.all (·.oneCell') = true := by simp [encs, Value.oneCell']
  have hi64 : (Try.prog.info? 121).map (·.size) = some 64 := by kernel_rfl
  obtain ⟨c1, e1⟩ : ∃ cs, (encs (Value.int .u32) S).toArray = cs := ⟨_, rfl⟩
  obtain ⟨c2, e2⟩ : ∃ cs, (encs (Value.int .u32) (compress S P)).toArray = cs := ⟨_, rfl⟩
  obtain ⟨c3, e3⟩ : ∃ cs, (encs (Value.int .u32) (sched P 64)).toArray = cs := ⟨_, rfl⟩
  rw [e1, e2]
  rw [e1] at hl1 ho1
  rw [e2] at hl2 ho2
  rw [e3] at hl3 ho3
  have H1 := Aside0.mk (And.intro hl1 (And.intro ho1 e1))
  have H2 := Aside0.mk (And.intro hl2 (And.intro ho2 e2))
  have H3 := Aside0.mk (And.intro hl3 (And.intro ho3 e3))
  have H8 := Aside0.mk (And.intro hi8 hi64)
  clear hl1 ho1 e1 hl2 ho2 e2 hl3 ho3 e3 hi8 hi64
  go_enter Try.func63, Try.ntmps63
  go_wp2_with (first | ((with_reducible refine gate_dst (N := 2) rfl ?_); refine wpList_box_abs (by rfl) 116 _ (by rfl) c1 (by rfl) ?_; intro w1 hb1 hs1 hg1) | ((with_reducible refine gate_dst (N := 4) rfl ?_); refine wpList_alloc_abs (by rfl) 116 (by rfl) (.agg Z8) (by kernel_rfl) ?_; intro w2 hb2 hs2 hg2) | fail)
  have hl1 := H1.out.1
  have FA : Fr (fun _ => False) w w2 := (Fr.of_below hb1 _).trans (Fr.of_below hb2 (fun _ => False)) (fun i h => h.elim)
  have HB := Aside0.mk ((Fr.of_below hb2 (fun _ => False)).blk hg1 (fun h => h))
  have HG := Aside0.mk hg2
  have HF := Aside0.mk FA
  clear hb1 hg1 hb2 hg2 FA hl1
  refine (schedule_calls A c P hP hB hc w2 (HF.out.C HR.out (fun i h => h.elim))).mono ?_
  rintro e w3 ⟨rfl, hb3⟩
  rw [H3.out.2.2]
  have lt3 := hb3.size
  have hB3 := (Fr.of_below hb3 (fun _ => False)).blk HB.out (fun h => h)
  have hG3 := (Fr.of_below hb3 (fun _ => False)).blk HG.out (fun h => h)
  have F3 := HF.out.trans (Fr.of_below hb3 (fun _ => False)) (fun i h => h.elim)
  clear HF HB HG hb3
  have HB := Aside0.mk hB3
  have HG := Aside0.mk hG3
  have HF := Aside0.mk F3
  clear hB3 hG3 F3
  go_wp2_with (first | ((with_reducible refine gate_dst (N := 5) rfl ?_); refine wpList_alloc_abs (by rfl) 121 (by rfl) (.agg ZT) (by kernel_rfl) ?_; intro w4 hb4 hs4 hg4) | ((with_reducible refine gate_store (p := 5) rfl ?_); refine wpList_store_abs (by rfl) 121 _ _ (by rfl) w3.heap.size c3 (by rfl) (by rfl) 121 ZT hg4 (by rw [H3.out.1]; exact H8.out.2) (by rw [H3.out.1]; exact ZT_size) H3.out.2.1 ?_; intro w5 hf5 hs5 hg5) | fail)
  have F5 := (HF.out.trans (Fr.of_below hb4 (fun _ => False)) (fun i h => h.elim)).trans hf5 (S := fun _ => False) (fun i h => .inr (by omega))
  have hB5 := hf5.blk ((Fr.of_below hb4 (fun _ => False)).blk HB.out (fun h => h)) (fun h => by omega)
  have hG5 := hf5.blk ((Fr.of_below hb4 (fun _ => False)).blk HG.out (fun h => h)) (fun h => by omega)
  clear HF HB HG hb4 hg4 hf5
  refine (K_calls w5).mono ?_
  rintro e w6 ⟨rfl, hb6⟩
  have lt6 := hb6.size
  have HB := Aside0.mk ((Fr.of_below hb6 (fun _ => False)).blk hB5 (fun h => h))
  have HG := Aside0.mk ((Fr.of_below hb6 (fun _ => False)).blk hG5 (fun h => h))
  have HW := Aside0.mk ((Fr.of_below hb6 (fun _ => False)).blk hg5 (fun h => h))
  have HF := Aside0.mk (F5.trans (Fr.of_below hb6 (fun _ => False)) (fun i h => h.elim))
  clear hB5 hG5 hg5 F5 hb6
  go_wp2_with (first | ((with_reducible refine gate_dst (N := 6) rfl ?_); refine wpList_alloc_abs (by rfl) 121 (by rfl) (.agg ZT) (by kernel_rfl) ?_; intro w7 hb7 hs7 hg7) | ((with_reducible refine gate_store (p := 6) rfl ?_); refine wpList_store_abs (by rfl) 121 _ _ (by rfl) w6.heap.size KT (by rfl) (by rfl) 121 ZT hg7 (by rw [KT_size]; exact H8.out.2) (by rw [ZT_size, KT_size]) KT_one ?_; intro w8 hf8 hs8 hg8; have HB8 := Aside0.mk (hf8.blk ((Fr.of_below hb7 (fun _ => False)).blk HB.out (fun h => h)) (fun h => by omega))) | ((with_reducible refine gate_dst (N := 21) rfl ?_); refine wpList_load_row (by rfl) 116 _ (by rfl) w.heap.size (by rfl) _ c1 _ _ HB8.out Try.underlying116 (by rfl) (by rw [H1.out.1]; exact H8.out.1) ?_) | ((with_reducible refine gate_dst (N := 7) rfl ?_); refine wpList_alloc_abs (by rfl) 116 (by rfl) (.agg Z8) (by kernel_rfl) ?_; intro w9 hb9 hs9 hg9) | ((with_reducible refine gate_store (p := 7) rfl ?_); refine wpList_store_abs (by rfl) 116 _ _ (by rfl) w8.heap.size c1 (by rfl) (by rfl) 116 Z8 hg9 (by rw [H1.out.1]; exact H8.out.1) (by rw [H1.out.1]; exact Z8_size) H1.out.2.1 ?_; intro w10 hf10 hs10 hg10) | fail)
  have F8 := (HF.out.trans (Fr.of_below hb7 (fun _ => False)) (fun i h => h.elim)).trans hf8 (S := fun _ => False) (fun i h => .inr (by omega))
  have F10 := (F8.trans (Fr.of_below hb9 (fun _ => False)) (fun i h => h.elim)).trans hf10 (S := fun _ => False) (fun i h => .inr (by omega))
  have hG8 := hf8.blk ((Fr.of_below hb7 (fun _ => False)).blk HG.out (fun h => h)) (fun h => by omega)
  have hW8 := hf8.blk ((Fr.of_below hb7 (fun _ => False)).blk HW.out (fun h => h)) (fun h => by omega)
  have hB10 := hf10.blk ((Fr.of_below hb9 (fun _ => False)).blk HB8.out (fun h => h)) (fun h => by omega)
  have hG10 := hf10.blk ((Fr.of_below hb9 (fun _ => False)).blk hG8 (fun h => h)) (fun h => by omega)
  have hW10 := hf10.blk ((Fr.of_below hb9 (fun _ => False)).blk hW8 (fun h => h)) (fun h => by omega)
  have hK10 := hf10.blk ((Fr.of_below hb9 (fun _ => False)).blk hg8 (fun h => h)) (fun h => by omega)
  rw [← H3.out.2.2] at hW10
  rw [← H1.out.2.2] at hg10 hB10
  clear HF F8 hG8 hW8 HB HG HW HB8 hb7 hg7 hf8 hg8 hb9 hg9 hf10
  have e8 : w8.heap.size = w6.heap.size + 1 := by omega
  rw [hs1] at hG10
  rw [e8] at hg10
  refine loopR w.heap.size (w.heap.size + 1) w6.heap.size w3.heap.size (w6.heap.size + 1) Ktab (sched P 64) S 121 121 w10 hS (by decide +kernel) (sched_len _ _) hK10 hW10 (by omega) (by omega) _ ?_ _ _ ⟨⟨rfl, rfl⟩, rfl, rfl, rfl, rfl, rfl, rfl, Fr.refl _ _, hg10⟩
  intro a' w11 hF j2 j4 j7 jf jv
  rw [fm113 hF, j2, j4, j7]
  have HB := Aside0.mk (jf.blk hB10 (fun h => by omega))
  have HG := Aside0.mk (jf.blk hG10 (fun h => by omega))
  have HV := Aside0.mk jv
  have HF := Aside0.mk (F10.trans jf (S := fun _ => False) (fun i h => .inr (by omega)))
  clear hB10 hG10 jv F10 jf hF j2 j4 j7 hg10 hK10 hW10
  go_wp2
  refine loopT w.heap.size (w.heap.size + 1) (w6.heap.size + 1) S (rnds Ktab (sched P 64) S 64) 116 w11 hS ((rnds_len _ _ _ _).trans hS) HV.out (by omega) _ ?_ _ _ ⟨⟨rfl, rfl⟩, rfl, rfl, rfl, rfl, Fr.refl _ _, HB.out⟩
  intro a' w12 hF j2 j4 jf js
  rw [fm113 hF, j2, j4]
  have js2 : w12.heap[w.heap.size]? = some (.cells c2 116 (0, 0)) := by rw [← H2.out.2.2]; exact js
  have HR2 := Aside0.mk js2
  have HG2 := Aside0.mk (jf.blk HG.out (fun h => by omega))
  have HF2 := Aside0.mk (HF.out.trans jf (S := fun _ => False) (fun i h => .inr (by omega)))
  clear js js2 HB HG HV HF jf hF j2 j4
  go_wp2_with (first | ((with_reducible refine gate_dst (N := 112) rfl ?_); refine wpList_load_row (by rfl) 116 _ (by rfl) w.heap.size (by rfl) _ c2 _ _ HR2.out Try.underlying116 (by rfl) (by rw [H2.out.1]; exact H8.out.1) ?_) | ((with_reducible refine gate_store (p := 4) rfl ?_); refine wpList_store_abs (by rfl) 116 _ _ (by rfl) (w.heap.size + 1) c2 (by rfl) (by rfl) 116 Z8 HG2.out (by rw [H2.out.1]; exact H8.out.1) (by rw [H2.out.1]; exact Z8_size) H2.out.2.1 ?_; intro w13 hf13 hs13 hg13) | fail)
  refine bodyPost_ret (results_cell_row (by rfl) _ _ (w.heap.size + 1) 116 c2 (0, 0) _ (by rfl) hg13 Try.underlying116 (by rfl) (by rw [H2.out.1]; exact H8.out.1)) rfl ?_
  exact ⟨rfl, (HF2.out.trans hf13 (S := fun _ => False) (fun i h => .inr (by omega))).below _ (Nat.le_refl _) (fun i h => h.elim)⟩
end Go.Proofs.Ytnabilhcmplhcaa.Sha
