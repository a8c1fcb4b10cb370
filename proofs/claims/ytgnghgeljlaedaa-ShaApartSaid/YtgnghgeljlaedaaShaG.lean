/-
  The document's schedule: the same words.
-/
import Derived.Test.YtgnghgeljlaedaaShaF
import Derived.Test.YtgnghgeljlaedaaShaE
import Derived.Test.YtgnghgeljlaedaaBys
set_option linter.unusedVariables false
set_option linter.unusedSimpArgs false
namespace Go.Proofs.Ytgnghgeljlaedaa.Sha
open Go.RowKit Go.Proofs.YtgnghgeljlaedaaW.PrintWords Go.Proofs.YtgnghgeljlaedaaW.PrintLast Go.Proofs.YtgnghgeljlaedaaW.PrintMore Go.Proofs.Ytgnghgeljlaedaa.Q Go.Proofs.Ytgnghgeljlaedaa.Fr Go.Proofs.Ytgnghgeljlaedaa.Oct

theorem wraps_u32 (n : Int) (h₀ : 0 ≤ n) (h₁ : n < 2 ^ 32) : IntKind.u32.wrap n = n := by rw [IntKind.wrap_u32]; omega
theorem word4_sum (a b c d : Int) (ha : 0 ≤ a ∧ a ≤ 255) (hb : 0 ≤ b ∧ b ≤ 255) (hc : 0 ≤ c ∧ c ≤ 255) (hd : 0 ≤ d ∧ d ≤ 255) : word4 a b c d = a * 16777216 + b * 65536 + c * 256 + d := by
  unfold word4
  rw [show a % 4294967296 * 16777216 % 4294967296 = a * 16777216 by omega, show b % 4294967296 * 65536 % 4294967296 = b * 65536 by omega, show c % 4294967296 * 256 % 4294967296 = c * 256 by omega, show d % 4294967296 = d by omega]
  rw [bits_join .u32 32 (by decide) wraps_u32 24 (a * 16777216) (b * 65536) (by omega) (by omega) (by omega) (by omega) (by omega) (by omega)]
  rw [bits_join .u32 32 (by decide) wraps_u32 16 (a * 16777216 + b * 65536) (c * 256) (by omega) (by omega) (by omega) (by omega) (by omega) (by omega)]
  rw [bits_join .u32 32 (by decide) wraps_u32 8 (a * 16777216 + b * 65536 + c * 256) d (by omega) (by omega) (by omega) (by omega) (by omega) (by omega)]
theorem word_f (l : List Int) (h4 : 4 ≤ l.length) (hB : Bys l) : catenaryref02_word.f 5 l = some (word4 (l.getD 0 0) (l.getD 1 0) (l.getD 2 0) (l.getD 3 0)) := by
  have hb : ∀ i, i < l.length → 0 ≤ l.getD i 0 ∧ l.getD i 0 ≤ 255 := fun i hi => by
    rw [List.getD_eq_getElem?_getD, List.getElem?_eq_getElem hi]
    exact hB _ (List.getElem_mem hi)
  have b0 := hb 0 (by omega)
  have b1 := hb 1 (by omega)
  have b2 := hb 2 (by omega)
  have b3 := hb 3 (by omega)
  have l0 : (0 : Int) < (l.length : Int) := by omega
  have l1 : (1 : Int) < (l.length : Int) := by omega
  have l2 : (2 : Int) < (l.length : Int) := by omega
  have l3 : (3 : Int) < (l.length : Int) := by omega
  rw [word4_sum _ _ _ _ b0 b1 b2 b3]
  have w1 : wrap64 (0 + 1) = 1 := by decide +kernel
  have w2 : wrap64 (1 + 1) = 2 := by decide +kernel
  have w3 : wrap64 (2 + 1) = 3 := by decide +kernel
  have w4 : wrap64 (3 + 1) = 4 := by decide +kernel
  unfold catenaryref02_word.f
  simp only [catenaryref02_word.l0, if_pos l0, if_pos l1, if_pos l2, if_pos l3, w1, w2, w3, w4, rd, show (0 : Int).toNat = 0 from rfl, show (1 : Int).toNat = 1 from rfl, show (2 : Int).toNat = 2 from rfl, show (3 : Int).toNat = 3 from rfl,
    if_pos (show (0 : Int) < 4 by decide), if_pos (show (1 : Int) < 4 by decide), if_pos (show (2 : Int) < 4 by decide), if_pos (show (3 : Int) < 4 by decide), if_neg (show ¬ (4 : Int) < 4 by decide),
    if_pos (show (0 : Int) ≤ 0 by decide), if_pos (show (0 : Int) ≤ 1 by decide), if_pos (show (0 : Int) ≤ 2 by decide), if_pos (show (0 : Int) ≤ 3 by decide)]
  generalize l.getD 0 0 = a at *
  generalize l.getD 1 0 = b at *
  generalize l.getD 2 0 = c at *
  generalize l.getD 3 0 = d at *
  congr 1
  omega

set_option maxHeartbeats 8000000 in
set_option maxRecDepth 100000 in
/-- The document's table. -/
theorem K_calls (w : World) : Calls Try.prog 45 #[] w fun e w' => e = .returned (.agg KT) ∧ Below w.heap.size w w' := by
  go_enter Try.func45, Try.ntmps45
  go_wp2_with (first | ((with_reducible refine gate_dst (N := 0) rfl ?_); refine wpList_alloc_abs (by rfl) 67 (by rfl) (.agg ZT) (by kernel_rfl) ?_; intro w1 hb1 hs1 hg1) | ((with_reducible refine gate_dst (N := 1) rfl ?_); refine wpList_build_abs (by rfl) 67 _ (by rfl) KT (by kernel_rfl) ?_) | ((with_reducible refine gate_store (p := 0) rfl ?_); refine wpList_store_abs (by rfl) 67 _ _ (by rfl) w.heap.size KT (by rfl) (by rfl) 67 ZT hg1 (by kernel_rfl) (by rw [ZT_size, KT_size]) KT_one ?_; intro w2 hf2 hs2 hg2))
  refine bodyPost_ret (results_cell_row (by rfl) _ _ w.heap.size 67 KT (0, 0) _ (by rfl) hg2 Try.underlying67 (by rfl) (by rw [KT_size]; kernel_rfl)) rfl ?_
  exact ⟨rfl, (Fr.of_below hb1 (fun _ => False)).trans hf2 (fun i h => .inr (by omega)) |>.below _ (Nat.le_refl _) (fun i h => h.elim)⟩

/-! ### schedule -/
def JA (A : Option Addr) (c gr gw : Nat) (P : List Int) (w0 : World) (t : Nat) (a : Act) (w : World) : Prop :=
  Fm 74 a ∧ sl a 0 = .slice A 64 c ∧ sl a 2 = .pointer (some ⟨gr, 0, none⟩) ∧ sl a 3 = .pointer (some ⟨gw, 0, none⟩) ∧ sl a 4 = .int .i64 (t : Int) ∧
    Fr (fun k => k = gw) w0 w ∧ w.heap[gw]? = some (.cells (encs (Value.int .u32) (sched P t)).toArray 67 (0, 0))
set_option maxHeartbeats 8000000 in
set_option maxRecDepth 100000 in
theorem roundA (u : Nat → Value) (A : Option Addr) (c gr gw : Nat) (P : List Int) (hP : P.length = 64) (hB : Bys P) (hc : 64 ≤ c) (t : Nat) (ht : t < 16) (w0 w : World) (W : List Int) (hW : W.length = 64) (hw : w.heap[gw]? = some (.cells (encs (Value.int .u32) W).toArray 67 (0, 0)))
    (hr : Kd.C (Kd.int .u8) w A P.length P) (hf : Fr (fun k => k = gw) w0 w)
    (Q : Exit → Act → World → Prop) (hQ : ∀ a' w', Fm 74 a' → sl a' 0 = .slice A 64 c → sl a' 2 = .pointer (some ⟨gr, 0, none⟩) → sl a' 3 = .pointer (some ⟨gw, 0, none⟩) → sl a' 4 = .int .i64 ((t : Int) + 1) → Fr (fun k => k = gw) w0 w' → w'.heap[gw]? = some (.cells (encs (Value.int .u32) (W.set t (wrd P t))).toArray 67 (0, 0)) → Q .normal a' w') :
    Code.wp Try.prog (bodyN Try.f44 0) Q ⟨#[.slice A 64 c, u 1, .pointer (some ⟨gr, 0, none⟩), .pointer (some ⟨gw, 0, none⟩), .int .i64 (t : Int), u 5, u 6, u 7, u 8, u 9, u 10, u 11, u 12, u 13, u 14, u 15, u 16, u 17, u 18, u 19, u 20, u 21, u 22, u 23, u 24, u 25, u 26, u 27, u 28, u 29, u 30, u 31, u 32, u 33, u 34, u 35, u 36, u 37, u 38, u 39, u 40, u 41, u 42, u 43, u 44, u 45, u 46, u 47, u 48, u 49, u 50, u 51, u 52, u 53, u 54, u 55, u 56, u 57, u 58, u 59, u 60, u 61, u 62, u 63, u 64, u 65, u 66, u 67, u 68, u 69, u 70, u 71, u 72, u 73], []⟩ w := by
  have hd := Kd.C_drop (m := 4 * t) (c := c) hr (by omega) (by omega)
  have hl : (P.drop (4 * t)).length = 64 - 4 * t := by rw [List.length_drop, hP]
  have hv := word_f (P.drop (4 * t)) (by omega) (hB.drop _)
  have hg : word4 ((P.drop (4 * t)).getD 0 0) ((P.drop (4 * t)).getD 1 0) ((P.drop (4 * t)).getD 2 0) ((P.drop (4 * t)).getD 3 0) = wrd P t := by
    unfold wrd
    simp only [List.getD_eq_getElem?_getD, List.getElem?_drop]
    rw [show (4 * (t : Int)).toNat = 4 * t + 0 by omega, show (4 * (t : Int) + 1).toNat = 4 * t + 1 by omega, show (4 * (t : Int) + 2).toNat = 4 * t + 2 by omega, show (4 * (t : Int) + 3).toNat = 4 * t + 3 by omega]
  rw [hg] at hv
  rw [if_neg (by omega), show 4 * t * (Kd.int .u8).sz = 4 * t from Nat.mul_one _] at hd
  have hcall := catenaryref02_word.calls 5 (A.map (·.add (4 * t))) (c - 4 * t) (P.drop (4 * t)) _ w hd (by omega) hv
  rw [hl] at hcall
  obtain ⟨i0, hi0, _, hsz, _⟩ := info_parts info5
  have hcut := cut_from (P := Try.prog) 23 5 .i64 Try.underlying23 hi0 1 hsz A 64 c (4 * (t : Int)) (by omega) (by omega)
  rw [show (4 * (t : Int)).toNat = 4 * t by omega, if_neg (by omega), Nat.mul_one] at hcut
  have HC := Aside0.mk hcall
  have HW := Aside0.mk hw
  have HF := Aside0.mk hf
  clear hcall hw hf hd hv hg hr
  conv => arg 2; whnf
  have c0 : decide ((t : Int) < 16) = true := decide_eq_true (by omega)
  have e1 : IntKind.i64.wrap (4 * (t : Int)) = 4 * (t : Int) := IntWalk.i64_in _ (by omega)
  go_wp2_with (fail)
  refine HC.out.mono ?_
  rintro e w' ⟨rfl, nd, rfl⟩
  have hw2 : (w.drewN nd).heap[gw]? = some (.cells (encs (Value.int .u32) W).toArray 67 (0, 0)) := by simpa using HW.out
  have hf2 : Fr (fun k => k = gw) w0 (w.drewN nd) := HF.out.of_drewN nd
  clear HW HF HC hcut
  generalize w.drewN nd = w3 at *
  have kt := cellV hw2 (t : Int) (by omega) (by omega)
  have ft := frozenV hw2 t
  rw [Int.toNat_natCast] at kt
  have HW := Aside0.mk hw2
  have HF := Aside0.mk hf2
  clear hw2 hf2
  have tl : (t : Int) < 64 := by omega
  go_wp2
  refine hQ _ _ ⟨rfl, rfl⟩ rfl rfl rfl ?_ ?_ ?_
  · rfl
  · exact HF.out.setCell (.inl rfl) _
  · have := heap_putV HW.out (t : Int).toNat (by omega) (wrd P t)
    simpa using this
set_option maxHeartbeats 8000000 in
set_option maxRecDepth 100000 in
theorem exitA (u : Nat → Value) (w : World) (Q : Exit → Act → World → Prop) (hQ : ∀ a', Fm 74 a' → sl a' 0 = u 0 → sl a' 2 = u 2 → sl a' 3 = u 3 → Q (.exit 0) a' w) :
    Code.wp Try.prog (bodyN Try.f44 0) Q ⟨#[u 0, u 1, u 2, u 3, .int .i64 16, u 5, u 6, u 7, u 8, u 9, u 10, u 11, u 12, u 13, u 14, u 15, u 16, u 17, u 18, u 19, u 20, u 21, u 22, u 23, u 24, u 25, u 26, u 27, u 28, u 29, u 30, u 31, u 32, u 33, u 34, u 35, u 36, u 37, u 38, u 39, u 40, u 41, u 42, u 43, u 44, u 45, u 46, u 47, u 48, u 49, u 50, u 51, u 52, u 53, u 54, u 55, u 56, u 57, u 58, u 59, u 60, u 61, u 62, u 63, u 64, u 65, u 66, u 67, u 68, u 69, u 70, u 71, u 72, u 73], []⟩ w := by
  conv => arg 2; whnf
  go_wp2
  exact hQ _ ⟨rfl, rfl⟩ rfl rfl rfl
theorem loopA (A : Option Addr) (c gr gw : Nat) (P : List Int) (hP : P.length = 64) (hB : Bys P) (hc : 64 ≤ c) (w0 : World) (hr : ∀ w, Fr (fun k => k = gw) w0 w → Kd.C (Kd.int .u8) w A P.length P)
    (Q : Exit → Act → World → Prop) (hQ : ∀ a' w', Fm 74 a' → sl a' 2 = .pointer (some ⟨gr, 0, none⟩) → sl a' 3 = .pointer (some ⟨gw, 0, none⟩) → Fr (fun k => k = gw) w0 w' → w'.heap[gw]? = some (.cells (encs (Value.int .u32) (sched P 16)).toArray 67 (0, 0)) → Q (.exit 0) a' w')
    (a : Act) (w : World) (h : JA A c gr gw P w0 0 a w) : (Code.loop (bodyN Try.f44 0)).wp Try.prog Q a w := by
  refine wp_loop_up 16 (JA A c gr gw P w0) h ?_
  rintro t a w ht ⟨hF, h0, h2, h3, h4, hf, hw⟩
  have ha := fm74 hF
  by_cases h64 : t = 16
  · subst h64
    rw [h4] at ha
    rw [ha]
    exact exitA (sl a) w _ fun a' b0 b1 b2 b3 => hQ _ _ b0 (b2.trans h2) (b3.trans h3) hf hw
  · have e1 : ((t + 1 : Nat) : Int) = (t : Int) + 1 := by omega
    rw [h0, h2, h3, h4] at ha
    rw [ha]
    refine roundA (sl a) A c gr gw P hP hB hc t (by omega) w0 w _ (sched_len P t) hw (hr w hf) hf _ ?_
    intro a' w' b0 b1 b2 b3 b4 b5 b6
    refine ⟨by omega, b0, b1, b2, b3, by rw [b4, e1], b5, ?_⟩
    rw [b6, sched, if_pos (by omega)]

/-- The second loop: the words from the sixteenth on. -/
def JB (gr gw : Nat) (P : List Int) (w0 : World) (t : Nat) (a : Act) (w : World) : Prop :=
  Fm 74 a ∧ sl a 2 = .pointer (some ⟨gr, 0, none⟩) ∧ sl a 3 = .pointer (some ⟨gw, 0, none⟩) ∧ sl a 5 = .int .i64 ((t + 16 : Nat) : Int) ∧
    Fr (fun k => k = gw) w0 w ∧ w.heap[gw]? = some (.cells (encs (Value.int .u32) (sched P (t + 16))).toArray 67 (0, 0))
set_option maxHeartbeats 8000000 in
set_option maxRecDepth 100000 in
theorem roundB (u : Nat → Value) (gr gw : Nat) (t : Int) (h16 : 16 ≤ t) (ht : t < 64) (w0 w : World) (W : List Int) (hW : W.length = 64) (hw : w.heap[gw]? = some (.cells (encs (Value.int .u32) W).toArray 67 (0, 0)))
    (hf : Fr (fun k => k = gw) w0 w)
    (Q : Exit → Act → World → Prop) (hQ : ∀ a' w', Fm 74 a' → sl a' 2 = .pointer (some ⟨gr, 0, none⟩) → sl a' 3 = .pointer (some ⟨gw, 0, none⟩) → sl a' 5 = .int .i64 (t + 1) → Fr (fun k => k = gw) w0 w' → w'.heap[gw]? = some (.cells (encs (Value.int .u32) (W.set t.toNat (sch W t))).toArray 67 (0, 0)) → Q .normal a' w') :
    Code.wp Try.prog (bodyN Try.f44 1) Q ⟨#[u 0, u 1, .pointer (some ⟨gr, 0, none⟩), .pointer (some ⟨gw, 0, none⟩), u 4, .int .i64 t, u 6, u 7, u 8, u 9, u 10, u 11, u 12, u 13, u 14, u 15, u 16, u 17, u 18, u 19, u 20, u 21, u 22, u 23, u 24, u 25, u 26, u 27, u 28, u 29, u 30, u 31, u 32, u 33, u 34, u 35, u 36, u 37, u 38, u 39, u 40, u 41, u 42, u 43, u 44, u 45, u 46, u 47, u 48, u 49, u 50, u 51, u 52, u 53, u 54, u 55, u 56, u 57, u 58, u 59, u 60, u 61, u 62, u 63, u 64, u 65, u 66, u 67, u 68, u 69, u 70, u 71, u 72, u 73], []⟩ w := by
  obtain ⟨x, hx⟩ : ∃ x, W.getD (t - 15).toNat 0 = x := ⟨_, rfl⟩
  obtain ⟨y, hy⟩ : ∃ x, W.getD (t - 2).toNat 0 = x := ⟨_, rfl⟩
  obtain ⟨x7, hx7⟩ : ∃ x, W.getD (t - 7).toNat 0 = x := ⟨_, rfl⟩
  obtain ⟨x16, hx16⟩ : ∃ x, W.getD (t - 16).toNat 0 = x := ⟨_, rfl⟩
  rw [show sch W t = (sig1 y + x7 + sig0 x + x16) % 4294967296 by rw [← hx, ← hy, ← hx7, ← hx16]; rfl] at hQ
  conv => arg 2; whnf
  have c0 := decide_eq_true ht
  go_wp2
  refine region_tail 17 (by kernel_rfl) (by kernel_rfl) ?_
  intro w3 e3
  have hw3 : w3.heap[gw]? = some (.cells (encs (Value.int .u32) W).toArray 67 (0, 0)) := by rw [e3]; exact hw
  have hf3 : Fr (fun k => k = gw) w0 w3 := by rw [e3]; exact hf.of_drew
  clear hw hf e3
  have k15 := cellV hw3 (t - 15) (by omega) (by omega)
  rw [hx] at k15
  have HW := Aside0.mk hw3
  have HF := Aside0.mk hf3
  clear hw3 hf3
  have f1 : 0 ≤ t - 15 := by omega
  have g1 : 15 ≤ t := by omega
  have f2 : t - 15 < 64 := by omega
  have e1 : IntKind.i64.wrap (t - 15) = t - 15 := IntWalk.i64_in _ (by omega)
  simp only [List.take_succ_cons, List.take_zero, List.drop_succ_cons, List.drop_zero]
  repeat (first | still_step | still_call (turn_same _ _ (by simp [turnable]) _))
  refine wpStill_nil ?_
  go_wp2
  refine region_tail 17 (by kernel_rfl) (by kernel_rfl) ?_
  intro w4 e3
  have hw3 : w4.heap[gw]? = some (.cells (encs (Value.int .u32) W).toArray 67 (0, 0)) := by rw [e3]; exact HW.out
  have hf3 : Fr (fun k => k = gw) w0 w4 := by rw [e3]; exact HF.out.of_drew
  clear HW HF e3 f1 g1 f2 e1 k15
  have k2 := cellV hw3 (t - 2) (by omega) (by omega)
  rw [hy] at k2
  have HW := Aside0.mk hw3
  have HF := Aside0.mk hf3
  clear hw3 hf3
  have f1 : 0 ≤ t - 2 := by omega
  have g1 : 2 ≤ t := by omega
  have f2 : t - 2 < 64 := by omega
  have e1 : IntKind.i64.wrap (t - 2) = t - 2 := IntWalk.i64_in _ (by omega)
  simp only [List.take_succ_cons, List.take_zero, List.drop_succ_cons, List.drop_zero]
  repeat (first | still_step | still_call (turn_same _ _ (by simp [turnable]) _))
  refine wpStill_nil ?_
  go_wp2
  refine region_tail 14 (by kernel_rfl) (by kernel_rfl) ?_
  intro w5 e3
  have hw3 : w5.heap[gw]? = some (.cells (encs (Value.int .u32) W).toArray 67 (0, 0)) := by rw [e3]; exact HW.out
  have hf3 : Fr (fun k => k = gw) w0 w5 := by rw [e3]; exact HF.out.of_drew
  clear HW HF e3 f1 g1 f2 e1 k2
  have k7 := cellV hw3 (t - 7) (by omega) (by omega)
  have k16 := cellV hw3 (t - 16) (by omega) (by omega)
  rw [hx7] at k7
  rw [hx16] at k16
  have HW := Aside0.mk hw3
  have HF := Aside0.mk hf3
  clear hw3 hf3
  have f1 : 0 ≤ t - 7 := by omega
  have g1 : 7 ≤ t := by omega
  have f2 : t - 7 < 64 := by omega
  have f3 : 0 ≤ t - 16 := by omega
  have f4 : t - 16 < 64 := by omega
  have e1 : IntKind.i64.wrap (t - 7) = t - 7 := IntWalk.i64_in _ (by omega)
  have e2 : IntKind.i64.wrap (t - 16) = t - 16 := IntWalk.i64_in _ (by omega)
  simp only [List.take_succ_cons, List.take_zero, List.drop_succ_cons, List.drop_zero]
  repeat still_step
  refine wpStill_nil ?_
  clear f1 g1 f2 f3 f4 e1 e2 k7 k16
  have f0 : 0 ≤ t := by omega
  have kt := cellV HW.out t (by omega) (by omega)
  have ft := frozenV HW.out t.toNat
  go_wp2
  refine hQ _ _ ⟨rfl, rfl⟩ rfl rfl rfl ?_ ?_
  · exact HF.out.setCell (.inl rfl) _
  · exact heap_putV HW.out _ (by omega) _
end Go.Proofs.Ytgnghgeljlaedaa.Sha
