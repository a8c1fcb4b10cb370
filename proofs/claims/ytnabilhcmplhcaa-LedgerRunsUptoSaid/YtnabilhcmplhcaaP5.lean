/- Parts of the proof of LedgerRunsUptoSaid: laid together and cut down to what LedgerRuns' proof uses (parts: Qx9, LgM1, Qx13, Qx14, Qx15, OctR). -/
import Derived.Test.YtnabilhcmplhcaaP1
import Derived.Test.YtnabilhcmplhcaaP2
import Derived.Test.YtnabilhcmplhcaaP4
import Derived.Deep.RegionHeld3
import Derived.Lib.BytesEntry
import Derived.Laws.Externs
section
/- Written by a program of this session out of the translation; Lean checks it. -/
namespace Go.Proofs.Ytnabilhcmplhcaa.Q
open Go.RowKit Go.Proofs.YtnabilhcmplhcaaW.PrintWords Go.Proofs.YtnabilhcmplhcaaW.PrintLast Go.Proofs.YtnabilhcmplhcaaW.PrintMore
attribute [local go_sem] max2_int min2_int max_two min_two max_three min_three max_four min_four   -- for this text's walks alone
set_option linter.unusedVariables false
set_option linter.unusedSimpArgs false

/-! ### slices_Clone_byte_byte: function 25 -/
def slices_Clone_byte_byte.f (l0 : List Int) : Option (List Int) := if l0.length < 140737488355328 then some l0 else none
set_option maxHeartbeats 800000 in
theorem slices_Clone_byte_byte.calls (A0 : Option Addr) (c0 : Nat) (l0 : List Int) (r : List Int) (w : World) (hr0 : Kd.C (Kd.int .u8) w A0 l0.length l0) (hc0 : l0.length ≤ c0) (h : slices_Clone_byte_byte.f l0 = some r) :
    Calls Try.prog 25 #[.slice A0 l0.length c0] w fun e w' => ∃ v0_ : Value, e = .returned (v0_) ∧ Kd.R (Kd.int .u8) 5 w' w.heap.size (fun _ => True) v0_ r ∧ Below w.heap.size w w' := by
  have HR0 := Aside0.mk hr0
  have hl : l0.length < 140737488355328 := by
    unfold slices_Clone_byte_byte.f at h
    split at h
    · assumption
    · cases h
  have hl0 := Aside0.mk hl
  obtain rfl : l0 = r := by
    unfold slices_Clone_byte_byte.f at h
    rw [if_pos hl] at h
    exact Option.some.inj h
  clear h hl hc0
  have hnil := fun (w : World) (a : Option Addr) (n c : Nat) => Lib.run_eql_slice_nil (P := Try.prog) w 29 5 a n c 0 0 Try.underlying29
  have HB := Aside0.mk (Below.refl w.heap.size w)
  cases A0 with
  | none =>
    have h0 : l0.length = 0 := by
      rcases Nat.eq_zero_or_pos l0.length with h | h
      · exact h
      · obtain ⟨ad, e, _⟩ := hr0.2.2 h
        cases e
    obtain rfl : l0 = [] := List.eq_nil_of_length_eq_zero h0
    clear hr0 HR0 h0
    go_enter Try.func25, Try.ntmps25
    go_wp2
    go_ret
    exact ⟨_, rfl, Kd.R_nil _ _ _ _ _, HB.out⟩
  | some a0 =>
    clear hr0
    go_enter Try.func25, Try.ntmps25
    go_wp2_with (first | ((with_reducible refine gate_dst (N := 5) rfl ?_); refine Kd.R_lit (Kd.int .u8) _ 5 ?hg (N := 5) ?hd (xs := ([] : List Int)) (inner := []) (ok := fun _ => True) (okp := fun _ => True) ?hr ?hp (fun _ hk => hk) trivial (Below.refl _ _) (Nat.le_refl _) (by simp) ?_; (case hd => rfl); (case hg => rfl); (case hr => first | (go_simp; done) | (go_simp; rfl)); (case hp => exact (Reps.none _ _)); intro v1 w1 ho1 hb hg_ hnew_; clear hg_ hnew_; have n0_ := Aside0.mk ho1; have n1_ := Aside0.mk hb; clear HB; have HO1 := n0_; have HB := n1_; clear n0_ n1_; clear hb ho1) | ((with_reducible refine gate_builtin (b := .append) (xs := #[.tmp 5, .tmp 6]) rfl ?_); at_builtin; refine Kd.R_append_rows (Kd.int .u8) (w0 := w) w.heap.size rfl (.tmp 5) (.tmp 6) 29 5 (.int .u8 0) 1 rfl Try.underlying29 info5 rfl (by decide) (by omega) v1 [] l0 _ _ _ (fun _ => True) (fun _ => False) rfl rfl ?aO ?aR (fun _ _ h => h) (fun _ h => h.elim) ?aF ?aB ?aS ?aL ?_; (case aR => repeat (first | exact (Kd.C_below HR0.out HB.out) | (with_reducible refine Kd.C_alloc ?_ _) | (with_reducible refine Kd.C_drewN ?_ _) | (with_reducible refine Kd.C_drew ?_))); (case aB => exact HB.out); (case aF => exact (fun _ _ => trivial)); (case aO => exact HO1.out); (case aS => exact (below_size HB.out)); (case aL => have := hl0.out; simp only [List.length_nil]; omega); intro v2 w2 ho hb hg hat; rw [List.nil_append] at ho; have n0_ := Aside0.mk (hb); have n1_ := Aside0.mk (ho); clear HB; clear HO1; have HB := n0_; have HO2 := n1_; clear n0_ n1_; clear ho hb hg hat))
    go_ret
    exact ⟨_, rfl, HO2.out, HB.out⟩

/-! ### ledger_clone: function 24 -/
def ledger_clone.f (a0_0 : Int) (a0_1 : Int) (l0_2 : List Int) (l0_3 : List Int) : Option (Int × Int × List Int × List Int) := (slices_Clone_byte_byte.f l0_2).bind fun t189 => ((slices_Clone_byte_byte.f l0_3).bind fun t192 => (some (a0_0, a0_1, t189, t192)))
def ledger_clone.T1 : Bool × List (List Nat × List Nat) := (true, [([], []), ([0], [0]), ([1], [1]), ([], []), ([3], [3]), ([4, 2], [4]), ([0, 1, 2, 3, 4], []), ([6, 2, 5, 0, 1, 2, 3, 4], [2, 6]), ([0, 1, 2, 3, 4, 5, 6, 7], []), ([8, 5, 7, 0, 1, 2, 3, 4, 5, 6, 7], [5, 8])])
def ledger_clone.B1 : List Nat := [0, 1, 3, 0, 8, 31, 31, 127, 255, 511]
theorem ledger_clone.tab1 : rtab .any (opsOf Try.f24 1) = ledger_clone.T1 := by kernel_rfl
theorem ledger_clone.bits1 : waitsOk ledger_clone.T1.2 ledger_clone.B1 = true := by kernel_rfl
set_option maxHeartbeats 8000000 in
set_option maxRecDepth 100000 in
theorem ledger_clone.calls (a0_0 : Int) (a0_1 : Int) (A0_2 : Option Addr) (c0_2 : Nat) (l0_2 : List Int) (A0_3 : Option Addr) (c0_3 : Nat) (l0_3 : List Int) (r1 : Int) (r2 : Int) (r3 : List Int) (r4 : List Int) (w : World) (hr0_2 : Kd.C (Kd.int .u8) w A0_2 l0_2.length l0_2) (hc0_2 : l0_2.length ≤ c0_2) (hr0_3 : Kd.C (Kd.int .u8) w A0_3 l0_3.length l0_3) (hc0_3 : l0_3.length ≤ c0_3) (h : ledger_clone.f a0_0 a0_1 l0_2 l0_3 = some (r1, r2, r3, r4)) :
    Calls Try.prog 24 #[.agg #[.int .i64 a0_0, .int .i64 a0_1, .slice A0_2 l0_2.length c0_2, .slice A0_3 l0_3.length c0_3]] w fun e w' => ∃ v2_ v3_ : Value, e = .returned (.agg #[.int .i64 r1, .int .i64 r2, v2_, v3_]) ∧ Kd.R (Kd.int .u8) 5 w' w.heap.size (fun k_ => some k_ ≠ (v3_ : Value).ownBlock) v2_ r3 ∧ Kd.R (Kd.int .u8) 5 w' w.heap.size (fun k_ => some k_ ≠ (v2_ : Value).ownBlock) v3_ r4 ∧ Below w.heap.size w w' := by
  have hu31 := Try.underlying31
  have HR0_2 := Aside0.mk hr0_2
  have HC0_2 := Aside0.mk hc0_2
  clear hr0_2 hc0_2
  have HR0_3 := Aside0.mk hr0_3
  have HC0_3 := Aside0.mk hc0_3
  clear hr0_3 hc0_3
  have HB := Aside0.mk (Below.refl w.heap.size w)
  have H : ((slices_Clone_byte_byte.f l0_2).bind fun t189 => ((slices_Clone_byte_byte.f l0_3).bind fun t192 => (some (a0_0, a0_1, t189, t192)))) = some (r1, r2, r3, r4) := h
  clear h
  replace H := Option.bind_eq_some_iff.mp H
  obtain ⟨t189, A20, H⟩ := H
  replace H : ((slices_Clone_byte_byte.f l0_3).bind fun t192 => (some (a0_0, a0_1, t189, t192))) = some (r1, r2, r3, r4) := H
  have A2 := Aside0.mk A20
  clear A20
  replace H := Option.bind_eq_some_iff.mp H
  obtain ⟨t192, A30, H⟩ := H
  replace H : (some (a0_0, a0_1, t189, t192)) = some (r1, r2, r3, r4) := H
  have A3 := Aside0.mk A30
  clear A30
  simp only [Option.some.injEq, Prod.mk.injEq] at H
  obtain ⟨rfl, rfl, rfl, rfl⟩ := H
  go_enter Try.func24, Try.ntmps24
  try go_wp2_with (first | ((with_reducible refine gate_dst (N := 1) rfl ?_); refine box_event ?hg (N := 1) ?hd (cs := #[.int .i64 a0_0, .int .i64 a0_1, .slice A0_2 l0_2.length c0_2, .slice A0_3 l0_3.length c0_3]) (t := 31) ?hr ?_; (case hd => rfl); (case hg => rfl); (case hr => first | (go_simp; done) | (go_simp; rfl)); intro gb187 hg w4 hbox hb; have n0_ := Aside0.mk (below_step (by repeat (first | (with_reducible first | exact HB.out | apply below_alloc | apply pw_below_drewN | apply below_drew1) | exact HB.out)) hb); have n1_ := Aside0.mk (hbox); have n2_ := Aside0.mk ((by rw [hg]; exact (below_size (by repeat (first | (with_reducible first | exact HB.out | apply below_alloc | apply pw_below_drewN | apply below_drew1) | exact HB.out))) : w.heap.size ≤ gb187)); have n3_ := Aside0.mk ((by rw [hg]; exact (below_size (by repeat (first | (with_reducible first | exact HB.out | apply below_alloc | apply pw_below_drewN | apply below_drew1) | exact HB.out))) : w.heap.size ≤ gb187)); clear HB; have HB := n0_; have BK187 := n1_; have GW187 := n2_; have GE187 := n3_; clear n0_ n1_ n2_ n3_; clear hb hbox hg) | ((with_reducible refine gate_dst (N := 2) rfl ?_); refine box_event ?hg (N := 2) ?hd (cs := #[.int .i64 0, .int .i64 0, .slice none 0 0, .slice none 0 0]) (t := 31) ?hr ?_; (case hd => rfl); (case hg => rfl); (case hr => first | (go_simp; done) | (go_simp; rfl)); intro gb188 hg w5 hbox hb; have n0_ := Aside0.mk (blk_below (g := gb187) (o := .cells #[.int .i64 a0_0, .int .i64 a0_1, .slice A0_2 l0_2.length c0_2, .slice A0_3 l0_3.length c0_3] 31 (0, 0)) (by (with_reducible repeat (first | refine blk_drewN ?_ _ | refine blk_drew ?_ | refine blk_alloc ?_ _)); exact BK187.out) hb); have n1_ := Aside0.mk (below_step (by repeat (first | (with_reducible first | exact HB.out | apply below_alloc | apply pw_below_drewN | apply below_drew1 | refine below_set ?_ GE187.out) | exact HB.out)) hb); have n2_ := Aside0.mk (hbox); have n3_ := Aside0.mk ((by rw [hg]; exact (below_size (by repeat (first | (with_reducible first | exact HB.out | apply below_alloc | apply pw_below_drewN | apply below_drew1 | refine below_set ?_ GE187.out) | exact HB.out))) : w.heap.size ≤ gb188)); have n4_ := Aside0.mk ((by rw [hg]; exact (below_size (by repeat (first | (with_reducible first | exact HB.out | apply below_alloc | apply pw_below_drewN | apply below_drew1 | refine below_set ?_ GE187.out) | exact HB.out))) : w.heap.size ≤ gb188)); have n5_ := Aside0.mk ((by rw [hg]; exact Nat.ne_of_lt (blk_lt (g := gb187) (o := .cells #[.int .i64 a0_0, .int .i64 a0_1, .slice A0_2 l0_2.length c0_2, .slice A0_3 l0_3.length c0_3] 31 (0, 0)) (by (with_reducible repeat (first | refine blk_drewN ?_ _ | refine blk_drew ?_ | refine blk_alloc ?_ _)); exact BK187.out)) : gb187 ≠ gb188)); have n6_ := Aside0.mk ((by rw [hg]; exact Nat.ne_of_gt (blk_lt (g := gb187) (o := .cells #[.int .i64 a0_0, .int .i64 a0_1, .slice A0_2 l0_2.length c0_2, .slice A0_3 l0_3.length c0_3] 31 (0, 0)) (by (with_reducible repeat (first | refine blk_drewN ?_ _ | refine blk_drew ?_ | refine blk_alloc ?_ _)); exact BK187.out)) : gb188 ≠ gb187)); clear BK187; clear HB; have BK187 := n0_; have HB := n1_; have BK188 := n2_; have GW188 := n3_; have GE188 := n4_; have NB187_188 := n5_; have NB188_187 := n6_; clear n0_ n1_ n2_ n3_ n4_ n5_ n6_; clear hb hbox hg))
  have n0_ := Aside0.mk (blk_drew BK187.out)
  have n1_ := Aside0.mk (blk_drew BK188.out)
  have n2_ := Aside0.mk (below_drew1 HB.out)
  clear BK187
  clear BK188
  clear HB
  have BK187 := n0_
  have BK188 := n1_
  have HB := n2_
  clear n0_ n1_ n2_
  refine start_ (n := 10) (S := fun w' => w'.cell? ⟨gb187, 0, none⟩ = some (.int .i64 a0_0) ∧ w'.cell? ⟨gb187, 1, none⟩ = some (.int .i64 a0_1) ∧ w'.cell? ⟨gb187, 2, none⟩ = some (.slice A0_2 l0_2.length c0_2) ∧ w'.cell? ⟨gb187, 3, none⟩ = some (.slice A0_3 l0_3.length c0_3)) (ds := [7, 9]) #[false, false, false, false, false, false, false, false, false, false] (by kernel_rfl) rfl rfl ⟨(blk_cell BK187.out 0).trans rfl, (blk_cell BK187.out 1).trans rfl, (blk_cell BK187.out 2).trans rfl, (blk_cell BK187.out 3).trans rfl⟩ (fun hHeld => ?_); refine with_tabW ledger_clone.tab1 ledger_clone.bits1 (fun HT_ HW_ => ?_)
  generalize w5.drew = w6 at BK187 BK188 HB hHeld ⊢
  refine pure_ (i := 0) (N := some 3) (v := ?_) (a' := ?_) #[true, false, false, false, false, false, false, false, false, false] rfl rfl (any_of HT_.out (by kernel_rfl)) (fun _ _ _ h => h) (Or.inl ⟨by rfl, ?_⟩) ?_ ?_
  rotate_left
  · intro w'
    go_simp
    with_reducible rfl
  rotate_left
  · simp only [Act.put, List.setIfInBounds_toArray, List.set_cons_zero, List.set_cons_succ, i64_w, i32_w]
    rfl
  refine pure_ (i := 3) (N := some 6) (v := ?_) (a' := ?_) #[true, false, false, true, false, false, false, false, false, false] rfl rfl (any_of HT_.out (by kernel_rfl)) (fun _ _ _ h => h) (Or.inl ⟨by rfl, ?_⟩) ?_ ?_
  rotate_left
  · intro w'
    go_simp
    with_reducible rfl
  rotate_left
  · simp only [Act.put, List.setIfInBounds_toArray, List.set_cons_zero, List.set_cons_succ, i64_w, i32_w]
    rfl
  refine take_ (i := 1) (N := some 4) (v := ?_) (a' := ?_) #[true, true, false, true, false, false, false, false, false, false] rfl rfl (take_ofW HT_.out HW_.out (by kernel_rfl)) (fun _ _ _ h => h) (Or.inl ⟨by rfl, ?_⟩) hHeld ?_ ?_
  rotate_left
  · rintro w' ⟨s0, s1, s2, s3⟩
    go_simp
    with_reducible rfl
  rotate_left
  · simp only [Act.put, List.setIfInBounds_toArray, List.set_cons_zero, List.set_cons_succ, i64_w, i32_w]
    rfl
  refine take_ (i := 4) (N := some 7) (v := ?_) (a' := ?_) #[true, true, false, true, true, false, false, false, false, false] rfl rfl (take_ofW HT_.out HW_.out (by kernel_rfl)) (fun _ _ _ h => h) (Or.inl ⟨by rfl, ?_⟩) hHeld ?_ ?_
  rotate_left
  · rintro w' ⟨s0, s1, s2, s3⟩
    go_simp
    with_reducible rfl
  rotate_left
  · simp only [Act.put, List.setIfInBounds_toArray, List.set_cons_zero, List.set_cons_succ, i64_w, i32_w]
    rfl
  refine one_ (i := 2) (N := some 5) #[true, true, true, true, true, false, false, false, false, false] rfl rfl (one_of HT_.out (by kernel_rfl)) (by decide) (fun K hK => ?_)
  refine goes_ Try.func25 (by kernel_rfl) rfl #[.slice A0_2 l0_2.length c0_2] (by rfl) rfl rfl (by (try simp only [List.map_toArray, List.map_cons, List.map_nil]); first | done | rfl | (simp only [List.length_drop, List.length_take]; rfl)) ?_
  with_reducible refine (slices_Clone_byte_byte.calls _ _ l0_2 t189 _ ?side1 ?side2 A2.out).mono ?_
  (case side1 => repeat (first | exact (Kd.C_below HR0_2.out HB.out) | (with_reducible refine Kd.C_alloc ?_ _) | (with_reducible refine Kd.C_drewN ?_ _) | (with_reducible refine Kd.C_drew ?_)))
  (case side2 => exact HC0_2.out)
  rintro e w7 ⟨v190, rfl, ho0, hb⟩
  refine ⟨_, rfl, ?_⟩
  have n0_ := Aside0.mk (Kd.R_lower ho0 (below_size (by repeat (first | (with_reducible first | exact HB.out | apply below_alloc | apply pw_below_drewN | apply below_drew1 | refine below_set ?_ GE187.out | refine below_set ?_ GE188.out) | exact HB.out))))
  have n1_ := Aside0.mk (blk_below (g := gb187) (o := .cells #[.int .i64 a0_0, .int .i64 a0_1, .slice A0_2 l0_2.length c0_2, .slice A0_3 l0_3.length c0_3] 31 (0, 0)) (by (with_reducible repeat (first | refine blk_drewN ?_ _ | refine blk_drew ?_ | refine blk_alloc ?_ _)); exact BK187.out) hb)
  have n2_ := Aside0.mk (blk_below (g := gb188) (o := .cells #[.int .i64 0, .int .i64 0, .slice none 0 0, .slice none 0 0] 31 (0, 0)) (by (with_reducible repeat (first | refine blk_drewN ?_ _ | refine blk_drew ?_ | refine blk_alloc ?_ _)); exact BK188.out) hb)
  have n3_ := Aside0.mk (below_step (by repeat (first | (with_reducible first | exact HB.out | apply below_alloc | apply pw_below_drewN | apply below_drew1 | refine below_set ?_ GE187.out | refine below_set ?_ GE188.out) | exact HB.out)) hb)
  clear BK187
  clear BK188
  clear HB
  have HO191 := n0_
  have BK187 := n1_
  have BK188 := n2_
  have HB := n3_
  clear n0_ n1_ n2_ n3_
  (try clear hb)
  (try clear hb2)
  (try clear hk)
  (try clear hi)
  (try clear ho0)
  refine hK.out _ _ ⟨(blk_cell BK187.out 0).trans rfl, (blk_cell BK187.out 1).trans rfl, (blk_cell BK187.out 2).trans rfl, (blk_cell BK187.out 3).trans rfl⟩ (fun hHeld => ?_)
  clear hK K
  refine norm_ (a' := ?_) ?_ ?_
  rotate_left
  · show Act.put _ (some 5) _ = _
    simp only [Act.put, List.setIfInBounds_toArray, List.set_cons_zero, List.set_cons_succ, i64_w, i32_w]
    rfl
  refine pure_ (i := 6) (N := some 9) (v := ?_) (a' := ?_) #[true, true, true, true, true, false, true, false, false, false] rfl rfl (any_of HT_.out (by kernel_rfl)) (fun _ _ _ h => h) (Or.inl ⟨by rfl, ?_⟩) ?_ ?_
  rotate_left
  · intro w'
    go_simp
    with_reducible rfl
  rotate_left
  · simp only [Act.put, List.setIfInBounds_toArray, List.set_cons_zero, List.set_cons_succ, i64_w, i32_w]
    rfl
  refine one_ (i := 5) (N := some 8) #[true, true, true, true, true, true, true, false, false, false] rfl rfl (one_of HT_.out (by kernel_rfl)) (by decide) (fun K hK => ?_)
  refine goes_ Try.func25 (by kernel_rfl) rfl #[.slice A0_3 l0_3.length c0_3] (by rfl) rfl rfl (by (try simp only [List.map_toArray, List.map_cons, List.map_nil]); first | done | rfl | (simp only [List.length_drop, List.length_take]; rfl)) ?_
  with_reducible refine (slices_Clone_byte_byte.calls _ _ l0_3 t192 _ ?side1 ?side2 A3.out).mono ?_
  (case side1 => repeat (first | exact (Kd.C_below HR0_3.out HB.out) | (with_reducible refine Kd.C_alloc ?_ _) | (with_reducible refine Kd.C_drewN ?_ _) | (with_reducible refine Kd.C_drew ?_)))
  (case side2 => exact HC0_3.out)
  rintro e w8 ⟨v193, rfl, ho0, hb⟩
  refine ⟨_, rfl, ?_⟩
  have n0_ := Aside0.mk (Kd.R_elder' (by (with_reducible repeat (first | apply Kd.R_alloc | apply Kd.R_drewN | apply Kd.R_drew)); exact HO191.out) (Kd.R_base ho0) hb)
  have n1_ := Aside0.mk (Kd.R_lower (Kd.R_new' ho0 (Kd.R_lt (by (with_reducible repeat (first | apply Kd.R_alloc | apply Kd.R_drewN | apply Kd.R_drew)); exact HO191.out))) (below_size (by repeat (first | (with_reducible first | exact HB.out | apply below_alloc | apply pw_below_drewN | apply below_drew1 | refine below_set ?_ GE187.out | refine below_set ?_ GE188.out) | exact HB.out))))
  have n2_ := Aside0.mk (blk_below (g := gb187) (o := .cells #[.int .i64 a0_0, .int .i64 a0_1, .slice A0_2 l0_2.length c0_2, .slice A0_3 l0_3.length c0_3] 31 (0, 0)) (by (with_reducible repeat (first | refine blk_drewN ?_ _ | refine blk_drew ?_ | refine blk_alloc ?_ _)); exact BK187.out) hb)
  have n3_ := Aside0.mk (blk_below (g := gb188) (o := .cells #[.int .i64 0, .int .i64 0, .slice none 0 0, .slice none 0 0] 31 (0, 0)) (by (with_reducible repeat (first | refine blk_drewN ?_ _ | refine blk_drew ?_ | refine blk_alloc ?_ _)); exact BK188.out) hb)
  have n4_ := Aside0.mk (below_step (by repeat (first | (with_reducible first | exact HB.out | apply below_alloc | apply pw_below_drewN | apply below_drew1 | refine below_set ?_ GE187.out | refine below_set ?_ GE188.out) | exact HB.out)) hb)
  clear HO191
  clear BK187
  clear BK188
  clear HB
  have HO191 := n0_
  have HO194 := n1_
  have BK187 := n2_
  have BK188 := n3_
  have HB := n4_
  clear n0_ n1_ n2_ n3_ n4_
  (try clear hb)
  (try clear hb2)
  (try clear hk)
  (try clear hi)
  (try clear ho0)
  obtain ⟨Ao9, co9, eo9⟩ := Kd.R_slice HO191.out
  (first | subst eo9 | (injection eo9 with f1_ f2_ f3_; have f4_ := f1_.symm; have f5_ := f3_.symm; clear f1_ f2_ f3_; subst f4_; subst f5_))
  obtain ⟨Ao11, co11, eo11⟩ := Kd.R_slice HO194.out
  (first | subst eo11 | (injection eo11 with f1_ f2_ f3_; have f4_ := f1_.symm; have f5_ := f3_.symm; clear f1_ f2_ f3_; subst f4_; subst f5_))
  refine hK.out _ _ ⟨(blk_cell BK187.out 0).trans rfl, (blk_cell BK187.out 1).trans rfl, (blk_cell BK187.out 2).trans rfl, (blk_cell BK187.out 3).trans rfl⟩ (fun hHeld => ?_)
  clear hK K
  refine norm_ (a' := ?_) ?_ ?_
  rotate_left
  · show Act.put _ (some 8) _ = _
    simp only [Act.put, List.setIfInBounds_toArray, List.set_cons_zero, List.set_cons_succ, i64_w, i32_w]
    rfl
  refine last_ (i := 7) (N := none) #[true, true, true, true, true, true, true, true, false, false] rfl rfl (one_of HT_.out (by kernel_rfl)) (by decide) (fun K hK => ?_)
  have hs10 : w8.cell? ⟨gb187, 2, none⟩ = some (.slice A0_2 l0_2.length c0_2) := (blk_cell BK187.out 2).trans rfl
  have hfs10 := blk_frozen BK187.out 2
  have hns10_1 := NB188_187.out
  have hms10_1 := NB187_188.out
  refine skip_ (w1 := ?_) (by rfl) rfl ?_ ?_
  rotate_left
  · go_simp
    rfl
  refine hK.out _ _ ?_
  clear hK K
  refine pure_ (i := 8) (N := some 10) (v := ?_) (a' := ?_) #[true, true, true, true, true, true, true, true, true, false] rfl rfl (any_of HT_.out (by kernel_rfl)) (fun _ _ _ h => h) (Or.inl ⟨by rfl, ?_⟩) ?_ ?_
  rotate_left
  · intro w'
    go_simp
    with_reducible rfl
  rotate_left
  · simp only [Act.put, List.setIfInBounds_toArray, List.set_cons_zero, List.set_cons_succ, i64_w, i32_w]
    rfl
  refine last_ (i := 9) (N := none) #[true, true, true, true, true, true, true, true, true, true] rfl rfl (one_of HT_.out (by kernel_rfl)) (by decide) (fun K hK => ?_)
  have hs12 : w8.cell? ⟨gb187, 3, none⟩ = some (.slice A0_3 l0_3.length c0_3) := (blk_cell BK187.out 3).trans rfl
  have hfs12 := blk_frozen BK187.out 3
  have hns12_1 := NB188_187.out
  have hms12_1 := NB187_188.out
  refine skip_ (w1 := ?_) (by rfl) rfl ?_ ?_
  rotate_left
  · go_simp
    rfl
  refine hK.out _ _ ?_
  clear hK K
  refine done_ (done_of HT_.out (by kernel_rfl)) ?_
  have hnb13 := NB187_188.out
  have hnc13 := NB188_187.out
  have hcz14_0 : w8.cell? ⟨gb187, 0, none⟩ = some (.int .i64 a0_0) := (blk_cell BK187.out 0).trans rfl
  have hcz14_1 : w8.cell? ⟨gb187, 1, none⟩ = some (.int .i64 a0_1) := (blk_cell BK187.out 1).trans rfl
  have hcz14_2 : w8.cell? ⟨gb187, 2, none⟩ = some (.slice A0_2 l0_2.length c0_2) := (blk_cell BK187.out 2).trans rfl
  have hcz14_3 : w8.cell? ⟨gb187, 3, none⟩ = some (.slice A0_3 l0_3.length c0_3) := (blk_cell BK187.out 3).trans rfl
  have hfz14_0 := blk_frozen BK187.out 0
  have hfz14_1 := blk_frozen BK187.out 1
  have hfz14_2 := blk_frozen BK187.out 2
  have hfz14_3 := blk_frozen BK187.out 3
  have hcz15_0 : w8.cell? ⟨gb188, 0, none⟩ = some (.int .i64 0) := (blk_cell BK188.out 0).trans rfl
  have hcz15_1 : w8.cell? ⟨gb188, 1, none⟩ = some (.int .i64 0) := (blk_cell BK188.out 1).trans rfl
  have hcz15_2 : w8.cell? ⟨gb188, 2, none⟩ = some (.slice none 0 0) := (blk_cell BK188.out 2).trans rfl
  have hcz15_3 : w8.cell? ⟨gb188, 3, none⟩ = some (.slice none 0 0) := (blk_cell BK188.out 3).trans rfl
  have hfz15_0 := blk_frozen BK188.out 0
  have hfz15_1 := blk_frozen BK188.out 1
  have hfz15_2 := blk_frozen BK188.out 2
  have hfz15_3 := blk_frozen BK188.out 3
  try go_wp2
  refine bodyPost_ret (results_cell_row rfl _ _ gb188 31 #[.int .i64 a0_0, .int .i64 a0_1, .slice Ao9 t189.length co9, .slice Ao11 t192.length co11] (0, 0) _ rfl (by (with_reducible repeat (first | refine blk_drewN ?_ _ | refine blk_drew ?_ | refine blk_alloc ?_ _)); refine blk_put (cs := #[.int .i64 a0_0, .int .i64 a0_1, .slice Ao9 t189.length co9, .slice none 0 0]) ?_ 3 _ rfl; (with_reducible repeat (first | refine blk_drewN ?_ _ | refine blk_drew ?_ | refine blk_alloc ?_ _)); refine blk_put (cs := #[.int .i64 a0_0, .int .i64 a0_1, .slice none 0 0, .slice none 0 0]) ?_ 2 _ rfl; (with_reducible repeat (first | refine blk_drewN ?_ _ | refine blk_drew ?_ | refine blk_alloc ?_ _)); refine blk_put (cs := #[.int .i64 a0_0, .int .i64 0, .slice none 0 0, .slice none 0 0]) ?_ 1 _ rfl; (with_reducible repeat (first | refine blk_drewN ?_ _ | refine blk_drew ?_ | refine blk_alloc ?_ _)); refine blk_put (cs := #[.int .i64 0, .int .i64 0, .slice none 0 0, .slice none 0 0]) ?_ 0 _ rfl; (with_reducible repeat (first | refine blk_drewN ?_ _ | refine blk_drew ?_ | refine blk_alloc ?_ _)); refine blk_far ?_ NB188_187.out _; (with_reducible repeat (first | refine blk_drewN ?_ _ | refine blk_drew ?_ | refine blk_alloc ?_ _)); refine blk_far ?_ NB188_187.out _; (with_reducible repeat (first | refine blk_drewN ?_ _ | refine blk_drew ?_ | refine blk_alloc ?_ _)); exact BK188.out) Try.underlying31 rfl (by kernel_rfl)) rfl ?_
  exact ⟨_, _, by first | rfl | (simp [errW_none, errW_some] <;> rfl) | (simp [*, errW_none, errW_some] <;> rfl), by (with_reducible repeat (first | apply Kd.R_alloc | apply Kd.R_drewN | apply Kd.R_drew)); exact Kd.R_mono (Kd.R_far (p := ⟨gb188, 3, none⟩) (Kd.R_far (p := ⟨gb188, 2, none⟩) (Kd.R_far (p := ⟨gb188, 1, none⟩) (Kd.R_far (p := ⟨gb188, 0, none⟩) (Kd.R_far (p := ⟨gb187, 3, none⟩) (Kd.R_far (p := ⟨gb187, 2, none⟩) (Kd.R_types (Kd.R_types HO191.out BK187.out (by decide)) BK188.out (by decide)) (fun _ hk => hk.1.2) (.slice Ao9 t189.length co9)) (fun _ hk => hk.1.2) (.slice Ao11 t192.length co11)) (fun _ hk => hk.2) (.int .i64 a0_0)) (fun _ hk => hk.2) (.int .i64 a0_1)) (fun _ hk => hk.2) (.slice Ao9 t189.length co9)) (fun _ hk => hk.2) (.slice Ao11 t192.length co11)) (fun _ hk => hk.1.1.2), by (with_reducible repeat (first | apply Kd.R_alloc | apply Kd.R_drewN | apply Kd.R_drew)); exact Kd.R_mono (Kd.R_far (p := ⟨gb188, 3, none⟩) (Kd.R_far (p := ⟨gb188, 2, none⟩) (Kd.R_far (p := ⟨gb188, 1, none⟩) (Kd.R_far (p := ⟨gb188, 0, none⟩) (Kd.R_far (p := ⟨gb187, 3, none⟩) (Kd.R_far (p := ⟨gb187, 2, none⟩) (Kd.R_types (Kd.R_types HO194.out BK187.out (by decide)) BK188.out (by decide)) (fun _ hk => hk.1.2) (.slice Ao9 t189.length co9)) (fun _ hk => hk.1.2) (.slice Ao11 t192.length co11)) (fun _ hk => hk.2) (.int .i64 a0_0)) (fun _ hk => hk.2) (.int .i64 a0_1)) (fun _ hk => hk.2) (.slice Ao9 t189.length co9)) (fun _ hk => hk.2) (.slice Ao11 t192.length co11)) (fun _ hk => hk.1.1.2), by repeat (first | (with_reducible first | exact HB.out | apply below_alloc | apply pw_below_drewN | apply below_drew1 | refine below_set ?_ GE187.out | refine below_set ?_ GE188.out) | exact HB.out)⟩

-- NOT PRINTED: function 50 (bytealg_Compare)

-- NOT PRINTED: function 39 (bytes_Compare)

-- NOT PRINTED: function 27 (ledger_evidence)

-- NOT PRINTED: function 12 (ledger_Ledger_Note)

-- NOT PRINTED: function 17 (ledger_Ledger_Len)

-- NOT PRINTED: function 44 (vote_signed_sign)

-- NOT PRINTED: function 35 (vote_Make)

-- NOT PRINTED: function 19 (catenarylaw15_made)

-- NOT PRINTED: function 8 (catenarylaw15_ledgerAlive)

-- NOT PRINTED: function 22 (ledger_seen)

-- NOT PRINTED: function 10 (ledger_Ledger_Cut)

end Go.Proofs.Ytnabilhcmplhcaa.Q
end
section
/- Parts of one work, laid together: LdP, LdV, LdE. -/
/-
  A request's bytes, a vote's texts: what they are, in plain words.
-/
set_option linter.unusedVariables false
set_option linter.unusedSimpArgs false
namespace Go.Proofs.Ytnabilhcmplhcaa.Oct
open Go.RowKit Go.Proofs.YtnabilhcmplhcaaW.PrintWords Go.Proofs.YtnabilhcmplhcaaW.PrintLast Go.Proofs.YtnabilhcmplhcaaW.PrintMore Go.Proofs.Ytnabilhcmplhcaa.Q

/-- A number's eight bytes, the low one first. -/
def le8 (n : Int) : List Int := [shr .i64 n 0 % 256, shr .i64 n 8 % 256, shr .i64 n 16 % 256, shr .i64 n 24 % 256, shr .i64 n 32 % 256, shr .i64 n 40 % 256, shr .i64 n 48 % 256, shr .i64 n 56 % 256]
theorem le8_len (n : Int) : (le8 n).length = 8 := rfl
theorem le8_bys (n : Int) : Bys (le8 n) := fun x hx => by
  simp only [le8, List.mem_cons, List.mem_nil_iff, or_false] at hx
  rcases hx with h | h | h | h | h | h | h | h <;> (subst h; omega)
theorem nums_one (k : Nat) (acc : List Int) (n : Int) (l : List Int) (m i : Int) (h : acc.length + 8 ≤ 140737488355327) :
    vote_nums.l1 (k + 9) acc n l m i 0 = vote_nums.l0 k (acc ++ le8 n) l m (wrap64 (i + 1)) := by
  rw [vote_nums.l1, if_pos (by decide +kernel), if_pos (by decide +kernel), if_pos (by omega)]
  rw [vote_nums.l1, if_pos (by decide +kernel), if_pos (by decide +kernel), if_pos (by simp only [List.length_append, List.length_singleton]; omega)]
  rw [vote_nums.l1, if_pos (by decide +kernel), if_pos (by decide +kernel), if_pos (by simp only [List.length_append, List.length_singleton]; omega)]
  rw [vote_nums.l1, if_pos (by decide +kernel), if_pos (by decide +kernel), if_pos (by simp only [List.length_append, List.length_singleton]; omega)]
  rw [vote_nums.l1, if_pos (by decide +kernel), if_pos (by decide +kernel), if_pos (by simp only [List.length_append, List.length_singleton]; omega)]
  rw [vote_nums.l1, if_pos (by decide +kernel), if_pos (by decide +kernel), if_pos (by simp only [List.length_append, List.length_singleton]; omega)]
  rw [vote_nums.l1, if_pos (by decide +kernel), if_pos (by decide +kernel), if_pos (by simp only [List.length_append, List.length_singleton]; omega)]
  rw [vote_nums.l1, if_pos (by decide +kernel), if_pos (by decide +kernel), if_pos (by simp only [List.length_append, List.length_singleton]; omega)]
  rw [vote_nums.l1, if_neg (by decide +kernel)]
  simp only [List.append_assoc, List.cons_append, List.nil_append, show wrap64 (0 + 1) = 1 by decide +kernel, show wrap64 (1 + 1) = 2 by decide +kernel, show wrap64 (2 + 1) = 3 by decide +kernel, show wrap64 (3 + 1) = 4 by decide +kernel, show wrap64 (4 + 1) = 5 by decide +kernel, show wrap64 (5 + 1) = 6 by decide +kernel, show wrap64 (6 + 1) = 7 by decide +kernel, show wrap64 (7 + 1) = 8 by decide +kernel, show wrap64 (8 * 0) = 0 by decide +kernel, show wrap64 (8 * 1) = 8 by decide +kernel, show wrap64 (8 * 2) = 16 by decide +kernel, show wrap64 (8 * 3) = 24 by decide +kernel, show wrap64 (8 * 4) = 32 by decide +kernel, show wrap64 (8 * 5) = 40 by decide +kernel, show wrap64 (8 * 6) = 48 by decide +kernel, show wrap64 (8 * 7) = 56 by decide +kernel]
  rfl
theorem nums_loop (l : List Int) (hl : l.length ≤ 1000) (d : Nat) : ∀ (k i : Nat) (acc : List Int), i + d = l.length → 10 * d < k → acc.length ≤ 8 * i →
    vote_nums.l0 k acc l (l.length : Int) (i : Int) = some (acc ++ (l.drop i).flatMap le8) := by
  induction d with
  | zero =>
    intro k i acc h1 h2 h3
    obtain ⟨k, rfl⟩ : ∃ k', k = k' + 1 := ⟨k - 1, by omega⟩
    rw [vote_nums.l0, if_neg (by omega), List.drop_of_length_le (by omega)]
    simp
  | succ d ih =>
    intro k i acc h1 h2 h3
    obtain ⟨k, rfl⟩ : ∃ k', k = k' + 1 + 9 := ⟨k - 10, by omega⟩
    rw [show k + 1 + 9 = (k + 9) + 1 from rfl, vote_nums.l0, if_pos (by omega), if_pos (by omega), if_pos (by omega), nums_one k acc _ l _ _ (by omega)]
    rw [show wrap64 ((i : Int) + 1) = ((i + 1 : Nat) : Int) by unfold wrap64; omega]
    rw [ih k (i + 1) _ (by omega) (by omega) (by rw [List.length_append, le8_len]; omega)]
    rw [List.append_assoc, List.drop_eq_getElem_cons (show i < l.length by omega), List.flatMap_cons]
    congr 3
    simp [rd, List.getD_eq_getElem?_getD, List.getElem?_eq_getElem (show i < l.length by omega)]
theorem nums_f (l : List Int) (hl : l.length ≤ 1000) (k : Nat) (hk : 10 * l.length < k) : vote_nums.f k l = some (l.flatMap le8) := by
  have := nums_loop l hl l.length k 0 [] (by omega) hk (by simp)
  simpa [vote_nums.f] using this
/-- A request's bytes. -/
def bodyA (c s : Int) (op sig : List Int) : List Int := le8 c ++ le8 s ++ bytesA op ++ bytesA sig
theorem bodyA_len (c s : Int) (op sig : List Int) : (bodyA c s op sig).length ≤ op.length + sig.length + 26 := by
  have h1 := (bytesA_len op).1
  have h2 := (bytesA_len sig).1
  unfold bodyA
  simp only [List.length_append, le8_len]
  omega
theorem bodyA_bys {c s : Int} {op sig : List Int} (h : Bys op) (h2 : Bys sig) : Bys (bodyA c s op sig) := (((le8_bys c).append (le8_bys s)).append (bytesA_bys h)).append (bytesA_bys h2)
theorem body_one (k : Nat) (acc : List Int) (n : Int) (l : List Int) (m i c s : Int) (op sig : List Int) (h : acc.length + 8 ≤ 140737488355327) :
    msg_Body.l1 (k + 9) acc n l m i 0 c s op sig = msg_Body.l0 k (acc ++ le8 n) l m (wrap64 (i + 1)) c s op sig := by
  rw [msg_Body.l1, if_pos (by decide +kernel), if_pos (by decide +kernel), if_pos (by omega)]
  rw [msg_Body.l1, if_pos (by decide +kernel), if_pos (by decide +kernel), if_pos (by simp only [List.length_append, List.length_singleton]; omega)]
  rw [msg_Body.l1, if_pos (by decide +kernel), if_pos (by decide +kernel), if_pos (by simp only [List.length_append, List.length_singleton]; omega)]
  rw [msg_Body.l1, if_pos (by decide +kernel), if_pos (by decide +kernel), if_pos (by simp only [List.length_append, List.length_singleton]; omega)]
  rw [msg_Body.l1, if_pos (by decide +kernel), if_pos (by decide +kernel), if_pos (by simp only [List.length_append, List.length_singleton]; omega)]
  rw [msg_Body.l1, if_pos (by decide +kernel), if_pos (by decide +kernel), if_pos (by simp only [List.length_append, List.length_singleton]; omega)]
  rw [msg_Body.l1, if_pos (by decide +kernel), if_pos (by decide +kernel), if_pos (by simp only [List.length_append, List.length_singleton]; omega)]
  rw [msg_Body.l1, if_pos (by decide +kernel), if_pos (by decide +kernel), if_pos (by simp only [List.length_append, List.length_singleton]; omega)]
  rw [msg_Body.l1, if_neg (by decide +kernel)]
  simp only [List.append_assoc, List.cons_append, List.nil_append, show wrap64 (0 + 1) = 1 by decide +kernel, show wrap64 (1 + 1) = 2 by decide +kernel, show wrap64 (2 + 1) = 3 by decide +kernel, show wrap64 (3 + 1) = 4 by decide +kernel, show wrap64 (4 + 1) = 5 by decide +kernel, show wrap64 (5 + 1) = 6 by decide +kernel, show wrap64 (6 + 1) = 7 by decide +kernel, show wrap64 (7 + 1) = 8 by decide +kernel, show wrap64 (8 * 0) = 0 by decide +kernel, show wrap64 (8 * 1) = 8 by decide +kernel, show wrap64 (8 * 2) = 16 by decide +kernel, show wrap64 (8 * 3) = 24 by decide +kernel, show wrap64 (8 * 4) = 32 by decide +kernel, show wrap64 (8 * 5) = 40 by decide +kernel, show wrap64 (8 * 6) = 48 by decide +kernel, show wrap64 (8 * 7) = 56 by decide +kernel]
  rfl
theorem body_f (c s : Int) (op sig : List Int) (ho : op.length ≤ 1048576) (hs : sig.length ≤ 1048576) (k : Nat) (hk : 40 ≤ k) : msg_Body.f k c s op sig = some (bodyA c s op sig) := by
  obtain ⟨k, rfl⟩ : ∃ j, k = j + 1 + 9 + 1 + 9 + 1 := ⟨k - 21, by omega⟩
  unfold msg_Body.f
  rw [Option.bind_some, show (([c, s] : List Int).length : Int) = 2 from rfl, show (0 : Int) = 0 from rfl]
  rw [msg_Body.l0, if_pos (by decide +kernel), if_pos (by decide +kernel), if_pos (show (0 : Int) < (([c, s] : List Int).length : Int) from (by show (0 : Int) < 2; decide)), body_one _ _ _ _ _ _ _ _ _ _ (by simp)]
  rw [show wrap64 (0 + 1) = 1 by decide +kernel]
  rw [msg_Body.l0, if_pos (by decide +kernel), if_pos (by decide +kernel), if_pos (show (1 : Int) < (([c, s] : List Int).length : Int) from (by show (1 : Int) < 2; decide)), body_one _ _ _ _ _ _ _ _ _ _ (by simp only [List.length_append, le8_len, List.length_nil]; omega)]
  rw [msg_Body.l0, if_neg (by decide +kernel), bytes_f op (by omega) k (by omega), Option.bind_some]
  have h1 := (bytesA_len op).1
  have h2 := (bytesA_len sig).1
  rw [if_pos (by simp only [List.length_append, le8_len, List.length_nil]; omega), Option.bind_some, bytes_f sig (by omega) k (by omega), Option.bind_some, if_pos (by simp only [List.length_append, le8_len, List.length_nil]; omega)]
  simp only [List.nil_append]
  rfl
/-- Which key a replica signs with. -/
def repK (i : Int) : Int := if i < 0 then -1 else if i > 15 then -1 else i
theorem rep_f (i : Int) : key_Replica.f i = some (repK i) := by
  unfold key_Replica.f repK
  (repeat' split) <;> rfl
def voteS : ByteArray := ⟨#[118, 111, 116, 101]⟩
/-- The texts that a vote signs. -/
def partsA (kind view turn slot : Int) (body : List Int) : List (List Int) := [[kind, view, turn, slot].flatMap le8, body]
theorem voted_f (kind view turn slot : Int) (body : List Int) (signer : Int) (k : Nat) (hk : 41 ≤ k) : vote_voted.f k kind view turn slot body signer = some (repK signer, voteS, partsA kind view turn slot body) := by
  unfold vote_voted.f
  rw [rep_f, Option.bind_some, nums_f _ (by simp) k (by simp; omega), Option.bind_some]
  rfl
theorem partsA_bys {kind view turn slot : Int} {body : List Int} (h : Bys body) : ∀ x ∈ partsA kind view turn slot body, Bys x := fun x hx => by
  simp only [partsA, List.mem_cons, List.mem_nil_iff, or_false] at hx
  rcases hx with rfl | rfl
  · exact ((le8_bys _).append ((le8_bys _).append ((le8_bys _).append ((le8_bys _).append Bys.nil))))
  · exact h
theorem partsA_sz (kind view turn slot : Int) (body : List Int) : szL (partsA kind view turn slot body) = body.length + 34 := by
  simp only [partsA, szL_cons, List.flatMap_cons, List.flatMap_nil, List.length_append, le8_len, List.length_nil]
  simp only [szL, List.map_nil, List.sum_nil]
  omega
end Go.Proofs.Ytnabilhcmplhcaa.Oct

/-
  Votes: how they are made, and whether they are right.
-/
set_option linter.unusedVariables false
set_option linter.unusedSimpArgs false
namespace Go.Proofs.Ytnabilhcmplhcaa.Sha
open Go.RowKit Go.Proofs.YtnabilhcmplhcaaW.PrintWords Go.Proofs.YtnabilhcmplhcaaW.PrintLast Go.Proofs.YtnabilhcmplhcaaW.PrintMore Go.Proofs.Ytnabilhcmplhcaa.Q Go.Proofs.Ytnabilhcmplhcaa.Fr Go.Proofs.Ytnabilhcmplhcaa.Oct

theorem Rd.V {w : World} {A : Option Addr} {ys : List Int} {c e base : Nat} (h : Rd w A ys) (hc : ys.length ≤ c) (hl : ys.length ≤ 9223372036854775807) : Kd.V (Kd.int .u8) e w base (fun _ => True) (.slice A ys.length c) ys :=
  Kd.V_mk hc (fun W' hm => Rd.C (fun j u hu => by
    obtain ⟨ad, e, hcell⟩ := h j u hu
    exact ⟨ad, e, (World.cell?_of_block (hm (ad.add j).block trivial (World.block_lt_of_cell? w _ hcell))).trans hcell⟩) hl)
/-- A step of a region that draws: a whole struct is stored at the head of a block. -/
theorem wp_store_abs {P : Program} {o : Oper} {a : Act} {w : World} {K : Act → World → Prop} {Q : Exit → Act → World → Prop} (ty : TypeId) (x y : Operand) (ho : o.op = .store ty x y)
    (g : Nat) (cells : Array Value) (hx : a.eval x = .pointer (some ⟨g, 0, none⟩)) (hy : a.eval y = .agg cells)
    (t : TypeId) (old : Array Value) (hg : w.heap[g]? = some (.cells old t (0, 0))) (hi : (P.info? ty).map (·.size) = some cells.size)
    (hold : old.size = cells.size) (h1 : cells.all (·.oneCell') = true)
    (h : ∀ w1, Fr (fun k => k = g) w w1 → w1.heap.size = w.heap.size → w1.heap[g]? = some (.cells cells t (0, 0)) → K (a.put o.dst undef) w1) : o.wp P a w K Q :=
  wp_store_row ty x y ho g cells hx hy t old hg hi hold h1 (h _ ⟨rfl, rfl, rfl, by simp [World.setRow], fun k _ hk => setRow_other w g k _ (fun e => hk e)⟩ (by simp [World.setRow]) (setRow_heap w g old cells t (0, 0) hg))
theorem frB {w w' : World} (h : Fr (fun _ => False) w w') : Below w.heap.size w w' := h.below _ (Nat.le_refl _) (fun i h => h.elim)
theorem Rd.lies {w : World} {A : Option Addr} {ys : List Int} (h : Rd w A ys) {w' : World} (hf : Fr (fun _ => False) w w') : Rd w' A ys := h.fr hf (fun _ _ e => e)

theorem voted_calls (kind view turn slot : Int) (A : Option Addr) (c : Nat) (body : List Int) (signer : Int) (w : World) (hr : Rd w A body) (hc : body.length ≤ c) (hl : body.length ≤ 9223372036854775807) :
    Calls Try.prog 36 #[.int .i64 kind, .agg #[.int .i64 view, .int .i64 turn], .int .i64 slot, .slice A body.length c, .int .i64 signer] w fun e w' => ∃ A c, e = .returned (.agg #[.int .i64 (repK signer), .string voteS, .slice A (partsA kind view turn slot body).length c]) ∧ (partsA kind view turn slot body).length ≤ c ∧ CC w' A (partsA kind view turn slot body) ∧ Below w.heap.size w w' := by
  refine (vote_voted.calls 41 kind view turn slot (fun _ => True) A c body signer _ _ _ w (hr.V hc hl) (voted_f kind view turn slot body signer 41 (Nat.le_refl _))).mono ?_
  rintro e w' ⟨v, rfl, hN, hb⟩
  obtain ⟨A2, c2, rfl, hc2, hF⟩ := Kd.N_V (base' := w.heap.size) hN
  exact ⟨A2, c2, rfl, hc2, (Kd.V_reads' (Kd.N_V (base' := w.heap.size) hN)).2.2, hb⟩
set_option maxHeartbeats 8000000 in
set_option maxRecDepth 100000 in
theorem ssign_calls (k : Int) (dom : ByteArray) (A : Option Addr) (c : Nat) (l : List (List Int)) (w : World) (hC : CC w A l) (hc : l.length ≤ c) (hs : szL l + dom.size ≤ 2097000) :
    Calls Try.prog 44 #[.agg #[.int .i64 k, .string dom, .slice A l.length c]] w fun e w' => ∃ v : Value, e = .returned v ∧ OB w' w.heap.size v (sgA k dom l) ∧ Below w.heap.size w w' := by
  have HC := Aside0.mk (And.intro hC hs)
  have hb1 := below_alloc (Below.refl w.heap.size w) (.cells #[.int .i64 k, .string dom, .slice A l.length c] 88)
  have hg1 := heap_alloc_new w (.cells #[.int .i64 k, .string dom, .slice A l.length c] 88)
  have HB := Aside0.mk hb1
  clear hC hs hb1 hg1
  go_enter Try.func44, Try.ntmps44
  go_wp2_with (fail)
  have f1 := Fr.of_below HB.out (fun _ => False)
  refine (sign_calls k dom A c l _ (HC.out.1.fr f1) hc HC.out.2).mono ?_
  rintro e w2 ⟨v, rfl, hO, hb⟩
  have H2 := Aside0.mk (And.intro (hO.lower f1.size) (f1.trans (Fr.of_below hb (fun _ => False)) (fun _ h => h.elim)))
  clear hO hb f1 HB
  go_wp2
  go_ret
  exact ⟨v, rfl, H2.out.1, frB H2.out.2⟩
set_option maxHeartbeats 8000000 in
set_option maxRecDepth 100000 in
theorem sverify_calls (k : Int) (dom : ByteArray) (As : Option Addr) (cs : Nat) (s : List Int) (A : Option Addr) (c : Nat) (l : List (List Int)) (w : World) (hS : Rd w As s) (hcs : s.length ≤ cs) (hsl : s.length ≤ 9223372036854775807) (hsb : Bys s) (hC : CC w A l) (hc : l.length ≤ c) (hs : szL l + dom.size ≤ 2097000) :
    Calls Try.prog 37 #[.agg #[.int .i64 k, .string dom, .slice A l.length c], .slice As s.length cs] w fun e w' => e = .returned (.bool (decide (0 ≤ k ∧ k ≤ 127) && decide (s = sgA k dom l))) ∧ Below w.heap.size w w' := by
  have HC := Aside0.mk (And.intro hC (And.intro hs (And.intro hS (And.intro hsl hsb))))
  have HB := Aside0.mk (below_alloc (Below.refl w.heap.size w) (.cells #[.int .i64 k, .string dom, .slice A l.length c] 88))
  clear hC hs hS hsl hsb
  obtain ⟨bb, hbb⟩ : ∃ bb, (decide (0 ≤ k ∧ k ≤ 127) && decide (s = sgA k dom l)) = bb := ⟨_, rfl⟩
  rw [hbb]
  go_enter Try.func37, Try.ntmps37
  go_wp2_with (fail)
  have f1 := Fr.of_below HB.out (fun _ => False)
  have hv := verify_calls k dom As cs s A c l _ (HC.out.2.2.1.lies f1) hcs HC.out.2.2.2.1 HC.out.2.2.2.2 (HC.out.1.fr f1) hc HC.out.2.1
  rw [hbb] at hv
  refine hv.mono ?_
  clear hv hbb
  rintro e w2 ⟨rfl, hb⟩
  have H2 := Aside0.mk (f1.trans (Fr.of_below hb (fun _ => False)) (fun _ h => h.elim))
  clear hb f1 HB
  go_wp2
  go_ret
  exact ⟨rfl, frB H2.out⟩
/-- A vote's signature. -/
def vsA (kind view turn slot : Int) (body : List Int) (signer : Int) : List Int := sgA (repK signer) voteS (partsA kind view turn slot body)
/-- Is it right? -/
def vrA (kind view turn slot : Int) (body : List Int) (signer : Int) (sig : List Int) : Bool := decide (0 ≤ repK signer ∧ repK signer ≤ 127) && decide (sig = vsA kind view turn slot body signer)
def Z2v : Array Value := #[.int .i64 0, .slice none 0 0]
set_option maxHeartbeats 8000000 in
set_option maxRecDepth 100000 in
theorem make_calls (kind view turn slot : Int) (A : Option Addr) (c : Nat) (body : List Int) (signer : Int) (w : World) (hr : Rd w A body) (hc : body.length ≤ c) (hl : body.length ≤ 2000000) :
    Calls Try.prog 35 #[.int .i64 kind, .agg #[.int .i64 view, .int .i64 turn], .int .i64 slot, .slice A body.length c, .int .i64 signer] w fun e w' => ∃ A2 c2, e = .returned (.agg #[.int .i64 signer, .slice A2 (vsA kind view turn slot body signer).length c2]) ∧ (vsA kind view turn slot body signer).length ≤ c2 ∧ OB w' w.heap.size (.slice A2 (vsA kind view turn slot body signer).length c2) (vsA kind view turn slot body signer) ∧ Below w.heap.size w w' := by
  have HR := Aside0.mk (And.intro hr hl)
  have HB := Aside0.mk (below_alloc (Below.refl w.heap.size w) (.cells #[.int .i64 view, .int .i64 turn] 28))
  clear hr hl
  obtain ⟨sg, hsg⟩ : ∃ s, vsA kind view turn slot body signer = s := ⟨_, rfl⟩
  rw [hsg]
  go_enter Try.func35, Try.ntmps35
  go_wp2_with (first | ((with_reducible refine gate_dst (N := 10) rfl ?_); refine wpList_alloc_abs (by rfl) 55 (by rfl) (.agg Z2v) (by kernel_rfl) ?_; intro w2 hb2 hs2 hg2; (with_reducible refine Aside0.out ?_)))
  refine ⟨?_⟩
  have hg1 := heap_alloc_new w (.cells #[.int .i64 view, .int .i64 turn] 28)
  have hb1 := below_alloc (Below.refl w.heap.size w) (.cells #[.int .i64 view, .int .i64 turn] 28)
  have z1 : (w.alloc (.cells #[.int .i64 view, .int .i64 turn] 28)).heap.size = w.heap.size + 1 := by rw [World.size_alloc]
  generalize w.alloc (.cells #[.int .i64 view, .int .i64 turn] 28) = w1 at *
  have f2 := Fr.of_below hb2 (fun _ => False)
  have F2 := (Fr.of_below hb1 (fun _ => False)).trans f2 (fun _ h => h.elim)
  have hg12 := f2.blk hg1 (fun h => h)
  rw [z1] at hg2 hs2
  have k : w2.cell? ⟨w.heap.size, 0, none⟩ = some (.int .i64 view) ∧ w2.cell? ⟨w.heap.size, 1, none⟩ = some (.int .i64 turn) := by simp [World.cell?, hg12]
  obtain ⟨k0, k1⟩ := k
  have HN := Aside0.mk (And.intro F2 (And.intro hs2 hg2))
  clear hb1 hb2 hg1 hg2 f2 F2 hg12 hs2 HB
  go_wp2_with (fail)
  refine (voted_calls kind view turn slot A c body signer w2 (HR.out.1.lies HN.out.1) hc (by have := HR.out.2; omega)).mono ?_
  rintro e w3 ⟨A3, c3, rfl, hc3, hC3, hb3⟩
  have H3 := Aside0.mk (And.intro (Fr.of_below hb3 (fun _ => False)) hC3)
  clear hb3 hC3 k0 k1
  go_wp2_with (fail)
  refine (ssign_calls (repK signer) voteS A3 c3 (partsA kind view turn slot body) w3 H3.out.2 hc3 (by rw [partsA_sz]; have := HR.out.2; show _ + 4 ≤ _; omega)).mono ?_
  rintro e w4 ⟨v4, rfl, hO4, hb4⟩
  obtain ⟨A4, c4, rfl, hc4⟩ := hO4.slice
  rw [show sgA (repK signer) voteS (partsA kind view turn slot body) = sg from hsg] at hO4 hc4 ⊢
  have F24 := H3.out.1.trans (Fr.of_below hb4 (fun _ => False)) (fun _ h => h.elim)
  have z34 := H3.out.1.size
  have hg4 := F24.blk HN.out.2.2 (fun h => h)
  have H4 := Aside0.mk (And.intro (HN.out.1.trans F24 (fun _ h => h.elim)) (And.intro hO4 (show w.heap.size + 2 ≤ w3.heap.size by have := HN.out.2.1; omega)))
  clear hO4 hb4 F24 z34 H3 hsg
  go_wp2_with (first | ((with_reducible refine gate_store (p := 10) rfl ?_); refine Aside0.out ?_))
  refine ⟨?_⟩
  refine wpList_store_abs (by rfl) 55 _ _ (by rfl) (w.heap.size + 1) #[.int .i64 signer, .slice A4 sg.length c4] (by rfl) (by rfl) 55 Z2v hg4 (by kernel_rfl) (by rfl) (by simp [Value.oneCell']) ?_
  intro w9 hf9 hs9 hg9
  go_wp2
  refine bodyPost_ret (results_cell_row (by rfl) _ _ (w.heap.size + 1) 55 #[.int .i64 signer, .slice A4 sg.length c4] (0, 0) _ (by rfl) hg9 Try.underlying55 (by rfl) (by kernel_rfl)) rfl ?_
  exact ⟨A4, c4, rfl, hc4, (H4.out.2.1.fr hf9 (fun k hk e => by have := H4.out.2.1.base k hk; have := H4.out.2.2; omega)).lower (by have := H4.out.2.2; omega), frB (H4.out.1.trans hf9 (fun k hk => .inr (by omega)))⟩
set_option maxHeartbeats 8000000 in
set_option maxRecDepth 100000 in
theorem right_calls (kind view turn slot : Int) (A : Option Addr) (c : Nat) (body : List Int) (signer : Int) (As : Option Addr) (cs : Nat) (sig : List Int) (w : World) (hr : Rd w A body) (hc : body.length ≤ c) (hl : body.length ≤ 2000000) (hS : Rd w As sig) (hcs : sig.length ≤ cs) (hsl : sig.length ≤ 9223372036854775807) (hsb : Bys sig) :
    Calls Try.prog 20 #[.int .i64 kind, .agg #[.int .i64 view, .int .i64 turn], .int .i64 slot, .slice A body.length c, .agg #[.int .i64 signer, .slice As sig.length cs]] w fun e w' => e = .returned (.bool (vrA kind view turn slot body signer sig)) ∧ Below w.heap.size w w' := by
  have HR := Aside0.mk (And.intro hr (And.intro hl (And.intro hS (And.intro hsl hsb))))
  clear hr hl hS hsl hsb
  obtain ⟨bb, hbb⟩ : ∃ bb, vrA kind view turn slot body signer sig = bb := ⟨_, rfl⟩
  rw [hbb]
  go_enter Try.func20, Try.ntmps20
  go_wp2
  have hb2 : Below w.heap.size w ((w.alloc (.cells #[.int .i64 view, .int .i64 turn] 28)).alloc (.cells #[.int .i64 signer, .slice As sig.length cs] 55)) := below_alloc (below_alloc (Below.refl _ _) _) _
  have hS2 : ∀ w', Fr (fun _ => False) ((w.alloc (.cells #[.int .i64 view, .int .i64 turn] 28)).alloc (.cells #[.int .i64 signer, .slice As sig.length cs] 55)) w' → w'.cell? ⟨w.heap.size, 0, none⟩ = some (.int .i64 view) ∧ w'.cell? ⟨w.heap.size, 1, none⟩ = some (.int .i64 turn) ∧ w'.cell? ⟨w.heap.size + 1, 0, none⟩ = some (.int .i64 signer) ∧ w'.cell? ⟨w.heap.size + 1, 1, none⟩ = some (.slice As sig.length cs) := fun w' hf => by
    have hga := hf.blk (heap_alloc_new (w.alloc (.cells #[.int .i64 view, .int .i64 turn] 28)) (.cells #[.int .i64 signer, .slice As sig.length cs] 55)) (fun h => h)
    rw [World.size_alloc] at hga
    have hgb := hf.blk ((Fr.of_below (below_alloc (Below.refl _ (w.alloc (.cells #[.int .i64 view, .int .i64 turn] 28))) (.cells #[.int .i64 signer, .slice As sig.length cs] 55)) (fun _ => False)).blk (heap_alloc_new w (.cells #[.int .i64 view, .int .i64 turn] 28)) (fun h => h)) (fun h => h)
    simp [World.cell?, hga, hgb]
  generalize (w.alloc (.cells #[.int .i64 view, .int .i64 turn] 28)).alloc (.cells #[.int .i64 signer, .slice As sig.length cs] 55) = w2 at *
  have F2 := Fr.of_below hb2 (fun _ => False)
  have HA : ∀ w1, Below w2.heap.size w2 w1 → Calls Try.prog 36 #[.int .i64 kind, .agg #[.int .i64 view, .int .i64 turn], .int .i64 slot, .slice A body.length c, .int .i64 signer] w1 fun e w3 => ∃ A3 c3, e = .returned (.agg #[.int .i64 (repK signer), .string voteS, .slice A3 (partsA kind view turn slot body).length c3]) ∧ (w3.cell? ⟨w.heap.size, 0, none⟩ = some (.int .i64 view) ∧ w3.cell? ⟨w.heap.size, 1, none⟩ = some (.int .i64 turn) ∧ w3.cell? ⟨w.heap.size + 1, 0, none⟩ = some (.int .i64 signer) ∧ w3.cell? ⟨w.heap.size + 1, 1, none⟩ = some (.slice As sig.length cs)) ∧ Aside0 (Fr (fun _ => False) w2 w3 ∧ CC w3 A3 (partsA kind view turn slot body) ∧ (partsA kind view turn slot body).length ≤ c3) := by
    intro w1 hb1
    have f1 := Fr.of_below hb1 (fun _ => False)
    refine (voted_calls kind view turn slot A c body signer w1 ((HR.out.1.lies F2).lies f1) hc (by have := HR.out.2.1; omega)).mono ?_
    rintro e w3 ⟨A3, c3, rfl, hc3, hC3, hb3⟩
    have f3 := f1.trans (Fr.of_below hb3 (fun _ => False)) (fun _ h => h.elim)
    exact ⟨A3, c3, rfl, hS2 _ f3, ⟨f3, hC3, hc3⟩⟩
  have HB : ∀ w3 A3 c3, Aside0 (Fr (fun _ => False) w2 w3 ∧ CC w3 A3 (partsA kind view turn slot body) ∧ (partsA kind view turn slot body).length ≤ c3) → Calls Try.prog 37 #[.agg #[.int .i64 (repK signer), .string voteS, .slice A3 (partsA kind view turn slot body).length c3], .slice As sig.length cs] w3 fun e w4 => e = .returned (.bool bb) ∧ (w4.cell? ⟨w.heap.size, 0, none⟩ = some (.int .i64 view) ∧ w4.cell? ⟨w.heap.size, 1, none⟩ = some (.int .i64 turn) ∧ w4.cell? ⟨w.heap.size + 1, 0, none⟩ = some (.int .i64 signer) ∧ w4.cell? ⟨w.heap.size + 1, 1, none⟩ = some (.slice As sig.length cs)) ∧ Aside0 (Fr (fun _ => False) w2 w4) := by
    intro w3 A3 c3 H
    have hv := sverify_calls (repK signer) voteS As cs sig A3 c3 (partsA kind view turn slot body) w3 ((HR.out.2.2.1.lies F2).lies H.out.1) hcs HR.out.2.2.2.1 HR.out.2.2.2.2 H.out.2.1 H.out.2.2 (by rw [partsA_sz]; have := HR.out.2.1; show _ + 4 ≤ _; omega)
    rw [show (decide (0 ≤ repK signer ∧ repK signer ≤ 127) && decide (sig = sgA (repK signer) voteS (partsA kind view turn slot body))) = bb from hbb] at hv
    refine hv.mono ?_
    rintro e w4 ⟨rfl, hb4⟩
    have f4 := H.out.1.trans (Fr.of_below hb4 (fun _ => False)) (fun _ h => h.elim)
    exact ⟨rfl, hS2 _ f4, ⟨f4⟩⟩
  have hs2 := hS2 _ (Fr.refl _ _)
  have HA := Aside0.mk HA
  have HB := Aside0.mk HB
  have HF := Aside0.mk F2
  clear hS2 hb2 F2 hbb
  go_region_held3 (fun w' => w'.cell? ⟨w.heap.size, 0, none⟩ = some (.int .i64 view) ∧ w'.cell? ⟨w.heap.size, 1, none⟩ = some (.int .i64 turn) ∧ w'.cell? ⟨w.heap.size + 1, 0, none⟩ = some (.int .i64 signer) ∧ w'.cell? ⟨w.heap.size + 1, 1, none⟩ = some (.slice As sig.length cs)) (first | exact hs2 | exact hs3 | exact hs4)
    (first | (go_at_call 36; refine (HA.out _ (below_drew (Below.refl _ _))).mono ?_; rintro e w3 ⟨A3, c3, rfl, hs3, H3⟩) | (go_at_call 37; refine (HB.out _ _ _ H3).mono ?_; rintro e w4 ⟨rfl, hs4, H4⟩))
  go_wp2
  go_ret
  exact ⟨rfl, frB (HF.out.trans H4.out (fun _ h => h.elim))⟩
end Go.Proofs.Ytnabilhcmplhcaa.Sha

/-
  A request's bytes; the law's votes; bytes compared.
-/
set_option linter.unusedVariables false
set_option linter.unusedSimpArgs false
namespace Go.Proofs.Ytnabilhcmplhcaa.Sha
open Go.RowKit Go.Proofs.YtnabilhcmplhcaaW.PrintWords Go.Proofs.YtnabilhcmplhcaaW.PrintLast Go.Proofs.YtnabilhcmplhcaaW.PrintMore Go.Proofs.Ytnabilhcmplhcaa.Q Go.Proofs.Ytnabilhcmplhcaa.Fr Go.Proofs.Ytnabilhcmplhcaa.Oct

theorem body_calls (c s : Int) (Ao : Option Addr) (co : Nat) (op : List Int) (As : Option Addr) (cs : Nat) (sg : List Int) (w : World) (ho : Rd w Ao op) (hco : op.length ≤ co) (hg : Rd w As sg) (hcs : sg.length ≤ cs) (lo : op.length + sg.length ≤ 1048576) :
    Calls Try.prog 21 #[.agg #[.int .i64 c, .int .i64 s, .slice Ao op.length co, .slice As sg.length cs]] w fun e w' => ∃ A2 c2, e = .returned (.slice A2 (bodyA c s op sg).length c2) ∧ (bodyA c s op sg).length ≤ c2 ∧ OB w' w.heap.size (.slice A2 (bodyA c s op sg).length c2) (bodyA c s op sg) ∧ Below w.heap.size w w' := by
  refine (msg_Body.calls 40 c s Ao co op As cs sg (bodyA c s op sg) w (ho.C (by omega)) hco (hg.C (by omega)) hcs (body_f c s op sg (by omega) (by omega) 40 (Nat.le_refl _))).mono ?_
  rintro e w' ⟨v, rfl, hR, hb⟩
  have hO : OB w' w.heap.size v (bodyA c s op sg) := Kd.own_of_R hR
  obtain ⟨A2, c2, rfl, hc2⟩ := hO.slice
  exact ⟨A2, c2, rfl, hc2, hO, hb⟩
set_option maxHeartbeats 8000000 in
set_option maxRecDepth 100000 in
theorem made_calls (view turn slot : Int) (c s : Int) (Ao : Option Addr) (co : Nat) (op : List Int) (As : Option Addr) (cs : Nat) (sg : List Int) (signer : Int) (w : World) (ho : Rd w Ao op) (hco : op.length ≤ co) (hg : Rd w As sg) (hcs : sg.length ≤ cs) (lo : op.length + sg.length ≤ 1048576) :
    Calls Try.prog 19 #[.agg #[.int .i64 view, .int .i64 turn], .int .i64 slot, .agg #[.int .i64 c, .int .i64 s, .slice Ao op.length co, .slice As sg.length cs], .int .i64 signer] w fun e w' => ∃ A5 c5, e = .returned (.agg #[.int .i64 signer, .slice A5 (vsA 2 view turn slot (bodyA c s op sg) signer).length c5]) ∧ (vsA 2 view turn slot (bodyA c s op sg) signer).length ≤ c5 ∧ OB w' w.heap.size (.slice A5 (vsA 2 view turn slot (bodyA c s op sg) signer).length c5) (vsA 2 view turn slot (bodyA c s op sg) signer) ∧ Below w.heap.size w w' := by
  have HH := Aside0.mk (And.intro ho (And.intro hg lo))
  clear ho hg lo
  obtain ⟨sv, hsv⟩ : ∃ x, (vsA 2 view turn slot (bodyA c s op sg) signer) = x := ⟨_, rfl⟩
  rw [hsv]
  go_enter Try.func19, Try.ntmps19
  go_wp2_with (first | ((with_reducible refine gate_dst (N := 8) rfl ?_); refine wpList_alloc_abs (by rfl) 55 (by rfl) (.agg Z2v) (by kernel_rfl) ?_; intro w3 hb3 hs3 hg3; (with_reducible refine Aside0.out ?_)))
  refine ⟨?_⟩
  have hb2 : Below w.heap.size w ((w.alloc (.cells #[.int .i64 view, .int .i64 turn] 28)).alloc (.cells #[.int .i64 c, .int .i64 s, .slice Ao op.length co, .slice As sg.length cs] 31)) := below_alloc (below_alloc (Below.refl _ _) _) _
  have hz2 : ((w.alloc (.cells #[.int .i64 view, .int .i64 turn] 28)).alloc (.cells #[.int .i64 c, .int .i64 s, .slice Ao op.length co, .slice As sg.length cs] 31)).heap.size = w.heap.size + 2 := by rw [World.size_alloc, World.size_alloc]
  have hS2 : ∀ w', Fr (fun _ => False) ((w.alloc (.cells #[.int .i64 view, .int .i64 turn] 28)).alloc (.cells #[.int .i64 c, .int .i64 s, .slice Ao op.length co, .slice As sg.length cs] 31)) w' → w'.cell? ⟨w.heap.size, 0, none⟩ = some (.int .i64 view) ∧ w'.cell? ⟨w.heap.size, 1, none⟩ = some (.int .i64 turn) ∧ w'.cell? ⟨w.heap.size + 1, 0, none⟩ = some (.int .i64 c) ∧ w'.cell? ⟨w.heap.size + 1, 1, none⟩ = some (.int .i64 s) ∧ w'.cell? ⟨w.heap.size + 1, 2, none⟩ = some (.slice Ao op.length co) ∧ w'.cell? ⟨w.heap.size + 1, 3, none⟩ = some (.slice As sg.length cs) := fun w' hf => by
    have hga := hf.blk (heap_alloc_new (w.alloc (.cells #[.int .i64 view, .int .i64 turn] 28)) (.cells #[.int .i64 c, .int .i64 s, .slice Ao op.length co, .slice As sg.length cs] 31)) (fun h => h)
    rw [World.size_alloc] at hga
    have hgb := hf.blk ((Fr.of_below (below_alloc (Below.refl _ (w.alloc (.cells #[.int .i64 view, .int .i64 turn] 28))) (.cells #[.int .i64 c, .int .i64 s, .slice Ao op.length co, .slice As sg.length cs] 31)) (fun _ => False)).blk (heap_alloc_new w (.cells #[.int .i64 view, .int .i64 turn] 28)) (fun h => h)) (fun h => h)
    simp [World.cell?, hga, hgb]
  generalize (w.alloc (.cells #[.int .i64 view, .int .i64 turn] 28)).alloc (.cells #[.int .i64 c, .int .i64 s, .slice Ao op.length co, .slice As sg.length cs] 31) = w2 at *
  have f3 := Fr.of_below hb3 (fun _ => False)
  have F3 := (Fr.of_below hb2 (fun _ => False)).trans f3 (fun _ h => h.elim)
  rw [hz2] at hg3 hs3
  have hS : ∀ w', Fr (fun _ => False) w3 w' → w'.cell? ⟨w.heap.size, 0, none⟩ = some (.int .i64 view) ∧ w'.cell? ⟨w.heap.size, 1, none⟩ = some (.int .i64 turn) ∧ w'.cell? ⟨w.heap.size + 1, 0, none⟩ = some (.int .i64 c) ∧ w'.cell? ⟨w.heap.size + 1, 1, none⟩ = some (.int .i64 s) ∧ w'.cell? ⟨w.heap.size + 1, 2, none⟩ = some (.slice Ao op.length co) ∧ w'.cell? ⟨w.heap.size + 1, 3, none⟩ = some (.slice As sg.length cs) := fun w' hf => hS2 w' (f3.trans hf (fun _ h => h.elim))
  have hs9 : ∀ w4 w', (w4.cell? ⟨w.heap.size, 0, none⟩ = some (.int .i64 view) ∧ w4.cell? ⟨w.heap.size, 1, none⟩ = some (.int .i64 turn) ∧ w4.cell? ⟨w.heap.size + 1, 0, none⟩ = some (.int .i64 c) ∧ w4.cell? ⟨w.heap.size + 1, 1, none⟩ = some (.int .i64 s) ∧ w4.cell? ⟨w.heap.size + 1, 2, none⟩ = some (.slice Ao op.length co) ∧ w4.cell? ⟨w.heap.size + 1, 3, none⟩ = some (.slice As sg.length cs)) → Fr (fun k => k = w.heap.size + 2) w4 w' → w'.cell? ⟨w.heap.size, 0, none⟩ = some (.int .i64 view) ∧ w'.cell? ⟨w.heap.size, 1, none⟩ = some (.int .i64 turn) ∧ w'.cell? ⟨w.heap.size + 1, 0, none⟩ = some (.int .i64 c) ∧ w'.cell? ⟨w.heap.size + 1, 1, none⟩ = some (.int .i64 s) ∧ w'.cell? ⟨w.heap.size + 1, 2, none⟩ = some (.slice Ao op.length co) ∧ w'.cell? ⟨w.heap.size + 1, 3, none⟩ = some (.slice As sg.length cs) := fun w4 w' h hf =>
    ⟨hf.cell h.1 (fun e => by simp only at e; omega), hf.cell h.2.1 (fun e => by simp only at e; omega), hf.cell h.2.2.1 (fun e => by simp only at e; omega), hf.cell h.2.2.2.1 (fun e => by simp only at e; omega), hf.cell h.2.2.2.2.1 (fun e => by simp only at e; omega), hf.cell h.2.2.2.2.2 (fun e => by simp only at e; omega)⟩
  have HA : ∀ w1, Fr (fun _ => False) w3 w1 → Calls Try.prog 21 #[.agg #[.int .i64 c, .int .i64 s, .slice Ao op.length co, .slice As sg.length cs]] w1 fun e w4 => ∃ A2 c2, e = .returned (.slice A2 (bodyA c s op sg).length c2) ∧ (w4.cell? ⟨w.heap.size, 0, none⟩ = some (.int .i64 view) ∧ w4.cell? ⟨w.heap.size, 1, none⟩ = some (.int .i64 turn) ∧ w4.cell? ⟨w.heap.size + 1, 0, none⟩ = some (.int .i64 c) ∧ w4.cell? ⟨w.heap.size + 1, 1, none⟩ = some (.int .i64 s) ∧ w4.cell? ⟨w.heap.size + 1, 2, none⟩ = some (.slice Ao op.length co) ∧ w4.cell? ⟨w.heap.size + 1, 3, none⟩ = some (.slice As sg.length cs)) ∧ Aside0 (Fr (fun _ => False) w3 w4 ∧ Rd w4 A2 (bodyA c s op sg) ∧ (bodyA c s op sg).length ≤ c2) := by
    intro w1 hf1
    have F := F3.trans hf1 (fun _ h => h.elim)
    refine (body_calls c s Ao co op As cs sg w1 (HH.out.1.lies F) hco (HH.out.2.1.lies F) hcs HH.out.2.2).mono ?_
    rintro e w4 ⟨A2, c2, rfl, hc2, hO, hb⟩
    have f4 := hf1.trans (Fr.of_below hb (fun _ => False)) (fun _ h => h.elim)
    exact ⟨A2, c2, rfl, hS _ f4, ⟨f4, QB.rd (q_of_own hO), hc2⟩⟩
  have HB : ∀ w4 A2 c2, Aside0 (Fr (fun _ => False) w3 w4 ∧ Rd w4 A2 (bodyA c s op sg) ∧ (bodyA c s op sg).length ≤ c2) → Calls Try.prog 35 #[.int .i64 2, .agg #[.int .i64 view, .int .i64 turn], .int .i64 slot, .slice A2 (bodyA c s op sg).length c2, .int .i64 signer] w4 fun e w5 => ∃ A5 c5, e = .returned (.agg #[.int .i64 signer, .slice A5 sv.length c5]) ∧ (w5.cell? ⟨w.heap.size, 0, none⟩ = some (.int .i64 view) ∧ w5.cell? ⟨w.heap.size, 1, none⟩ = some (.int .i64 turn) ∧ w5.cell? ⟨w.heap.size + 1, 0, none⟩ = some (.int .i64 c) ∧ w5.cell? ⟨w.heap.size + 1, 1, none⟩ = some (.int .i64 s) ∧ w5.cell? ⟨w.heap.size + 1, 2, none⟩ = some (.slice Ao op.length co) ∧ w5.cell? ⟨w.heap.size + 1, 3, none⟩ = some (.slice As sg.length cs)) ∧ w5.heap[w.heap.size + 2]? = some (.cells Z2v 55 (0, 0)) ∧ Aside0 (Fr (fun _ => False) w3 w5 ∧ OB w5 (w.heap.size + 3) (.slice A5 sv.length c5) sv ∧ sv.length ≤ c5) := by
    intro w4 A2 c2 H
    have hl := bodyA_len c s op sg
    have hm := make_calls 2 view turn slot A2 c2 (bodyA c s op sg) signer w4 H.out.2.1 H.out.2.2 (by have := HH.out.2.2; omega)
    rw [hsv] at hm
    refine hm.mono ?_
    rintro e w5 ⟨A5, c5, rfl, hc5, hO, hb⟩
    have f5 := H.out.1.trans (Fr.of_below hb (fun _ => False)) (fun _ h => h.elim)
    have z4 := H.out.1.size
    exact ⟨A5, c5, rfl, hS _ f5, f5.blk hg3 (fun h => h), ⟨f5, hO.lower (by omega), hc5⟩⟩
  have hs3' := hS _ (Fr.refl _ _)
  have HA := Aside0.mk HA
  have HB := Aside0.mk HB
  have HS9 := Aside0.mk hs9
  have HF := Aside0.mk F3
  clear hS2 hb2 hz2 hb3 hs3 hg3 f3 F3 hS hs9 hsv
  go_wp2_with (fail)
  refine wp_region_held_drew (S := (fun w' => w'.cell? ⟨w.heap.size, 0, none⟩ = some (.int .i64 view) ∧ w'.cell? ⟨w.heap.size, 1, none⟩ = some (.int .i64 turn) ∧ w'.cell? ⟨w.heap.size + 1, 0, none⟩ = some (.int .i64 c) ∧ w'.cell? ⟨w.heap.size + 1, 1, none⟩ = some (.int .i64 s) ∧ w'.cell? ⟨w.heap.size + 1, 2, none⟩ = some (.slice Ao op.length co) ∧ w'.cell? ⟨w.heap.size + 1, 3, none⟩ = some (.slice As sg.length cs))) (by kernel_rfl) hs3' (fun hHeld => ?_)
  refine wpAnyH_take (i := 0) (oi := ⟨some 9, _, _, _, _, _⟩) (v := (.agg #[.int .i64 view, .int .i64 turn])) rfl (by kernel_rfl) (by kernel_rfl) (by kernel_rfl) (fun _ _ _ h => h) (Or.inl ⟨by rfl, by (intro w' hSw; (try dsimp only at hSw); go_simp)⟩) (by assumption) ?_
  try simp only [Act.put, List.setIfInBounds_toArray, List.set_cons_zero, List.set_cons_succ]
  refine wpAnyH_take (i := 1) (oi := ⟨some 10, _, _, _, _, _⟩) (v := (.int .i64 slot)) rfl (by kernel_rfl) (by kernel_rfl) (by kernel_rfl) (fun _ _ _ h => h) (Or.inl ⟨by rfl, by (intro w' hSw; (try dsimp only at hSw); go_simp)⟩) (by assumption) ?_
  try simp only [Act.put, List.setIfInBounds_toArray, List.set_cons_zero, List.set_cons_succ]
  refine wpAnyH_take (i := 2) (oi := ⟨some 11, _, _, _, _, _⟩) (v := (.agg #[.int .i64 c, .int .i64 s, .slice Ao op.length co, .slice As sg.length cs])) rfl (by kernel_rfl) (by kernel_rfl) (by kernel_rfl) (fun _ _ _ h => h) (Or.inl ⟨by rfl, by (intro w' hSw; (try dsimp only at hSw); go_simp)⟩) (by assumption) ?_
  try simp only [Act.put, List.setIfInBounds_toArray, List.set_cons_zero, List.set_cons_succ]
  refine wpAnyH_take (i := 4) (oi := ⟨some 13, _, _, _, _, _⟩) (v := (.int .i64 signer)) rfl (by kernel_rfl) (by kernel_rfl) (by kernel_rfl) (fun _ _ _ h => h) (Or.inl ⟨by rfl, by (intro w' hSw; (try dsimp only at hSw); go_simp)⟩) (by assumption) ?_
  try simp only [Act.put, List.setIfInBounds_toArray, List.set_cons_zero, List.set_cons_succ]
  refine wpAnyH_ready (rs := [3]) (by kernel_rfl) (by simp) ?_
  refine AllReadyH.cons (o := ⟨some 12, _, _, _, _, _⟩) rfl (fun K hK => ?_) AllReadyH.nil
  go_simp
  go_at_call 21
  refine (HA.out _ (Fr.refl _ _).of_drew).mono ?_
  rintro e w4 ⟨A2, c2, rfl, hs4, H4⟩
  refine hK.out _ _ hs4 (fun hHeld => ?_)
  try simp only [Act.put, List.setIfInBounds_toArray, List.set_cons_zero, List.set_cons_succ]
  refine wpAnyH_ready (rs := [5]) (by kernel_rfl) (by simp) ?_
  refine AllReadyH.cons (o := ⟨some 14, _, _, _, _, _⟩) rfl (fun K hK => ?_) AllReadyH.nil
  go_simp
  go_at_call 35
  refine (HB.out _ _ _ H4).mono ?_
  rintro e w5 ⟨A5, c5, rfl, hs5, hg5, H5⟩
  refine hK.out _ _ hs5 (fun hHeld => ?_)
  try simp only [Act.put, List.setIfInBounds_toArray, List.set_cons_zero, List.set_cons_succ]
  refine wpAnyH_ready (rs := [6]) (by kernel_rfl) (by simp) ?_
  refine AllReadyH.cons (o := ⟨none, _, _, _, _, _⟩) rfl (fun K hK => ?_) AllReadyH.nil
  rw [if_pos (by rfl)]
  refine wp_store_abs 55 _ _ (by rfl) (w.heap.size + 2) #[.int .i64 signer, .slice A5 sv.length c5] (by rfl) (by rfl) 55 Z2v hg5 (by kernel_rfl) (by rfl) (by simp [Value.oneCell']) ?_
  intro w9 hf9 hz9 hg9
  have hs6 := HS9.out _ _ hs5 hf9
  refine hK.out _ _ hs6 (fun hHeld => ?_)
  try simp only [Act.put, List.setIfInBounds_toArray, List.set_cons_zero, List.set_cons_succ]
  refine wpAnyH_done (by kernel_rfl) ?_ _
  clear hs3' hs4 hs5 hs6 hHeld
  go_wp2
  refine bodyPost_ret (results_cell_row (by rfl) _ _ (w.heap.size + 2) 55 #[.int .i64 signer, .slice A5 sv.length c5] (0, 0) _ (by rfl) hg9 Try.underlying55 (by rfl) (by kernel_rfl)) rfl ?_
  have F9 : Fr (fun _ => False) w w9 := (HF.out.trans H5.out.1 (fun _ h => h.elim)).trans hf9 (fun k hk => .inr (by omega))
  exact ⟨A5, c5, rfl, H5.out.2.2, (H5.out.2.1.fr hf9 (fun k hk e => by have := H5.out.2.1.base k hk; omega)).lower (by omega), frB F9⟩
/-- Bytes compared: less is -1, more is 1. -/
def cmpA (a b : List Int) : Int := Extern.BytealgCompare.cmp ⟨ByteArray.empty.data ++ (Lib.bytesOf a).toArray⟩ ⟨ByteArray.empty.data ++ (Lib.bytesOf b).toArray⟩
theorem run_bytesOf (A : Option Addr) (c : Nat) (l : List Int) (w : World) (h : Rd w A l) : (Extern.Bytes.bytesOf (.slice A l.length c)).run Try.prog w = .ok ⟨ByteArray.empty.data ++ (Lib.bytesOf l).toArray⟩ w := by
  cases A with
  | none =>
    have : l = [] := by
      cases l with
      | nil => rfl
      | cons x l => obtain ⟨_, e, _⟩ := h 0 (.int .u8 x) rfl; cases e
    subst this
    rfl
  | some a =>
    exact Lib.run_loadBytesX w l a .empty (fun j x hx => by
      obtain ⟨ad, e, hc⟩ := h j (.int .u8 x) (by simp [encs, hx])
      injection e with e
      subst e
      exact hc)
set_option maxHeartbeats 8000000 in
set_option maxRecDepth 100000 in
theorem bcmp_calls (A0 : Option Addr) (c0 : Nat) (l0 : List Int) (A1 : Option Addr) (c1 : Nat) (l1 : List Int) (w : World) (h0 : Rd w A0 l0) (h1 : Rd w A1 l1) :
    Calls Try.prog 39 #[.slice A0 l0.length c0, .slice A1 l1.length c1] w fun e w' => e = .returned (.int .i64 (cmpA l0 l1)) ∧ Below w.heap.size w w' := by
  have hrun : (Extern.BytealgCompare.compare #[.slice A0 l0.length c0, .slice A1 l1.length c1]).run Try.prog w = .ok (.int .i64 (cmpA l0 l1)) w := by
    rw [show Extern.BytealgCompare.compare #[.slice A0 l0.length c0, .slice A1 l1.length c1] = (do pure (goInt (Extern.BytealgCompare.cmp (← Extern.Bytes.bytesOf (.slice A0 l0.length c0)) (← Extern.Bytes.bytesOf (.slice A1 l1.length c1))))) from rfl]
    simp only [Sem.run_bind, run_bytesOf A0 c0 l0 w h0, run_bytesOf A1 c1 l1 w h1, Result.andThen_ok]
    rfl
  clear h0 h1
  go_enter Try.func39, Try.ntmps39
  go_wp2
  rw [run_callFunc_extern Try.func50 (by kernel_rfl) (by kernel_rfl) (by kernel_rfl) (e := Extern.BytealgCompare.compare) (by kernel_rfl), hrun]
  simp only [Result.andThen]
  rw [Oper.upon_value]
  go_wp2
  go_ret
  exact ⟨rfl, Below.refl _ _⟩
end Go.Proofs.Ytnabilhcmplhcaa.Sha
end
section
/- Written by a program of this session out of the translation; Lean checks it. -/
namespace Go.Proofs.Ytnabilhcmplhcaa.Q
open Go.RowKit Go.Proofs.YtnabilhcmplhcaaW.PrintWords Go.Proofs.YtnabilhcmplhcaaW.PrintLast Go.Proofs.YtnabilhcmplhcaaW.PrintMore
attribute [local go_sem] max2_int min2_int max_two min_two max_three min_three max_four min_four   -- for this text's walks alone
set_option linter.unusedVariables false
set_option linter.unusedSimpArgs false

/-! ### catenaryref01_Same: function 31 -/
def catenaryref01_Same.f (l0 : List Int) (l1 : List Int) : Option (Bool) := some ((strOfNums l0).toList == (strOfNums l1).toList)
set_option maxHeartbeats 8000000 in
set_option maxRecDepth 100000 in
theorem catenaryref01_Same.calls (A0 : Option Addr) (c0 : Nat) (l0 : List Int) (A1 : Option Addr) (c1 : Nat) (l1 : List Int) (r : Bool) (w : World) (hr0 : Kd.C (Kd.int .u8) w A0 l0.length l0) (hc0 : l0.length ≤ c0) (hr1 : Kd.C (Kd.int .u8) w A1 l1.length l1) (hc1 : l1.length ≤ c1) (h : catenaryref01_Same.f l0 l1 = some r) :
    Calls Try.prog 31 #[.slice A0 l0.length c0, .slice A1 l1.length c1] w fun e w' => e = .returned (.bool r) ∧ Drawn0 w w' := by
  have HR0 := Aside0.mk hr0
  have HC0 := Aside0.mk hc0
  clear hr0 hc0
  have HR1 := Aside0.mk hr1
  have HC1 := Aside0.mk hc1
  clear hr1 hc1
  have H : (some ((strOfNums l0).toList == (strOfNums l1).toList)) = some r := h
  clear h
  obtain rfl := Option.some.inj H
  have hcv3 := Kd.C_string (P := Try.prog) (A := A0) (c := c0) Try.underlying29 Try.underlying5 Try.underlying9 HR0.out
  have hcv4 := Kd.C_string (P := Try.prog) (A := A1) (c := c1) Try.underlying29 Try.underlying5 Try.underlying9 HR1.out
  go_enter Try.func31, Try.ntmps31
  go_wp2
  go_ret
  exact ⟨by first | rfl | (simp; done) | (simp [*]; done), by repeat (first | exact Drawn0.refl _ | apply Drawn0.step)⟩

end Go.Proofs.Ytnabilhcmplhcaa.Q
end
section
/- Written by a program of this session out of the translation; Lean checks it. -/
namespace Go.Proofs.Ytnabilhcmplhcaa.Q
open Go.RowKit Go.Proofs.YtnabilhcmplhcaaW.PrintWords Go.Proofs.YtnabilhcmplhcaaW.PrintLast Go.Proofs.YtnabilhcmplhcaaW.PrintMore
attribute [local go_sem] max2_int min2_int max_two min_two max_three min_three max_four min_four   -- for this text's walks alone
set_option linter.unusedVariables false
set_option linter.unusedSimpArgs false

/-! ### catenaryref01_Int: function 53 -/
mutual
def catenaryref01_Int.j0 : Nat → Int → Bool → Option (List Int × Int)
  | 0, _, _ => none
  | k + 1, x0, x11 => if x11 = true then (some (([] : List Int), 14)) else (if x0 < 128 then (some ((([(x0) % 256] : List Int)), 0)) else ((catenaryref01_Int.f k (wrap64 (Int.tdiv x0 128))).bind fun bt258 => ((some (([(wrap64 ((Int.tmod x0 128) + 128)) % 256] : List Int) : List Int)).bind fun y262 => (if y262.length + bt258.1.length < 140737488355328 then (some ((y262 ++ bt258.1), 0)) else (none)))))
def catenaryref01_Int.f : Nat → Int → Option (List Int × Int)
  | 0, _ => none
  | k + 1, a0 => if a0 < 0 then (catenaryref01_Int.j0 k a0 true) else (catenaryref01_Int.j0 k a0 (decide (a0 > 2147483647)))
end
set_option maxHeartbeats 8000000 in
set_option maxRecDepth 100000 in
theorem catenaryref01_Int.calls (k : Nat) : ∀ (a0 : Int) (r1 : List Int) (r2 : Int) (w : World) (h : catenaryref01_Int.f k a0 = some (r1, r2)),
    Calls Try.prog 53 #[.int .i64 a0] w fun e w' => ∃ v0_ : Value, e = .returned (.tuple #[v0_, .int .i64 r2]) ∧ Kd.R (Kd.int .u8) 5 w' w.heap.size (fun _ => True) v0_ r1 ∧ Below w.heap.size w w' := by
  induction k using Nat.strongRecOn with
  | _ k ih =>
  intro a0 r1 r2 w h
  cases k with
  | zero => exact absurd h (by simp [catenaryref01_Int.f])
  | succ k =>
  simp only [catenaryref01_Int.f] at h
  have HB := Aside0.mk (Below.refl w.heap.size w)
  have H : (if a0 < 0 then (catenaryref01_Int.j0 k a0 true) else (catenaryref01_Int.j0 k a0 (decide (a0 > 2147483647)))) = some (r1, r2) := h
  clear h
  have HC2 := Aside0.mk H
  clear H
  go_enter Try.func53, Try.ntmps53
  go_upto_region 1 with (fail)
  go_cut [11] (fun v11 wc => ∃ (kq : Nat) (x11_1 : Bool), v11 = .bool x11_1 ∧ Aside0 (catenaryref01_Int.j0 kq a0 x11_1 = some (r1, r2)) ∧ Aside0 (kq ≤ k) ∧ Aside0 (Below w.heap.size w wc))
  case first =>
    have H := HC2.out
    clear HC2
    by_cases c3 : a0 < 0
    · rw [if_pos c3] at H
      have c3b0 : decide (a0 < 0) = true := decide_eq_true c3
      clear c3
      (first | rw [c3b0] | (simp only [i64_w, i32_w]; rw [c3b0]) | skip)
      have H' := Aside0.mk H
      clear H
      go_wp2
      go_meet
      case rel => exact ⟨_, (true), (by first | rfl | (simp; done) | (simp [*]; done)), H', ⟨by first | omega | exact Nat.le_refl _⟩, ⟨by repeat (first | (with_reducible first | exact HB.out | apply below_alloc | apply pw_below_drewN | apply below_drew1) | exact HB.out)⟩⟩
    · rw [if_neg c3] at H
      have c3b0 : decide (a0 < 0) = false := decide_eq_false c3
      clear c3
      (first | rw [c3b0] | (simp only [i64_w, i32_w]; rw [c3b0]) | skip)
      have H' := Aside0.mk H
      clear H
      go_wp2
      go_meet
      case rel => exact ⟨_, (decide (a0 > 2147483647)), (by first | rfl | (simp; done) | (simp [*]; done)), H', ⟨by first | omega | exact Nat.le_refl _⟩, ⟨by repeat (first | (with_reducible first | exact HB.out | apply below_alloc | apply pw_below_drewN | apply below_drew1) | exact HB.out)⟩⟩
  case rest =>
    clear HC2
    try clear p2
    try clear c3
    try clear c3b0
    obtain ⟨kq, x11_1, rfl, HA, HJ1, HB⟩ := hcut
    cases kq with
    | zero => exact absurd HA.out (by simp [catenaryref01_Int.j0])
    | succ kj1 =>
      have H := HA.out
      clear HA
      simp only [catenaryref01_Int.j0] at H
      by_cases c4 : x11_1 = true
      · subst c4
        have H1 : (some (([] : List Int), 14)) = some (r1, r2) := by rw [if_pos rfl] at H; exact H
        clear H
        have H := H1
        clear H1
        simp only [Option.some.injEq, Prod.mk.injEq] at H
        obtain ⟨rfl, rfl⟩ := H
        go_wp2
        go_ret2
        exact ⟨_, by first | rfl | (simp [errW_none, errW_some] <;> rfl) | (simp [*, errW_none, errW_some] <;> rfl), by first | exact Kd.R_nil _ _ _ _ _ | exact Kd.N_nil _ _ _ _ _ | exact Kd.V_nil _ _ _ _ _ | exact Kd.Q_nil _ _ _ _ _ | exact Kd.S_nil _ _ _ _ _, by repeat (first | (with_reducible first | exact HB.out | apply below_alloc | apply pw_below_drewN | apply below_drew1) | exact HB.out)⟩
      · replace c4 := Bool.eq_false_iff.mpr c4
        subst c4
        have H1 : (if a0 < 128 then (some ((([(a0) % 256] : List Int)), 0)) else ((catenaryref01_Int.f kj1 (wrap64 (Int.tdiv a0 128))).bind fun bt258 => ((some (([(wrap64 ((Int.tmod a0 128) + 128)) % 256] : List Int) : List Int)).bind fun y262 => (if y262.length + bt258.1.length < 140737488355328 then (some ((y262 ++ bt258.1), 0)) else (none))))) = some (r1, r2) := by rw [if_neg (show ¬ (false = true) by decide)] at H; exact H
        clear H
        have H := H1
        clear H1
        by_cases c5 : a0 < 128
        · rw [if_pos c5] at H
          have c5b0 : decide (a0 < 128) = true := decide_eq_true c5
          clear c5
          obtain ⟨y255, hy255⟩ : ∃ y_ : List Int, y_ = (([(a0) % 256] : List Int)) := ⟨_, rfl⟩
          replace H : (some (y255, 0)) = some (r1, r2) := by first | (rw [hy255]; with_reducible exact H) | (have H2_ := (Option.bind_some _ _).symm.trans H; rw [hy255]; with_reducible exact H2_) | (have H2_ := (Option.bind_some _ _).symm.trans H; with_reducible exact H2_) | with_reducible exact H | (rw [hy255]; exact H) | exact H
          have Ny255 := Aside0.mk hy255
          clear hy255
          simp only [Option.some.injEq, Prod.mk.injEq] at H
          obtain ⟨rfl, rfl⟩ := H
          go_wp2_with (first | ((with_reducible refine gate_dst (N := 16) rfl ?_); refine Kd.R_lit (Kd.int .u8) _ 5 ?hg (N := 16) ?hd (xs := ([(a0) % 256] : List Int)) (inner := [.int .u8 ((a0) % 256)]) (ok := fun _ => True) (okp := fun _ => True) ?hr ?hp (fun _ hk => hk) trivial (Below.refl _ _) (Nat.le_refl _) (by simp) ?_; (case hd => rfl); (case hg => rfl); (case hr => first | (go_simp; done) | (go_simp; rfl)); (case hp => exact (Reps.one (show Kd.M (Kd.int .u8) _ _ _ ((a0) % 256) [.int .u8 ((a0) % 256)] from rfl) (Reps.none _ _))); intro v256 w6 ho7 hb hg_ hnew_; clear hg_ hnew_; (first | rw [← Ny255.out] at ho7 | (simp only [Int.reduceToNat] at ho7; rw [← Ny255.out] at ho7)); have n0_ := Aside0.mk (Kd.R_lower ho7 (below_size (by repeat (first | (with_reducible first | exact HB.out | apply below_alloc | apply pw_below_drewN | apply below_drew1) | exact HB.out)))); have n1_ := Aside0.mk (below_step (by repeat (first | (with_reducible first | exact HB.out | apply below_alloc | apply pw_below_drewN | apply below_drew1) | exact HB.out)) hb); clear HB; have HO257 := n0_; have HB := n1_; clear n0_ n1_; clear hb ho7))
          go_ret2
          exact ⟨_, by first | rfl | (simp [errW_none, errW_some] <;> rfl) | (simp [*, errW_none, errW_some] <;> rfl), by (with_reducible repeat (first | apply Kd.R_alloc | apply Kd.R_drewN | apply Kd.R_drew)); exact HO257.out, by repeat (first | (with_reducible first | exact HB.out | apply below_alloc | apply pw_below_drewN | apply below_drew1) | exact HB.out)⟩
        · rw [if_neg c5] at H
          have c5b0 : decide (a0 < 128) = false := decide_eq_false c5
          clear c5
          replace H := Option.bind_eq_some_iff.mp H
          obtain ⟨⟨t258, t259⟩, A80, H⟩ := H
          replace H : ((some (([(wrap64 ((Int.tmod a0 128) + 128)) % 256] : List Int) : List Int)).bind fun y262 => (if y262.length + t258.length < 140737488355328 then (some ((y262 ++ t258), 0)) else (none))) = some (r1, r2) := H
          have A8 := Aside0.mk A80
          clear A80
          obtain ⟨y262, hy262⟩ : ∃ y_ : List Int, y_ = (([(wrap64 ((Int.tmod a0 128) + 128)) % 256] : List Int)) := ⟨_, rfl⟩
          replace H : (if y262.length + t258.length < 140737488355328 then (some ((y262 ++ t258), 0)) else (none)) = some (r1, r2) := by first | (rw [hy262]; with_reducible exact H) | (have H2_ := (Option.bind_some _ _).symm.trans H; rw [hy262]; with_reducible exact H2_) | (have H2_ := (Option.bind_some _ _).symm.trans H; with_reducible exact H2_) | with_reducible exact H | (rw [hy262]; exact H) | exact H
          have Ny262 := Aside0.mk hy262
          clear hy262
          by_cases c9 : y262.length + t258.length < 140737488355328
          · rw [if_pos c9] at H
            have LMc9 := Aside0.mk c9
            clear c9
            obtain ⟨y265, hy265⟩ : ∃ y_ : List Int, y_ = (y262 ++ t258) := ⟨_, rfl⟩
            replace H : (some (y265, 0)) = some (r1, r2) := by first | (rw [hy265]; with_reducible exact H) | (have H2_ := (Option.bind_some _ _).symm.trans H; rw [hy265]; with_reducible exact H2_) | (have H2_ := (Option.bind_some _ _).symm.trans H; with_reducible exact H2_) | with_reducible exact H | (rw [hy265]; exact H) | exact H
            have Ny265 := Aside0.mk hy265
            clear hy265
            simp only [Option.some.injEq, Prod.mk.injEq] at H
            obtain ⟨rfl, rfl⟩ := H
            go_wp2_with (first | ((with_reducible refine gate_callee (f := 53) rfl ?_); refine goesL_ (some 20) rfl rfl Try.func53 (by kernel_rfl) rfl #[.int .i64 (wrap64 (Int.tdiv a0 128))] rfl (by (try simp only [List.map_toArray, List.map_cons, List.map_nil]); first | done | rfl | (simp only [List.length_drop, List.length_take]; rfl)) ?_; (with_reducible refine (ih kj1 (by have := HJ1.out; omega) (wrap64 (Int.tdiv a0 128)) t258 t259 _ A8.out).mono ?_); rintro e w10 ⟨v260, rfl, ho0, hb⟩; refine ⟨_, rfl, ?_⟩; have n0_ := Aside0.mk (Kd.R_lower ho0 (below_size (by repeat (first | (with_reducible first | exact HB.out | apply below_alloc | apply pw_below_drewN | apply below_drew1) | exact HB.out)))); have n1_ := Aside0.mk (below_step (by repeat (first | (with_reducible first | exact HB.out | apply below_alloc | apply pw_below_drewN | apply below_drew1) | exact HB.out)) hb); clear HB; have HO261 := n0_; have HB := n1_; clear n0_ n1_; (try clear hb); (try clear hb2); (try clear hk); (try clear hi); (try clear ho0)) | ((with_reducible refine gate_dst (N := 27) rfl ?_); refine Kd.R_lit (Kd.int .u8) _ 5 ?hg (N := 27) ?hd (xs := ([(wrap64 ((Int.tmod a0 128) + 128)) % 256] : List Int)) (inner := [.int .u8 ((wrap64 ((Int.tmod a0 128) + 128)) % 256)]) (ok := fun _ => True) (okp := fun _ => True) ?hr ?hp (fun _ hk => hk) trivial (Below.refl _ _) (Nat.le_refl _) (by simp) ?_; (case hd => rfl); (case hg => rfl); (case hr => first | (go_simp; done) | (go_simp; rfl)); (case hp => exact (Reps.one (show Kd.M (Kd.int .u8) _ _ _ ((wrap64 ((Int.tmod a0 128) + 128)) % 256) [.int .u8 ((wrap64 ((Int.tmod a0 128) + 128)) % 256)] from rfl) (Reps.none _ _))); intro v263 w11 ho12 hb hg_ hnew_; clear hg_ hnew_; (first | rw [← Ny262.out] at ho12 | (simp only [Int.reduceToNat] at ho12; rw [← Ny262.out] at ho12)); have n0_ := Aside0.mk (Kd.R_elder' (by (with_reducible repeat (first | apply Kd.R_alloc | apply Kd.R_drewN | apply Kd.R_drew)); exact HO261.out) (Kd.R_base ho12) hb); have n1_ := Aside0.mk (Kd.R_lower (Kd.R_new' ho12 (Kd.R_lt (by (with_reducible repeat (first | apply Kd.R_alloc | apply Kd.R_drewN | apply Kd.R_drew)); exact HO261.out))) (below_size (by repeat (first | (with_reducible first | exact HB.out | apply below_alloc | apply pw_below_drewN | apply below_drew1) | exact HB.out)))); have n2_ := Aside0.mk (below_step (by repeat (first | (with_reducible first | exact HB.out | apply below_alloc | apply pw_below_drewN | apply below_drew1) | exact HB.out)) hb); clear HO261; clear HB; have HO261 := n0_; have HO264 := n1_; have HB := n2_; clear n0_ n1_ n2_; clear hb ho12; obtain ⟨Ao14, co14, eo14⟩ := Kd.R_slice HO261.out; subst eo14) | ((with_reducible refine gate_builtin (b := .append) (xs := #[.tmp 27, .tmp 28]) rfl ?_); at_builtin; refine Kd.R_append_rows (Kd.int .u8) (w0 := w) w.heap.size rfl (.tmp 27) (.tmp 28) 29 5 (.int .u8 0) 1 rfl Try.underlying29 info5 rfl (by decide) (by omega) v263 y262 t258 _ _ _ (fun k_ => some k_ ≠ (.slice Ao14 t258.length co14 : Value).ownBlock) (fun _ => False) rfl rfl ?aO ?aR (fun _ _ h => h) (fun _ h => h.elim) ?aF ?aB ?aS ?aL ?_; (case aR => repeat (first | exact (Kd.R_reads' HO261.out).2.2 | (with_reducible refine Kd.C_alloc ?_ _) | (with_reducible refine Kd.C_drewN ?_ _) | (with_reducible refine Kd.C_drew ?_))); (case aB => exact (by repeat (first | (with_reducible first | exact HB.out | apply below_alloc | apply pw_below_drewN | apply below_drew1) | exact HB.out))); (case aF => exact (fun k_ hk => Kd.fresh' (Kd.R_lt (by (with_reducible repeat (first | apply Kd.R_alloc | apply Kd.R_drewN | apply Kd.R_drew)); exact HO261.out)) k_ hk)); (case aO => exact (by (with_reducible repeat (first | apply Kd.R_alloc | apply Kd.R_drewN | apply Kd.R_drew)); exact Kd.R_mono HO264.out (fun _ hk => hk.2))); (case aS => exact (below_size (by repeat (first | (with_reducible first | exact HB.out | apply below_alloc | apply pw_below_drewN | apply below_drew1) | exact HB.out)))); (case aL => have := LMc9.out; omega); intro v266 w13 ho hb hg hat; rw [← Ny265.out] at ho; have n0_ := Aside0.mk (Kd.R_after (ok := (fun _ => True)) (by (with_reducible repeat (first | apply Kd.R_alloc | apply Kd.R_drewN | apply Kd.R_drew)); exact HO261.out) hg hat); have n1_ := Aside0.mk (hb); have n2_ := Aside0.mk (ho); clear HO261; clear HB; clear HO264; have HO261 := n0_; have HB := n1_; have HO267 := n2_; clear n0_ n1_ n2_; clear ho hb hg hat))
            go_ret2
            exact ⟨_, by first | rfl | (simp [errW_none, errW_some] <;> rfl) | (simp [*, errW_none, errW_some] <;> rfl), by (with_reducible repeat (first | apply Kd.R_alloc | apply Kd.R_drewN | apply Kd.R_drew)); exact Kd.R_mono HO267.out (fun _ hk => trivial), by repeat (first | (with_reducible first | exact HB.out | apply below_alloc | apply pw_below_drewN | apply below_drew1) | exact HB.out)⟩
          · rw [if_neg c9] at H
            exact absurd H (by simp)

/-! ### catenaryref01_Bytes: function 43 -/
def catenaryref01_Bytes.f (k : Nat) (l0 : List Int) : Option (List Int) := (catenaryref01_Int.f k (l0.length : Int)).bind fun bt268 => (if bt268.1.length + l0.length < 140737488355328 then (some (bt268.1 ++ l0)) else (none))
set_option maxHeartbeats 8000000 in
set_option maxRecDepth 100000 in
theorem catenaryref01_Bytes.calls (k : Nat) (A0 : Option Addr) (c0 : Nat) (l0 : List Int) (r : List Int) (w : World) (hr0 : Kd.C (Kd.int .u8) w A0 l0.length l0) (hc0 : l0.length ≤ c0) (h : catenaryref01_Bytes.f k l0 = some r) :
    Calls Try.prog 43 #[.slice A0 l0.length c0] w fun e w' => ∃ v0_ : Value, e = .returned (v0_) ∧ Kd.R (Kd.int .u8) 5 w' w.heap.size (fun _ => True) v0_ r ∧ Below w.heap.size w w' := by
  have HR0 := Aside0.mk hr0
  have HC0 := Aside0.mk hc0
  clear hr0 hc0
  have HB := Aside0.mk (Below.refl w.heap.size w)
  have H : ((catenaryref01_Int.f k (l0.length : Int)).bind fun bt268 => (if bt268.1.length + l0.length < 140737488355328 then (some (bt268.1 ++ l0)) else (none))) = some r := h
  clear h
  replace H := Option.bind_eq_some_iff.mp H
  obtain ⟨⟨t268, t269⟩, A20, H⟩ := H
  replace H : (if t268.length + l0.length < 140737488355328 then (some (t268 ++ l0)) else (none)) = some r := H
  have A2 := Aside0.mk A20
  clear A20
  by_cases c3 : t268.length + l0.length < 140737488355328
  · rw [if_pos c3] at H
    have LMc3 := Aside0.mk c3
    clear c3
    obtain ⟨y272, hy272⟩ : ∃ y_ : List Int, y_ = (t268 ++ l0) := ⟨_, rfl⟩
    replace H : (some y272) = some r := by first | (rw [hy272]; with_reducible exact H) | (have H2_ := (Option.bind_some _ _).symm.trans H; rw [hy272]; with_reducible exact H2_) | (have H2_ := (Option.bind_some _ _).symm.trans H; with_reducible exact H2_) | with_reducible exact H | (rw [hy272]; exact H) | exact H
    have Ny272 := Aside0.mk hy272
    clear hy272
    obtain rfl := Option.some.inj H
    go_enter Try.func43, Try.ntmps43
    go_wp2_with (first | ((with_reducible refine gate_callee (f := 53) rfl ?_); refine goesL_ (some 8) rfl rfl Try.func53 (by kernel_rfl) rfl #[.int .i64 (l0.length : Int)] rfl (by (try simp only [List.map_toArray, List.map_cons, List.map_nil]); first | done | rfl | (simp only [List.length_drop, List.length_take]; rfl)) ?_; (with_reducible refine (catenaryref01_Int.calls k (l0.length : Int) t268 t269 _ A2.out).mono ?_); rintro e w4 ⟨v270, rfl, ho0, hb⟩; refine ⟨_, rfl, ?_⟩; have n0_ := Aside0.mk (Kd.R_lower ho0 (below_size (by repeat (first | (with_reducible first | exact HB.out | apply below_alloc | apply pw_below_drewN | apply below_drew1) | exact HB.out)))); have n1_ := Aside0.mk (below_step (by repeat (first | (with_reducible first | exact HB.out | apply below_alloc | apply pw_below_drewN | apply below_drew1) | exact HB.out)) hb); clear HB; have HO271 := n0_; have HB := n1_; clear n0_ n1_; (try clear hb); (try clear hb2); (try clear hk); (try clear hi); (try clear ho0)) | ((with_reducible refine gate_builtin (b := .append) (xs := #[.tmp 11, .tmp 12]) rfl ?_); at_builtin; refine Kd.R_append_rows (Kd.int .u8) (w0 := w) w.heap.size rfl (.tmp 11) (.tmp 12) 29 5 (.int .u8 0) 1 rfl Try.underlying29 info5 rfl (by decide) (by omega) v270 t268 l0 _ _ _ (fun _ => True) (fun _ => False) rfl rfl ?aO ?aR (fun _ _ h => h) (fun _ h => h.elim) ?aF ?aB ?aS ?aL ?_; (case aR => repeat (first | exact (Kd.C_below HR0.out HB.out) | (with_reducible refine Kd.C_alloc ?_ _) | (with_reducible refine Kd.C_drewN ?_ _) | (with_reducible refine Kd.C_drew ?_))); (case aB => exact (by repeat (first | (with_reducible first | exact HB.out | apply below_alloc | apply pw_below_drewN | apply below_drew1) | exact HB.out))); (case aF => exact (fun _ _ => trivial)); (case aO => exact (by (with_reducible repeat (first | apply Kd.R_alloc | apply Kd.R_drewN | apply Kd.R_drew)); exact HO271.out)); (case aS => exact (below_size (by repeat (first | (with_reducible first | exact HB.out | apply below_alloc | apply pw_below_drewN | apply below_drew1) | exact HB.out)))); (case aL => have := LMc3.out; omega); intro v273 w5 ho hb hg hat; rw [← Ny272.out] at ho; have n0_ := Aside0.mk (hb); have n1_ := Aside0.mk (ho); clear HB; clear HO271; have HB := n0_; have HO274 := n1_; clear n0_ n1_; clear ho hb hg hat))
    go_ret
    exact ⟨_, by first | rfl | (simp [errW_none, errW_some] <;> rfl) | (simp [*, errW_none, errW_some] <;> rfl), by (with_reducible repeat (first | apply Kd.R_alloc | apply Kd.R_drewN | apply Kd.R_drew)); exact HO274.out, by repeat (first | (with_reducible first | exact HB.out | apply below_alloc | apply pw_below_drewN | apply below_drew1) | exact HB.out)⟩
  · rw [if_neg c3] at H
    exact absurd H (by simp)

end Go.Proofs.Ytnabilhcmplhcaa.Q
end
section
/- Written by a program of this session out of the translation; Lean checks it. -/
namespace Go.Proofs.Ytnabilhcmplhcaa.Q
open Go.RowKit Go.Proofs.YtnabilhcmplhcaaW.PrintWords Go.Proofs.YtnabilhcmplhcaaW.PrintLast Go.Proofs.YtnabilhcmplhcaaW.PrintMore
attribute [local go_sem] max2_int min2_int max_two min_two max_three min_three max_four min_four   -- for this text's walks alone
set_option linter.unusedVariables false
set_option linter.unusedSimpArgs false

/-! ### catenaryref01_Pack: function 61 -/
def catenaryref01_Pack.l0 : Nat → List Int → List (List Int) → Int → Int → Option (List Int)
  | 0, _, _, _, _ => none
  | k + 1, x3, x7, x8, x9 => if x9 < x8 then (if 0 ≤ x9 then (if x9 < (x7.length : Int) then ((catenaryref01_Bytes.f k (rd_L2 x7 x9)).bind fun t279 => (if x3.length + t279.length < 140737488355328 then (catenaryref01_Pack.l0 k (x3 ++ t279) x7 x8 (wrap64 (x9 + 1))) else (none))) else (none)) else (none)) else (some x3)
def catenaryref01_Pack.f (k : Nat) (l0 : List (List Int)) : Option (List Int) := catenaryref01_Pack.l0 k (([] : List Int)) l0 (l0.length : Int) 0
set_option maxHeartbeats 8000000 in
set_option maxRecDepth 100000 in
theorem catenaryref01_Pack.calls (k : Nat) (A0 : Option Addr) (c0 : Nat) (l0 : List (List Int)) (r : List Int) (w : World) (hr0 : Kd.C (Kd.slice 5 (Kd.int .u8)) w A0 l0.length l0) (hc0 : l0.length ≤ c0) (h : catenaryref01_Pack.f k l0 = some r) :
    Calls Try.prog 61 #[.slice A0 l0.length c0] w fun e w' => ∃ v0_ : Value, e = .returned (v0_) ∧ Kd.R (Kd.int .u8) 5 w' w.heap.size (fun _ => True) v0_ r ∧ Below w.heap.size w w' := by
  have HR0 := Aside0.mk hr0
  have HC0 := Aside0.mk hc0
  clear hr0 hc0
  have HB := Aside0.mk (Below.refl w.heap.size w)
  have H : (catenaryref01_Pack.l0 k (([] : List Int)) l0 (l0.length : Int) 0) = some r := h
  clear h
  obtain ⟨y275, hy275⟩ : ∃ y_ : List Int, y_ = (([] : List Int)) := ⟨_, rfl⟩
  replace H : (catenaryref01_Pack.l0 k y275 l0 (l0.length : Int) 0) = some r := by first | (rw [hy275]; with_reducible exact H) | (have H2_ := (Option.bind_some _ _).symm.trans H; rw [hy275]; with_reducible exact H2_) | (have H2_ := (Option.bind_some _ _).symm.trans H; with_reducible exact H2_) | with_reducible exact H | (rw [hy275]; exact H) | exact H
  have Ny275 := Aside0.mk hy275
  clear hy275
  have H' := Aside0.mk H
  clear H
  go_enter Try.func61, Try.ntmps61
  go_wp2_with (first | ((with_reducible refine gate_dst (N := 6) rfl ?_); refine Kd.R_lit (Kd.int .u8) _ 5 ?hg (N := 6) ?hd (xs := ([] : List Int)) (inner := []) (ok := fun _ => True) (okp := fun _ => True) ?hr ?hp (fun _ hk => hk) trivial (Below.refl _ _) (Nat.le_refl _) (by simp) ?_; (case hd => rfl); (case hg => rfl); (case hr => first | (go_simp; done) | (go_simp; rfl)); (case hp => exact (Reps.none _ _)); intro v276 w2 ho3 hb hg_ hnew_; clear hg_ hnew_; (first | rw [← Ny275.out] at ho3 | (simp only [Int.reduceToNat] at ho3; rw [← Ny275.out] at ho3)); have n0_ := Aside0.mk (Kd.R_lower ho3 (below_size (by repeat (first | (with_reducible first | exact HB.out | apply below_alloc | apply pw_below_drewN | apply below_drew1) | exact HB.out)))); have n1_ := Aside0.mk (below_step (by repeat (first | (with_reducible first | exact HB.out | apply below_alloc | apply pw_below_drewN | apply below_drew1) | exact HB.out)) hb); clear HB; have HO277 := n0_; have HB := n1_; clear n0_ n1_; clear hb ho3))
  go_loopg [3, 9] k (fun kq v3 v9 w' => ∃ (x3_1 : List Int) (x9_1 : Int), v9 = .int .i64 x9_1 ∧ Aside0 (catenaryref01_Pack.l0 kq x3_1 l0 (l0.length : Int) x9_1 = some r) ∧ Aside0 (kq ≤ k) ∧ Aside0 (Kd.R (Kd.int .u8) 5 w' w.heap.size (fun _ => True) v3 x3_1) ∧ Aside0 (Below w.heap.size w w'))
  case atStart => exact ⟨(y275), (0), (by first | rfl | (simp; done) | (simp [*]; done)), H', ⟨Nat.le_refl _⟩, ⟨by (with_reducible repeat (first | apply Kd.R_alloc | apply Kd.R_drewN | apply Kd.R_drew)); exact HO277.out⟩, ⟨by repeat (first | (with_reducible first | exact HB.out | apply below_alloc | apply pw_below_drewN | apply below_drew1) | exact HB.out)⟩⟩
  case round =>
    clear H'
    try clear p2
    obtain ⟨x3_1, x9_1, rfl, HA, HK1, HO_3, HB⟩ := hrel
    cases gk with
    | zero => exact absurd HA.out (by simp [catenaryref01_Pack.l0])
    | succ k1 =>
      have H := HA.out
      clear HA
      simp only [catenaryref01_Pack.l0] at H
      by_cases c4 : x9_1 < (l0.length : Int)
      · rw [if_pos c4] at H
        have c4b0 : decide (x9_1 < (l0.length : Int)) = true := decide_eq_true c4
        clear c4
        by_cases c5 : 0 ≤ x9_1
        · rw [if_pos c5] at H
          have c5b0 : decide (0 ≤ x9_1) = true := decide_eq_true c5
          clear c5
          by_cases c6 : x9_1 < (l0.length : Int)
          · rw [if_pos c6] at H
            have c6b0 : decide (x9_1 < (l0.length : Int)) = true := decide_eq_true c6
            clear c6
            replace H := Option.bind_eq_some_iff.mp H
            obtain ⟨t279, A70, H⟩ := H
            replace H : (if x3_1.length + t279.length < 140737488355328 then (catenaryref01_Pack.l0 k1 (x3_1 ++ t279) l0 (l0.length : Int) (wrap64 (x9_1 + 1))) else (none)) = some r := H
            have A7 := Aside0.mk A70
            clear A70
            by_cases c8 : x3_1.length + t279.length < 140737488355328
            · rw [if_pos c8] at H
              have LMc8 := Aside0.mk c8
              clear c8
              obtain ⟨y282, hy282⟩ : ∃ y_ : List Int, y_ = (x3_1 ++ t279) := ⟨_, rfl⟩
              replace H : (catenaryref01_Pack.l0 k1 y282 l0 (l0.length : Int) (wrap64 (x9_1 + 1))) = some r := by first | (rw [hy282]; with_reducible exact H) | (have H2_ := (Option.bind_some _ _).symm.trans H; rw [hy282]; with_reducible exact H2_) | (have H2_ := (Option.bind_some _ _).symm.trans H; with_reducible exact H2_) | with_reducible exact H | (rw [hy282]; exact H) | exact H
              have Ny282 := Aside0.mk hy282
              clear hy282
              have H' := Aside0.mk H
              clear H
              have p278 : 0 ≤ (x9_1 : Int) := of_decide_eq_true (by first | (with_reducible assumption) | assumption)
              have q278 : x9_1 < (l0.length : Int) := of_decide_eq_true (by first | (with_reducible assumption) | assumption)
              obtain ⟨ad278, A278_0, c278_0, e278, hx278_0, hl278_0, hi278_0⟩ := at_L2 HR0.out x9_1 p278 q278
              cases e278
              replace hx278_0 := (HB.out.cell (World.block_lt_of_cell? w _ hx278_0)).trans hx278_0
              have HR278_0 := Aside0.mk hi278_0
              have HC278_0 := Aside0.mk hl278_0
              clear hi278_0 hl278_0
              replace p278 := eq_true p278
              replace q278 := eq_true q278
              go_wp2_with (first | ((with_reducible refine gate_callee (f := 43) rfl ?_); refine goesL_ (some 15) rfl rfl Try.func43 (by kernel_rfl) rfl #[.slice A278_0 (rd_L2 l0 x9_1).length c278_0] rfl (by (try simp only [List.map_toArray, List.map_cons, List.map_nil]); first | done | rfl | (simp only [List.length_drop, List.length_take]; rfl)) ?_; (with_reducible refine (catenaryref01_Bytes.calls k1 _ _ (rd_L2 l0 x9_1) t279 _ ?side1 ?side2 A7.out).mono ?_); (case side1 => repeat (first | exact (Kd.C_below HR278_0.out HB.out) | (with_reducible refine Kd.C_alloc ?_ _) | (with_reducible refine Kd.C_drewN ?_ _) | (with_reducible refine Kd.C_drew ?_))); (case side2 => exact HC278_0.out); rintro e w9 ⟨v280, rfl, ho0, hb⟩; refine ⟨_, rfl, ?_⟩; have n0_ := Aside0.mk (Kd.R_elder' (by (with_reducible repeat (first | apply Kd.R_alloc | apply Kd.R_drewN | apply Kd.R_drew)); exact HO_3.out) (Kd.R_base ho0) hb); have n1_ := Aside0.mk (Kd.R_lower (Kd.R_new' ho0 (Kd.R_lt (by (with_reducible repeat (first | apply Kd.R_alloc | apply Kd.R_drewN | apply Kd.R_drew)); exact HO_3.out))) (below_size (by repeat (first | (with_reducible first | exact HB.out | apply below_alloc | apply pw_below_drewN | apply below_drew1) | exact HB.out)))); have n2_ := Aside0.mk (below_step (by repeat (first | (with_reducible first | exact HB.out | apply below_alloc | apply pw_below_drewN | apply below_drew1) | exact HB.out)) hb); clear HO_3; clear HB; have HO_3 := n0_; have HO281 := n1_; have HB := n2_; clear n0_ n1_ n2_; (try clear hb); (try clear hb2); (try clear hk); (try clear hi); (try clear ho0); obtain ⟨Ao11, co11, eo11⟩ := Kd.R_slice HO281.out; subst eo11) | ((with_reducible refine gate_builtin (b := .append) (xs := #[.tmp 13, .tmp 15]) rfl ?_); at_builtin; refine Kd.R_append_rows (Kd.int .u8) (w0 := w) w.heap.size rfl (.tmp 13) (.tmp 15) 29 5 (.int .u8 0) 1 rfl Try.underlying29 info5 rfl (by decide) (by omega) u3 x3_1 t279 _ _ _ (fun k_ => some k_ ≠ (.slice Ao11 t279.length co11 : Value).ownBlock) (fun _ => False) rfl rfl ?aO ?aR (fun _ _ h => h) (fun _ h => h.elim) ?aF ?aB ?aS ?aL ?_; (case aR => repeat (first | exact (Kd.R_reads' HO281.out).2.2 | (with_reducible refine Kd.C_alloc ?_ _) | (with_reducible refine Kd.C_drewN ?_ _) | (with_reducible refine Kd.C_drew ?_))); (case aB => exact (by repeat (first | (with_reducible first | exact HB.out | apply below_alloc | apply pw_below_drewN | apply below_drew1) | exact HB.out))); (case aF => exact (fun k_ hk => Kd.fresh' (Kd.R_lt (by (with_reducible repeat (first | apply Kd.R_alloc | apply Kd.R_drewN | apply Kd.R_drew)); exact HO281.out)) k_ hk)); (case aO => exact (by (with_reducible repeat (first | apply Kd.R_alloc | apply Kd.R_drewN | apply Kd.R_drew)); exact Kd.R_mono HO_3.out (fun _ hk => hk.2))); (case aS => exact (below_size (by repeat (first | (with_reducible first | exact HB.out | apply below_alloc | apply pw_below_drewN | apply below_drew1) | exact HB.out)))); (case aL => have := LMc8.out; omega); intro v283 w10 ho hb hg hat; rw [← Ny282.out] at ho; have n0_ := Aside0.mk (Kd.R_after (ok := (fun _ => True)) (by (with_reducible repeat (first | apply Kd.R_alloc | apply Kd.R_drewN | apply Kd.R_drew)); exact HO281.out) hg hat); have n1_ := Aside0.mk (hb); have n2_ := Aside0.mk (ho); clear HO281; clear HB; clear HO_3; have HO281 := n0_; have HB := n1_; have HO284 := n2_; clear n0_ n1_ n2_; clear ho hb hg hat))
              go_roundg k1
              case measure => have := HK1.out; omega
              case rel => exact ⟨(y282), (wrap64 (x9_1 + 1)), (by first | rfl | (simp; done) | (simp [*]; done)), H', ⟨by have := HK1.out; omega⟩, ⟨by (with_reducible repeat (first | apply Kd.R_alloc | apply Kd.R_drewN | apply Kd.R_drew)); exact Kd.R_mono HO284.out (fun _ hk => trivial)⟩, ⟨by repeat (first | (with_reducible first | exact HB.out | apply below_alloc | apply pw_below_drewN | apply below_drew1) | exact HB.out)⟩⟩
            · rw [if_neg c8] at H
              exact absurd H (by simp)
          · rw [if_neg c6] at H
            exact absurd H (by simp)
        · rw [if_neg c5] at H
          exact absurd H (by simp)
      · rw [if_neg c4] at H
        have c4b0 : decide (x9_1 < (l0.length : Int)) = false := decide_eq_false c4
        clear c4
        obtain rfl := Option.some.inj H
        go_wp2
        go_ret
        exact ⟨_, by first | rfl | (simp [errW_none, errW_some] <;> rfl) | (simp [*, errW_none, errW_some] <;> rfl), by (with_reducible repeat (first | apply Kd.R_alloc | apply Kd.R_drewN | apply Kd.R_drew)); exact HO_3.out, by repeat (first | (with_reducible first | exact HB.out | apply below_alloc | apply pw_below_drewN | apply below_drew1) | exact HB.out)⟩

-- NOT PRINTED: function 57 (catenaryref03_Text)

end Go.Proofs.Ytnabilhcmplhcaa.Q
end
section
/-
  Numbers and texts: the document's functions.
-/
set_option linter.unusedVariables false
set_option linter.unusedSimpArgs false
namespace Go.Proofs.Ytnabilhcmplhcaa.Oct
open Go.RowKit Go.Proofs.Ytnabilhcmplhcaa.Q Go.Proofs.YtnabilhcmplhcaaW.PrintWords Go.Proofs.YtnabilhcmplhcaaW.PrintLast Go.Proofs.YtnabilhcmplhcaaW.PrintMore

/-! ### Two byte lists are one if their texts are -/
theorem same_f {a b : List Int} (ha : Bys a) (hb : Bys b) : catenaryref01_Same.f a b = some (decide (a = b)) := by
  unfold catenaryref01_Same.f
  rw [same_iff ha hb]
theorem same_self (a : List Int) : catenaryref01_Same.f a a = some true := by
  unfold catenaryref01_Same.f
  simp

/-! ### wrap64 and the bits -/
theorem rint_f (m : Nat) : ∀ (n : Int), n.toNat < 128 ^ m → ∀ k, 2 * m + 4 ≤ k → n ≤ 2147483647 → 0 ≤ n → catenaryref01_Int.f k n = some (encI n.toNat, 0) := by
  induction m with
  | zero =>
    intro n hn k hk h1 h0
    obtain ⟨k, rfl⟩ : ∃ m, k = m + 2 := ⟨k - 2, by omega⟩
    simp only [catenaryref01_Int.f]
    rw [if_neg (by omega), decide_eq_false (by omega)]
    simp only [catenaryref01_Int.j0]
    simp only [Nat.pow_zero] at hn
    rw [if_neg (by decide), if_pos (by omega), encI_small (by omega), show n % 256 = ((n.toNat : Nat) : Int) by omega]
  | succ m ih =>
    intro n hn k hk h1 h0
    obtain ⟨k, rfl⟩ : ∃ m, k = m + 2 := ⟨k - 2, by omega⟩
    simp only [catenaryref01_Int.f]
    rw [if_neg (by omega), decide_eq_false (by omega)]
    simp only [catenaryref01_Int.j0]
    rw [if_neg (by decide)]
    by_cases h : n < 128
    · rw [if_pos h, encI_small (by omega), show n % 256 = ((n.toNat : Nat) : Int) by omega]
    · have e1 : Int.tdiv n 128 = n / 128 := Int.tdiv_eq_ediv_of_nonneg h0
      have e2 : Int.tmod n 128 = n % 128 := Int.tmod_eq_emod_of_nonneg h0
      have e3 : (n / 128).toNat = n.toNat / 128 := by omega
      rw [if_neg h, e1, w64 (by omega) (by omega), ih (n / 128) (by rw [Nat.pow_succ] at hn; omega) k (by omega) (by omega) (by omega)]
      have h5 := encI_five (n / 128).toNat (by omega)
      simp only [Option.bind_some]
      rw [if_pos (by simp only [List.length_singleton]; omega), e2, w64 (x := n % 128 + 128) (by omega) (by omega), encI_big (n := n.toNat) (by omega), e3, show (n % 128 + 128) % 256 = ((n.toNat % 128 + 128 : Nat) : Int) by omega]
      rfl
theorem rintA_f (n : Int) : ∀ k, 14 ≤ k → catenaryref01_Int.f k n = some (intA n) := by
  intro k hk
  by_cases h : 0 ≤ n ∧ n ≤ 2147483647
  · rw [intA_yes h]
    exact rint_f 5 n (by simp; omega) k (by omega) h.2 h.1
  · rw [intA_no h]
    obtain ⟨k, rfl⟩ : ∃ m, k = m + 2 := ⟨k - 2, by omega⟩
    simp only [catenaryref01_Int.f]
    by_cases h0 : n < 0
    · rw [if_pos h0]; simp only [catenaryref01_Int.j0]; rw [if_pos trivial]
    · rw [if_neg h0, decide_eq_true (by omega)]; simp only [catenaryref01_Int.j0]; rw [if_pos trivial]

/-! ### GetInt: byte by byte; i: how many were read; n: what they came to -/
theorem rbytes_f (p : List Int) (h : p.length ≤ 140737488351232) : ∀ k, 14 ≤ k → catenaryref01_Bytes.f k p = some (bytesA p) := by
  intro k hk
  unfold catenaryref01_Bytes.f
  rw [rintA_f _ k hk]
  have h5 := intA_len p.length
  simp only [Option.bind_some]
  rw [if_pos (by omega)]
  rfl

/-! ### Pack -/
theorem rpack_loop (ls : List (List Int)) (hs : szL ls ≤ 2097152) (d : Nat) : ∀ (k i : Nat) (acc : List Int), i + d = ls.length → d + 14 < k → acc.length + (packA (ls.drop i)).length < 140737488355328 →
    catenaryref01_Pack.l0 k acc ls (ls.length : Int) (i : Int) = some (acc ++ packA (ls.drop i)) := by
  induction d with
  | zero =>
    intro k i acc hi hk ha
    obtain ⟨k, rfl⟩ : ∃ m, k = m + 1 := ⟨k - 1, by omega⟩
    simp only [catenaryref01_Pack.l0]
    rw [if_neg (by omega), List.drop_eq_nil_of_le (by omega), packA_nil, List.append_nil]
  | succ d ih =>
    intro k i acc hi hk ha
    obtain ⟨k, rfl⟩ : ∃ m, k = m + 1 := ⟨k - 1, by omega⟩
    cases hd : ls.drop i with
    | nil => have := dropL_nil hd; omega
    | cons p t =>
      obtain ⟨hr, hlt, ht⟩ := rdL_drop hd
      have hm : p ∈ ls := List.mem_of_mem_drop (by rw [hd]; simp)
      have hp := szL_mem hm
      have hl := szL_len ls
      rw [hd, packA_cons, List.length_append] at ha
      simp only [catenaryref01_Pack.l0]
      rw [if_pos (by omega), if_pos (by omega), if_pos (by omega), hr, rbytes_f p (by omega) k (by omega)]
      simp only [Option.bind_some]
      rw [if_pos (by omega), nxt hlt (by omega), ih k (i + 1) (acc ++ bytesA p) (by omega) (by omega) (by rw [ht, List.length_append]; omega), ht, packA_cons, List.append_assoc]
theorem rpack_f (ls : List (List Int)) (hs : szL ls ≤ 2097152) : ∀ k, ls.length + 15 ≤ k → catenaryref01_Pack.f k ls = some (packA ls) := by
  intro k hk
  have h1 := packA_len ls
  have := rpack_loop ls hs ls.length k 0 [] (by omega) (by omega) (by rw [List.drop_zero]; simp; omega)
  unfold catenaryref01_Pack.f
  rw [List.drop_zero, List.nil_append] at this
  exact this

/-! ### Copy, SameList -/
end Go.Proofs.Ytnabilhcmplhcaa.Oct
end
