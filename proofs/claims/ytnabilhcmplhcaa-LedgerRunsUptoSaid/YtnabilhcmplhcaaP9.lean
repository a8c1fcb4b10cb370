/- Parts of the proof of LedgerRunsUptoSaid: laid together and cut down to what LedgerRuns' proof uses (parts: Qx20, LdY, LrC, Qx1, LrE, LrF). -/
import Derived.Test.YtnabilhcmplhcaaP1
import Derived.Test.YtnabilhcmplhcaaP5
import Derived.Test.YtnabilhcmplhcaaP8
import Derived.Deep.RegionHeld3
import Derived.Test.YtnabilhcmplhcaaP7
import Derived.Lib.Bytealg
import Derived.Laws.CopyRow
import Derived.Test.YtnabilhcmplhcaaP0
section
/- Written by a program of this session out of the translation; Lean checks it. -/
namespace Go.Proofs.Ytnabilhcmplhcaa.Q
open Go.RowKit Go.Proofs.YtnabilhcmplhcaaW.PrintWords Go.Proofs.YtnabilhcmplhcaaW.PrintLast Go.Proofs.YtnabilhcmplhcaaW.PrintMore
attribute [local go_sem] max2_int min2_int max_two min_two max_three min_three max_four min_four   -- for this text's walks alone
set_option linter.unusedVariables false
set_option linter.unusedSimpArgs false

-- NOT PRINTED: function 32 (catenaryref15_Evidence)

-- NOT PRINTED: function 15 (catenaryref15_Note)

/-! ### catenaryref05_SameReq: function 18 -/
def catenaryref05_SameReq.f (a0_0 : Int) (a0_1 : Int) (l0_2 : List Int) (l0_3 : List Int) (a1_0 : Int) (a1_1 : Int) (l1_2 : List Int) (l1_3 : List Int) : Option (Bool) := if a0_0 = a1_0 then (if a0_1 = a1_1 then ((catenaryref01_Same.f l0_2 l1_2).bind fun t370 => (if t370 = true then ((catenaryref01_Same.f l0_3 l1_3).bind fun t371 => (some t371)) else (some false))) else (some false)) else (some false)
set_option maxHeartbeats 8000000 in
set_option maxRecDepth 100000 in
theorem catenaryref05_SameReq.calls (a0_0 : Int) (a0_1 : Int) (A0_2 : Option Addr) (c0_2 : Nat) (l0_2 : List Int) (A0_3 : Option Addr) (c0_3 : Nat) (l0_3 : List Int) (a1_0 : Int) (a1_1 : Int) (A1_2 : Option Addr) (c1_2 : Nat) (l1_2 : List Int) (A1_3 : Option Addr) (c1_3 : Nat) (l1_3 : List Int) (r : Bool) (w : World) (hr0_2 : Kd.C (Kd.int .u8) w A0_2 l0_2.length l0_2) (hc0_2 : l0_2.length ≤ c0_2) (hr0_3 : Kd.C (Kd.int .u8) w A0_3 l0_3.length l0_3) (hc0_3 : l0_3.length ≤ c0_3) (hr1_2 : Kd.C (Kd.int .u8) w A1_2 l1_2.length l1_2) (hc1_2 : l1_2.length ≤ c1_2) (hr1_3 : Kd.C (Kd.int .u8) w A1_3 l1_3.length l1_3) (hc1_3 : l1_3.length ≤ c1_3) (h : catenaryref05_SameReq.f a0_0 a0_1 l0_2 l0_3 a1_0 a1_1 l1_2 l1_3 = some r) :
    Calls Try.prog 18 #[.agg #[.int .i64 a0_0, .int .i64 a0_1, .slice A0_2 l0_2.length c0_2, .slice A0_3 l0_3.length c0_3], .agg #[.int .i64 a1_0, .int .i64 a1_1, .slice A1_2 l1_2.length c1_2, .slice A1_3 l1_3.length c1_3]] w fun e w' => e = .returned (.bool r) ∧ Below w.heap.size w w' := by
  have hu31 := Try.underlying31
  have HR0_2 := Aside0.mk hr0_2
  have HC0_2 := Aside0.mk hc0_2
  clear hr0_2 hc0_2
  have HR0_3 := Aside0.mk hr0_3
  have HC0_3 := Aside0.mk hc0_3
  clear hr0_3 hc0_3
  have HR1_2 := Aside0.mk hr1_2
  have HC1_2 := Aside0.mk hc1_2
  clear hr1_2 hc1_2
  have HR1_3 := Aside0.mk hr1_3
  have HC1_3 := Aside0.mk hc1_3
  clear hr1_3 hc1_3
  have HB := Aside0.mk (Below.refl w.heap.size w)
  have H : (if a0_0 = a1_0 then (if a0_1 = a1_1 then ((catenaryref01_Same.f l0_2 l1_2).bind fun t370 => (if t370 = true then ((catenaryref01_Same.f l0_3 l1_3).bind fun t371 => (some t371)) else (some false))) else (some false)) else (some false)) = some r := h
  clear h
  by_cases c3 : a0_0 = a1_0
  · rw [if_pos c3] at H
    have c3b0 : (a0_0 == a1_0) = true := beq_iff_eq.mpr c3
    have c3b1 : (a0_0 != a1_0) = false := bne_eq_false_iff_eq.mpr c3
    clear c3
    by_cases c4 : a0_1 = a1_1
    · rw [if_pos c4] at H
      have c4b0 : (a0_1 == a1_1) = true := beq_iff_eq.mpr c4
      have c4b1 : (a0_1 != a1_1) = false := bne_eq_false_iff_eq.mpr c4
      clear c4
      replace H := Option.bind_eq_some_iff.mp H
      obtain ⟨t370, A50, H⟩ := H
      replace H : (if t370 = true then ((catenaryref01_Same.f l0_3 l1_3).bind fun t371 => (some t371)) else (some false)) = some r := H
      have A5 := Aside0.mk A50
      clear A50
      by_cases c6 : t370 = true
      · subst c6
        have H1 : ((catenaryref01_Same.f l0_3 l1_3).bind fun t371 => (some t371)) = some r := by rw [if_pos rfl] at H; exact H
        clear H
        have H := H1
        clear H1
        replace H := Option.bind_eq_some_iff.mp H
        obtain ⟨t371, A70, H⟩ := H
        replace H : (some t371) = some r := H
        have A7 := Aside0.mk A70
        clear A70
        obtain rfl := Option.some.inj H
        go_enter Try.func18, Try.ntmps18
        go_wp2_with (first | ((with_reducible refine gate_dst (N := 2) rfl ?_); refine box_event ?hg (N := 2) ?hd (cs := #[.int .i64 a0_0, .int .i64 a0_1, .slice A0_2 l0_2.length c0_2, .slice A0_3 l0_3.length c0_3]) (t := 31) ?hr ?_; (case hd => rfl); (case hg => rfl); (case hr => first | (go_simp; done) | (go_simp; rfl)); intro gb368 hg w8 hbox hb; have n0_ := Aside0.mk (below_step (by repeat (first | (with_reducible first | exact HB.out | apply below_alloc | apply pw_below_drewN | apply below_drew1) | exact HB.out)) hb); have n1_ := Aside0.mk (hbox); have n2_ := Aside0.mk ((by rw [hg]; exact (below_size (by repeat (first | (with_reducible first | exact HB.out | apply below_alloc | apply pw_below_drewN | apply below_drew1) | exact HB.out))) : w.heap.size ≤ gb368)); have n3_ := Aside0.mk ((by rw [hg]; exact (below_size (by repeat (first | (with_reducible first | exact HB.out | apply below_alloc | apply pw_below_drewN | apply below_drew1) | exact HB.out))) : w.heap.size ≤ gb368)); clear HB; have HB := n0_; have BK368 := n1_; have GW368 := n2_; have GE368 := n3_; clear n0_ n1_ n2_ n3_; clear hb hbox hg) | ((with_reducible refine gate_dst (N := 3) rfl ?_); refine box_event ?hg (N := 3) ?hd (cs := #[.int .i64 a1_0, .int .i64 a1_1, .slice A1_2 l1_2.length c1_2, .slice A1_3 l1_3.length c1_3]) (t := 31) ?hr ?_; (case hd => rfl); (case hg => rfl); (case hr => first | (go_simp; done) | (go_simp; rfl)); intro gb369 hg w9 hbox hb; have n0_ := Aside0.mk (blk_below (g := gb368) (o := .cells #[.int .i64 a0_0, .int .i64 a0_1, .slice A0_2 l0_2.length c0_2, .slice A0_3 l0_3.length c0_3] 31 (0, 0)) (by (with_reducible repeat (first | refine blk_drewN ?_ _ | refine blk_drew ?_ | refine blk_alloc ?_ _)); exact BK368.out) hb); have n1_ := Aside0.mk (below_step (by repeat (first | (with_reducible first | exact HB.out | apply below_alloc | apply pw_below_drewN | apply below_drew1 | refine below_set ?_ GE368.out) | exact HB.out)) hb); have n2_ := Aside0.mk (hbox); have n3_ := Aside0.mk ((by rw [hg]; exact (below_size (by repeat (first | (with_reducible first | exact HB.out | apply below_alloc | apply pw_below_drewN | apply below_drew1 | refine below_set ?_ GE368.out) | exact HB.out))) : w.heap.size ≤ gb369)); have n4_ := Aside0.mk ((by rw [hg]; exact (below_size (by repeat (first | (with_reducible first | exact HB.out | apply below_alloc | apply pw_below_drewN | apply below_drew1 | refine below_set ?_ GE368.out) | exact HB.out))) : w.heap.size ≤ gb369)); have n5_ := Aside0.mk ((by rw [hg]; exact Nat.ne_of_lt (blk_lt (g := gb368) (o := .cells #[.int .i64 a0_0, .int .i64 a0_1, .slice A0_2 l0_2.length c0_2, .slice A0_3 l0_3.length c0_3] 31 (0, 0)) (by (with_reducible repeat (first | refine blk_drewN ?_ _ | refine blk_drew ?_ | refine blk_alloc ?_ _)); exact BK368.out)) : gb368 ≠ gb369)); have n6_ := Aside0.mk ((by rw [hg]; exact Nat.ne_of_gt (blk_lt (g := gb368) (o := .cells #[.int .i64 a0_0, .int .i64 a0_1, .slice A0_2 l0_2.length c0_2, .slice A0_3 l0_3.length c0_3] 31 (0, 0)) (by (with_reducible repeat (first | refine blk_drewN ?_ _ | refine blk_drew ?_ | refine blk_alloc ?_ _)); exact BK368.out)) : gb369 ≠ gb368)); clear BK368; clear HB; have BK368 := n0_; have HB := n1_; have BK369 := n2_; have GW369 := n3_; have GE369 := n4_; have NB368_369 := n5_; have NB369_368 := n6_; clear n0_ n1_ n2_ n3_ n4_ n5_ n6_; clear hb hbox hg; have hnb10 := NB368_369.out; have hnc10 := NB369_368.out; have hcz11_0 : w9.cell? ⟨gb368, 0, none⟩ = some (.int .i64 a0_0) := (blk_cell BK368.out 0).trans rfl; have hcz11_1 : w9.cell? ⟨gb368, 1, none⟩ = some (.int .i64 a0_1) := (blk_cell BK368.out 1).trans rfl; have hcz11_2 : w9.cell? ⟨gb368, 2, none⟩ = some (.slice A0_2 l0_2.length c0_2) := (blk_cell BK368.out 2).trans rfl; have hcz11_3 : w9.cell? ⟨gb368, 3, none⟩ = some (.slice A0_3 l0_3.length c0_3) := (blk_cell BK368.out 3).trans rfl; have hfz11_0 := blk_frozen BK368.out 0; have hfz11_1 := blk_frozen BK368.out 1; have hfz11_2 := blk_frozen BK368.out 2; have hfz11_3 := blk_frozen BK368.out 3; have hcz12_0 : w9.cell? ⟨gb369, 0, none⟩ = some (.int .i64 a1_0) := (blk_cell BK369.out 0).trans rfl; have hcz12_1 : w9.cell? ⟨gb369, 1, none⟩ = some (.int .i64 a1_1) := (blk_cell BK369.out 1).trans rfl; have hcz12_2 : w9.cell? ⟨gb369, 2, none⟩ = some (.slice A1_2 l1_2.length c1_2) := (blk_cell BK369.out 2).trans rfl; have hcz12_3 : w9.cell? ⟨gb369, 3, none⟩ = some (.slice A1_3 l1_3.length c1_3) := (blk_cell BK369.out 3).trans rfl; have hfz12_0 := blk_frozen BK369.out 0; have hfz12_1 := blk_frozen BK369.out 1; have hfz12_2 := blk_frozen BK369.out 2; have hfz12_3 := blk_frozen BK369.out 3) | (go_at_call 31; (with_reducible refine (catenaryref01_Same.calls _ _ l0_2 _ _ l1_2 true _ ?side1 ?side2 ?side3 ?side4 A5.out).mono ?_); (case side1 => repeat (first | exact (Kd.C_below HR0_2.out HB.out) | (with_reducible refine Kd.C_alloc ?_ _) | (with_reducible refine Kd.C_drewN ?_ _) | (with_reducible refine Kd.C_drew ?_))); (case side2 => exact HC0_2.out); (case side3 => repeat (first | exact (Kd.C_below HR1_2.out HB.out) | (with_reducible refine Kd.C_alloc ?_ _) | (with_reducible refine Kd.C_drewN ?_ _) | (with_reducible refine Kd.C_drew ?_))); (case side4 => exact HC1_2.out); rintro e w' ⟨rfl, ⟨nd, rfl⟩⟩) | (go_at_call 31; (with_reducible refine (catenaryref01_Same.calls _ _ l0_3 _ _ l1_3 t371 _ ?side1 ?side2 ?side3 ?side4 A7.out).mono ?_); (case side1 => repeat (first | exact (Kd.C_below HR0_3.out (by repeat (first | (with_reducible first | exact HB.out | apply below_alloc | apply pw_below_drewN | apply below_drew1 | refine below_set ?_ GE368.out | refine below_set ?_ GE369.out) | exact HB.out))) | (with_reducible refine Kd.C_alloc ?_ _) | (with_reducible refine Kd.C_drewN ?_ _) | (with_reducible refine Kd.C_drew ?_))); (case side2 => exact HC0_3.out); (case side3 => repeat (first | exact (Kd.C_below HR1_3.out (by repeat (first | (with_reducible first | exact HB.out | apply below_alloc | apply pw_below_drewN | apply below_drew1 | refine below_set ?_ GE368.out | refine below_set ?_ GE369.out) | exact HB.out))) | (with_reducible refine Kd.C_alloc ?_ _) | (with_reducible refine Kd.C_drewN ?_ _) | (with_reducible refine Kd.C_drew ?_))); (case side4 => exact HC1_3.out); rintro e w' ⟨rfl, ⟨nd, rfl⟩⟩))
        go_ret
        exact ⟨by first | rfl | (simp [errW_none, errW_some] <;> rfl) | (simp [*, errW_none, errW_some] <;> rfl), by repeat (first | (with_reducible first | exact HB.out | apply below_alloc | apply pw_below_drewN | apply below_drew1 | refine below_set ?_ GE368.out | refine below_set ?_ GE369.out) | exact HB.out)⟩
      · replace c6 := Bool.eq_false_iff.mpr c6
        subst c6
        have H1 : (some false) = some r := by rw [if_neg (show ¬ (false = true) by decide)] at H; exact H
        clear H
        have H := H1
        clear H1
        obtain rfl := Option.some.inj H
        go_enter Try.func18, Try.ntmps18
        go_wp2_with (first | ((with_reducible refine gate_dst (N := 2) rfl ?_); refine box_event ?hg (N := 2) ?hd (cs := #[.int .i64 a0_0, .int .i64 a0_1, .slice A0_2 l0_2.length c0_2, .slice A0_3 l0_3.length c0_3]) (t := 31) ?hr ?_; (case hd => rfl); (case hg => rfl); (case hr => first | (go_simp; done) | (go_simp; rfl)); intro gb368 hg w13 hbox hb; have n0_ := Aside0.mk (below_step (by repeat (first | (with_reducible first | exact HB.out | apply below_alloc | apply pw_below_drewN | apply below_drew1) | exact HB.out)) hb); have n1_ := Aside0.mk (hbox); have n2_ := Aside0.mk ((by rw [hg]; exact (below_size (by repeat (first | (with_reducible first | exact HB.out | apply below_alloc | apply pw_below_drewN | apply below_drew1) | exact HB.out))) : w.heap.size ≤ gb368)); have n3_ := Aside0.mk ((by rw [hg]; exact (below_size (by repeat (first | (with_reducible first | exact HB.out | apply below_alloc | apply pw_below_drewN | apply below_drew1) | exact HB.out))) : w.heap.size ≤ gb368)); clear HB; have HB := n0_; have BK368 := n1_; have GW368 := n2_; have GE368 := n3_; clear n0_ n1_ n2_ n3_; clear hb hbox hg) | ((with_reducible refine gate_dst (N := 3) rfl ?_); refine box_event ?hg (N := 3) ?hd (cs := #[.int .i64 a1_0, .int .i64 a1_1, .slice A1_2 l1_2.length c1_2, .slice A1_3 l1_3.length c1_3]) (t := 31) ?hr ?_; (case hd => rfl); (case hg => rfl); (case hr => first | (go_simp; done) | (go_simp; rfl)); intro gb369 hg w14 hbox hb; have n0_ := Aside0.mk (blk_below (g := gb368) (o := .cells #[.int .i64 a0_0, .int .i64 a0_1, .slice A0_2 l0_2.length c0_2, .slice A0_3 l0_3.length c0_3] 31 (0, 0)) (by (with_reducible repeat (first | refine blk_drewN ?_ _ | refine blk_drew ?_ | refine blk_alloc ?_ _)); exact BK368.out) hb); have n1_ := Aside0.mk (below_step (by repeat (first | (with_reducible first | exact HB.out | apply below_alloc | apply pw_below_drewN | apply below_drew1 | refine below_set ?_ GE368.out) | exact HB.out)) hb); have n2_ := Aside0.mk (hbox); have n3_ := Aside0.mk ((by rw [hg]; exact (below_size (by repeat (first | (with_reducible first | exact HB.out | apply below_alloc | apply pw_below_drewN | apply below_drew1 | refine below_set ?_ GE368.out) | exact HB.out))) : w.heap.size ≤ gb369)); have n4_ := Aside0.mk ((by rw [hg]; exact (below_size (by repeat (first | (with_reducible first | exact HB.out | apply below_alloc | apply pw_below_drewN | apply below_drew1 | refine below_set ?_ GE368.out) | exact HB.out))) : w.heap.size ≤ gb369)); have n5_ := Aside0.mk ((by rw [hg]; exact Nat.ne_of_lt (blk_lt (g := gb368) (o := .cells #[.int .i64 a0_0, .int .i64 a0_1, .slice A0_2 l0_2.length c0_2, .slice A0_3 l0_3.length c0_3] 31 (0, 0)) (by (with_reducible repeat (first | refine blk_drewN ?_ _ | refine blk_drew ?_ | refine blk_alloc ?_ _)); exact BK368.out)) : gb368 ≠ gb369)); have n6_ := Aside0.mk ((by rw [hg]; exact Nat.ne_of_gt (blk_lt (g := gb368) (o := .cells #[.int .i64 a0_0, .int .i64 a0_1, .slice A0_2 l0_2.length c0_2, .slice A0_3 l0_3.length c0_3] 31 (0, 0)) (by (with_reducible repeat (first | refine blk_drewN ?_ _ | refine blk_drew ?_ | refine blk_alloc ?_ _)); exact BK368.out)) : gb369 ≠ gb368)); clear BK368; clear HB; have BK368 := n0_; have HB := n1_; have BK369 := n2_; have GW369 := n3_; have GE369 := n4_; have NB368_369 := n5_; have NB369_368 := n6_; clear n0_ n1_ n2_ n3_ n4_ n5_ n6_; clear hb hbox hg; have hnb15 := NB368_369.out; have hnc15 := NB369_368.out; have hcz16_0 : w14.cell? ⟨gb368, 0, none⟩ = some (.int .i64 a0_0) := (blk_cell BK368.out 0).trans rfl; have hcz16_1 : w14.cell? ⟨gb368, 1, none⟩ = some (.int .i64 a0_1) := (blk_cell BK368.out 1).trans rfl; have hcz16_2 : w14.cell? ⟨gb368, 2, none⟩ = some (.slice A0_2 l0_2.length c0_2) := (blk_cell BK368.out 2).trans rfl; have hcz16_3 : w14.cell? ⟨gb368, 3, none⟩ = some (.slice A0_3 l0_3.length c0_3) := (blk_cell BK368.out 3).trans rfl; have hfz16_0 := blk_frozen BK368.out 0; have hfz16_1 := blk_frozen BK368.out 1; have hfz16_2 := blk_frozen BK368.out 2; have hfz16_3 := blk_frozen BK368.out 3; have hcz17_0 : w14.cell? ⟨gb369, 0, none⟩ = some (.int .i64 a1_0) := (blk_cell BK369.out 0).trans rfl; have hcz17_1 : w14.cell? ⟨gb369, 1, none⟩ = some (.int .i64 a1_1) := (blk_cell BK369.out 1).trans rfl; have hcz17_2 : w14.cell? ⟨gb369, 2, none⟩ = some (.slice A1_2 l1_2.length c1_2) := (blk_cell BK369.out 2).trans rfl; have hcz17_3 : w14.cell? ⟨gb369, 3, none⟩ = some (.slice A1_3 l1_3.length c1_3) := (blk_cell BK369.out 3).trans rfl; have hfz17_0 := blk_frozen BK369.out 0; have hfz17_1 := blk_frozen BK369.out 1; have hfz17_2 := blk_frozen BK369.out 2; have hfz17_3 := blk_frozen BK369.out 3) | (go_at_call 31; (with_reducible refine (catenaryref01_Same.calls _ _ l0_2 _ _ l1_2 false _ ?side1 ?side2 ?side3 ?side4 A5.out).mono ?_); (case side1 => repeat (first | exact (Kd.C_below HR0_2.out HB.out) | (with_reducible refine Kd.C_alloc ?_ _) | (with_reducible refine Kd.C_drewN ?_ _) | (with_reducible refine Kd.C_drew ?_))); (case side2 => exact HC0_2.out); (case side3 => repeat (first | exact (Kd.C_below HR1_2.out HB.out) | (with_reducible refine Kd.C_alloc ?_ _) | (with_reducible refine Kd.C_drewN ?_ _) | (with_reducible refine Kd.C_drew ?_))); (case side4 => exact HC1_2.out); rintro e w' ⟨rfl, ⟨nd, rfl⟩⟩))
        go_ret
        exact ⟨by first | rfl | (simp [errW_none, errW_some] <;> rfl) | (simp [*, errW_none, errW_some] <;> rfl), by repeat (first | (with_reducible first | exact HB.out | apply below_alloc | apply pw_below_drewN | apply below_drew1 | refine below_set ?_ GE368.out | refine below_set ?_ GE369.out) | exact HB.out)⟩
    · rw [if_neg c4] at H
      have c4b0 : (a0_1 == a1_1) = false := beq_eq_false_iff_ne.mpr c4
      have c4b1 : (a0_1 != a1_1) = true := bne_iff_ne.mpr c4
      obtain rfl := Option.some.inj H
      go_enter Try.func18, Try.ntmps18
      go_wp2_with (first | ((with_reducible refine gate_dst (N := 2) rfl ?_); refine box_event ?hg (N := 2) ?hd (cs := #[.int .i64 a0_0, .int .i64 a0_1, .slice A0_2 l0_2.length c0_2, .slice A0_3 l0_3.length c0_3]) (t := 31) ?hr ?_; (case hd => rfl); (case hg => rfl); (case hr => first | (go_simp; done) | (go_simp; rfl)); intro gb368 hg w18 hbox hb; have n0_ := Aside0.mk (below_step (by repeat (first | (with_reducible first | exact HB.out | apply below_alloc | apply pw_below_drewN | apply below_drew1) | exact HB.out)) hb); have n1_ := Aside0.mk (hbox); have n2_ := Aside0.mk ((by rw [hg]; exact (below_size (by repeat (first | (with_reducible first | exact HB.out | apply below_alloc | apply pw_below_drewN | apply below_drew1) | exact HB.out))) : w.heap.size ≤ gb368)); have n3_ := Aside0.mk ((by rw [hg]; exact (below_size (by repeat (first | (with_reducible first | exact HB.out | apply below_alloc | apply pw_below_drewN | apply below_drew1) | exact HB.out))) : w.heap.size ≤ gb368)); clear HB; have HB := n0_; have BK368 := n1_; have GW368 := n2_; have GE368 := n3_; clear n0_ n1_ n2_ n3_; clear hb hbox hg) | ((with_reducible refine gate_dst (N := 3) rfl ?_); refine box_event ?hg (N := 3) ?hd (cs := #[.int .i64 a1_0, .int .i64 a1_1, .slice A1_2 l1_2.length c1_2, .slice A1_3 l1_3.length c1_3]) (t := 31) ?hr ?_; (case hd => rfl); (case hg => rfl); (case hr => first | (go_simp; done) | (go_simp; rfl)); intro gb369 hg w19 hbox hb; have n0_ := Aside0.mk (blk_below (g := gb368) (o := .cells #[.int .i64 a0_0, .int .i64 a0_1, .slice A0_2 l0_2.length c0_2, .slice A0_3 l0_3.length c0_3] 31 (0, 0)) (by (with_reducible repeat (first | refine blk_drewN ?_ _ | refine blk_drew ?_ | refine blk_alloc ?_ _)); exact BK368.out) hb); have n1_ := Aside0.mk (below_step (by repeat (first | (with_reducible first | exact HB.out | apply below_alloc | apply pw_below_drewN | apply below_drew1 | refine below_set ?_ GE368.out) | exact HB.out)) hb); have n2_ := Aside0.mk (hbox); have n3_ := Aside0.mk ((by rw [hg]; exact (below_size (by repeat (first | (with_reducible first | exact HB.out | apply below_alloc | apply pw_below_drewN | apply below_drew1 | refine below_set ?_ GE368.out) | exact HB.out))) : w.heap.size ≤ gb369)); have n4_ := Aside0.mk ((by rw [hg]; exact (below_size (by repeat (first | (with_reducible first | exact HB.out | apply below_alloc | apply pw_below_drewN | apply below_drew1 | refine below_set ?_ GE368.out) | exact HB.out))) : w.heap.size ≤ gb369)); have n5_ := Aside0.mk ((by rw [hg]; exact Nat.ne_of_lt (blk_lt (g := gb368) (o := .cells #[.int .i64 a0_0, .int .i64 a0_1, .slice A0_2 l0_2.length c0_2, .slice A0_3 l0_3.length c0_3] 31 (0, 0)) (by (with_reducible repeat (first | refine blk_drewN ?_ _ | refine blk_drew ?_ | refine blk_alloc ?_ _)); exact BK368.out)) : gb368 ≠ gb369)); have n6_ := Aside0.mk ((by rw [hg]; exact Nat.ne_of_gt (blk_lt (g := gb368) (o := .cells #[.int .i64 a0_0, .int .i64 a0_1, .slice A0_2 l0_2.length c0_2, .slice A0_3 l0_3.length c0_3] 31 (0, 0)) (by (with_reducible repeat (first | refine blk_drewN ?_ _ | refine blk_drew ?_ | refine blk_alloc ?_ _)); exact BK368.out)) : gb369 ≠ gb368)); clear BK368; clear HB; have BK368 := n0_; have HB := n1_; have BK369 := n2_; have GW369 := n3_; have GE369 := n4_; have NB368_369 := n5_; have NB369_368 := n6_; clear n0_ n1_ n2_ n3_ n4_ n5_ n6_; clear hb hbox hg; have hnb20 := NB368_369.out; have hnc20 := NB369_368.out; have hcz21_0 : w19.cell? ⟨gb368, 0, none⟩ = some (.int .i64 a0_0) := (blk_cell BK368.out 0).trans rfl; have hcz21_1 : w19.cell? ⟨gb368, 1, none⟩ = some (.int .i64 a0_1) := (blk_cell BK368.out 1).trans rfl; have hcz21_2 : w19.cell? ⟨gb368, 2, none⟩ = some (.slice A0_2 l0_2.length c0_2) := (blk_cell BK368.out 2).trans rfl; have hcz21_3 : w19.cell? ⟨gb368, 3, none⟩ = some (.slice A0_3 l0_3.length c0_3) := (blk_cell BK368.out 3).trans rfl; have hfz21_0 := blk_frozen BK368.out 0; have hfz21_1 := blk_frozen BK368.out 1; have hfz21_2 := blk_frozen BK368.out 2; have hfz21_3 := blk_frozen BK368.out 3; have hcz22_0 : w19.cell? ⟨gb369, 0, none⟩ = some (.int .i64 a1_0) := (blk_cell BK369.out 0).trans rfl; have hcz22_1 : w19.cell? ⟨gb369, 1, none⟩ = some (.int .i64 a1_1) := (blk_cell BK369.out 1).trans rfl; have hcz22_2 : w19.cell? ⟨gb369, 2, none⟩ = some (.slice A1_2 l1_2.length c1_2) := (blk_cell BK369.out 2).trans rfl; have hcz22_3 : w19.cell? ⟨gb369, 3, none⟩ = some (.slice A1_3 l1_3.length c1_3) := (blk_cell BK369.out 3).trans rfl; have hfz22_0 := blk_frozen BK369.out 0; have hfz22_1 := blk_frozen BK369.out 1; have hfz22_2 := blk_frozen BK369.out 2; have hfz22_3 := blk_frozen BK369.out 3))
      go_ret
      exact ⟨by first | rfl | (simp [errW_none, errW_some] <;> rfl) | (simp [*, errW_none, errW_some] <;> rfl), by repeat (first | (with_reducible first | exact HB.out | apply below_alloc | apply pw_below_drewN | apply below_drew1 | refine below_set ?_ GE368.out | refine below_set ?_ GE369.out) | exact HB.out)⟩
  · rw [if_neg c3] at H
    have c3b0 : (a0_0 == a1_0) = false := beq_eq_false_iff_ne.mpr c3
    have c3b1 : (a0_0 != a1_0) = true := bne_iff_ne.mpr c3
    obtain rfl := Option.some.inj H
    go_enter Try.func18, Try.ntmps18
    go_wp2_with (first | ((with_reducible refine gate_dst (N := 2) rfl ?_); refine box_event ?hg (N := 2) ?hd (cs := #[.int .i64 a0_0, .int .i64 a0_1, .slice A0_2 l0_2.length c0_2, .slice A0_3 l0_3.length c0_3]) (t := 31) ?hr ?_; (case hd => rfl); (case hg => rfl); (case hr => first | (go_simp; done) | (go_simp; rfl)); intro gb368 hg w23 hbox hb; have n0_ := Aside0.mk (below_step (by repeat (first | (with_reducible first | exact HB.out | apply below_alloc | apply pw_below_drewN | apply below_drew1) | exact HB.out)) hb); have n1_ := Aside0.mk (hbox); have n2_ := Aside0.mk ((by rw [hg]; exact (below_size (by repeat (first | (with_reducible first | exact HB.out | apply below_alloc | apply pw_below_drewN | apply below_drew1) | exact HB.out))) : w.heap.size ≤ gb368)); have n3_ := Aside0.mk ((by rw [hg]; exact (below_size (by repeat (first | (with_reducible first | exact HB.out | apply below_alloc | apply pw_below_drewN | apply below_drew1) | exact HB.out))) : w.heap.size ≤ gb368)); clear HB; have HB := n0_; have BK368 := n1_; have GW368 := n2_; have GE368 := n3_; clear n0_ n1_ n2_ n3_; clear hb hbox hg) | ((with_reducible refine gate_dst (N := 3) rfl ?_); refine box_event ?hg (N := 3) ?hd (cs := #[.int .i64 a1_0, .int .i64 a1_1, .slice A1_2 l1_2.length c1_2, .slice A1_3 l1_3.length c1_3]) (t := 31) ?hr ?_; (case hd => rfl); (case hg => rfl); (case hr => first | (go_simp; done) | (go_simp; rfl)); intro gb369 hg w24 hbox hb; have n0_ := Aside0.mk (blk_below (g := gb368) (o := .cells #[.int .i64 a0_0, .int .i64 a0_1, .slice A0_2 l0_2.length c0_2, .slice A0_3 l0_3.length c0_3] 31 (0, 0)) (by (with_reducible repeat (first | refine blk_drewN ?_ _ | refine blk_drew ?_ | refine blk_alloc ?_ _)); exact BK368.out) hb); have n1_ := Aside0.mk (below_step (by repeat (first | (with_reducible first | exact HB.out | apply below_alloc | apply pw_below_drewN | apply below_drew1 | refine below_set ?_ GE368.out) | exact HB.out)) hb); have n2_ := Aside0.mk (hbox); have n3_ := Aside0.mk ((by rw [hg]; exact (below_size (by repeat (first | (with_reducible first | exact HB.out | apply below_alloc | apply pw_below_drewN | apply below_drew1 | refine below_set ?_ GE368.out) | exact HB.out))) : w.heap.size ≤ gb369)); have n4_ := Aside0.mk ((by rw [hg]; exact (below_size (by repeat (first | (with_reducible first | exact HB.out | apply below_alloc | apply pw_below_drewN | apply below_drew1 | refine below_set ?_ GE368.out) | exact HB.out))) : w.heap.size ≤ gb369)); have n5_ := Aside0.mk ((by rw [hg]; exact Nat.ne_of_lt (blk_lt (g := gb368) (o := .cells #[.int .i64 a0_0, .int .i64 a0_1, .slice A0_2 l0_2.length c0_2, .slice A0_3 l0_3.length c0_3] 31 (0, 0)) (by (with_reducible repeat (first | refine blk_drewN ?_ _ | refine blk_drew ?_ | refine blk_alloc ?_ _)); exact BK368.out)) : gb368 ≠ gb369)); have n6_ := Aside0.mk ((by rw [hg]; exact Nat.ne_of_gt (blk_lt (g := gb368) (o := .cells #[.int .i64 a0_0, .int .i64 a0_1, .slice A0_2 l0_2.length c0_2, .slice A0_3 l0_3.length c0_3] 31 (0, 0)) (by (with_reducible repeat (first | refine blk_drewN ?_ _ | refine blk_drew ?_ | refine blk_alloc ?_ _)); exact BK368.out)) : gb369 ≠ gb368)); clear BK368; clear HB; have BK368 := n0_; have HB := n1_; have BK369 := n2_; have GW369 := n3_; have GE369 := n4_; have NB368_369 := n5_; have NB369_368 := n6_; clear n0_ n1_ n2_ n3_ n4_ n5_ n6_; clear hb hbox hg; have hnb25 := NB368_369.out; have hnc25 := NB369_368.out; have hcz26_0 : w24.cell? ⟨gb368, 0, none⟩ = some (.int .i64 a0_0) := (blk_cell BK368.out 0).trans rfl; have hcz26_1 : w24.cell? ⟨gb368, 1, none⟩ = some (.int .i64 a0_1) := (blk_cell BK368.out 1).trans rfl; have hcz26_2 : w24.cell? ⟨gb368, 2, none⟩ = some (.slice A0_2 l0_2.length c0_2) := (blk_cell BK368.out 2).trans rfl; have hcz26_3 : w24.cell? ⟨gb368, 3, none⟩ = some (.slice A0_3 l0_3.length c0_3) := (blk_cell BK368.out 3).trans rfl; have hfz26_0 := blk_frozen BK368.out 0; have hfz26_1 := blk_frozen BK368.out 1; have hfz26_2 := blk_frozen BK368.out 2; have hfz26_3 := blk_frozen BK368.out 3; have hcz27_0 : w24.cell? ⟨gb369, 0, none⟩ = some (.int .i64 a1_0) := (blk_cell BK369.out 0).trans rfl; have hcz27_1 : w24.cell? ⟨gb369, 1, none⟩ = some (.int .i64 a1_1) := (blk_cell BK369.out 1).trans rfl; have hcz27_2 : w24.cell? ⟨gb369, 2, none⟩ = some (.slice A1_2 l1_2.length c1_2) := (blk_cell BK369.out 2).trans rfl; have hcz27_3 : w24.cell? ⟨gb369, 3, none⟩ = some (.slice A1_3 l1_3.length c1_3) := (blk_cell BK369.out 3).trans rfl; have hfz27_0 := blk_frozen BK369.out 0; have hfz27_1 := blk_frozen BK369.out 1; have hfz27_2 := blk_frozen BK369.out 2; have hfz27_3 := blk_frozen BK369.out 3))
    go_ret
    exact ⟨by first | rfl | (simp [errW_none, errW_some] <;> rfl) | (simp [*, errW_none, errW_some] <;> rfl), by repeat (first | (with_reducible first | exact HB.out | apply below_alloc | apply pw_below_drewN | apply below_drew1 | refine below_set ?_ GE368.out | refine below_set ?_ GE369.out) | exact HB.out)⟩

end Go.Proofs.Ytnabilhcmplhcaa.Q
end
section
/-
  What the ledger's laws use beside the ledger: copies of requests, requests that are the same; unlike requests have unlike bytes.
-/
set_option linter.unusedVariables false
set_option linter.unusedSimpArgs false
namespace Go.Proofs.Ytnabilhcmplhcaa.Sha
open Go.RowKit Go.Proofs.YtnabilhcmplhcaaW.PrintWords Go.Proofs.YtnabilhcmplhcaaW.PrintLast Go.Proofs.YtnabilhcmplhcaaW.PrintMore Go.Proofs.Ytnabilhcmplhcaa.Q Go.Proofs.Ytnabilhcmplhcaa.Fr Go.Proofs.Ytnabilhcmplhcaa.Oct

/-- A piece of code, cut off by what it leaves. -/
theorem wp_cut {P : Program} {c : Code} {Q : Exit → Act → World → Prop} {a : Act} {w : World} (R : Act → World → Prop) (h : c.wp P (fun e a w => e = .normal ∧ R a w) a w) (k : ∀ a' w', R a' w' → Q .normal a' w') : c.wp P Q a w :=
  Code.wp_mono (fun e a w he => by
    obtain ⟨rfl, hR⟩ := he
    exact k _ _ hR) h
theorem copyr_calls (c s : Int) (Ao : Option Addr) (co : Nat) (op : List Int) (As : Option Addr) (cs : Nat) (sg : List Int) (w : World) (ho : Rd w Ao op) (hco : op.length ≤ co) (hg : Rd w As sg) (hcs : sg.length ≤ cs) (lo : op.length + sg.length ≤ 1048576) :
    Calls Try.prog 13 #[.agg #[.int .i64 c, .int .i64 s, .slice Ao op.length co, .slice As sg.length cs]] w fun e w' => ∃ B1 d1 B2 d2, e = .returned (.agg #[.int .i64 c, .int .i64 s, .slice B1 op.length d1, .slice B2 sg.length d2]) ∧ op.length ≤ d1 ∧ sg.length ≤ d2 ∧ Rd w' B1 op ∧ Rd w' B2 sg ∧ Below w.heap.size w w' := by
  refine (catenaryref05_CopyReq.calls c s Ao co op As cs sg c s op sg w (ho.C (by omega)) hco (hg.C (by omega)) hcs (by unfold catenaryref05_CopyReq.f; simp only [Option.bind_some, List.length_nil, List.nil_append, Nat.zero_add]; rw [if_pos (by omega), if_pos (by omega)])).mono ?_
  rintro e w' ⟨v2, v3, rfl, hR2, hR3, hb⟩
  have hO2 : OB w' w.heap.size v2 op := Kd.own_of_R hR2
  have hO3 : OB w' w.heap.size v3 sg := Kd.own_of_R hR3
  obtain ⟨B1, d1, rfl, hd1⟩ := hO2.slice
  obtain ⟨B2, d2, rfl, hd2⟩ := hO3.slice
  exact ⟨B1, d1, B2, d2, rfl, hd1, hd2, QB.rd (q_of_own hO2), QB.rd (q_of_own hO3), hb⟩
def sameR (c s : Int) (op sg : List Int) (c' s' : Int) (op' sg' : List Int) : Bool := decide (c = c' ∧ s = s' ∧ op = op' ∧ sg = sg')
theorem samer_calls (c s : Int) (Ao : Option Addr) (co : Nat) (op : List Int) (As : Option Addr) (cs : Nat) (sg : List Int) (c' s' : Int) (Ao' : Option Addr) (co' : Nat) (op' : List Int) (As' : Option Addr) (cs' : Nat) (sg' : List Int) (w : World) (ho : Rd w Ao op) (hco : op.length ≤ co) (hg : Rd w As sg) (hcs : sg.length ≤ cs) (lo : op.length + sg.length ≤ 1048576) (ho' : Rd w Ao' op') (hco' : op'.length ≤ co') (hg' : Rd w As' sg') (hcs' : sg'.length ≤ cs') (lo' : op'.length + sg'.length ≤ 1048576) (b1 : Bys op) (b2 : Bys sg) (b3 : Bys op') (b4 : Bys sg') :
    Calls Try.prog 18 #[.agg #[.int .i64 c, .int .i64 s, .slice Ao op.length co, .slice As sg.length cs], .agg #[.int .i64 c', .int .i64 s', .slice Ao' op'.length co', .slice As' sg'.length cs']] w fun e w' => e = .returned (.bool (sameR c s op sg c' s' op' sg')) ∧ Below w.heap.size w w' := by
  refine catenaryref05_SameReq.calls c s Ao co op As cs sg c' s' Ao' co' op' As' cs' sg' _ w (ho.C (by omega)) hco (hg.C (by omega)) hcs (ho'.C (by omega)) hco' (hg'.C (by omega)) hcs' ?_
  unfold catenaryref05_SameReq.f catenaryref01_Same.f sameR
  rw [same_iff b1 b3, same_iff b2 b4]
  by_cases h1 : c = c'
  · by_cases h2 : s = s'
    · by_cases h3 : op = op'
      · simp [h1, h2, h3]
      · simp [h1, h2, h3]
    · simp [h1, h2]
  · simp [h1]
end Go.Proofs.Ytnabilhcmplhcaa.Sha
end
section
/-
  The document's Evidence.
-/
set_option linter.unusedVariables false
set_option linter.unusedSimpArgs false
namespace Go.Proofs.Ytnabilhcmplhcaa.Sha
open Go.RowKit Go.Proofs.YtnabilhcmplhcaaW.PrintWords Go.Proofs.YtnabilhcmplhcaaW.PrintLast Go.Proofs.YtnabilhcmplhcaaW.PrintMore Go.Proofs.Ytnabilhcmplhcaa.Q Go.Proofs.Ytnabilhcmplhcaa.Fr Go.Proofs.Ytnabilhcmplhcaa.Oct

theorem cmpB : ∀ (x y : List UInt8), decide (0 < Lib.compareBytes x y) = Op.bytesLess y x
  | [], [] => by simp [Lib.compareBytes, Op.bytesLess]
  | _ :: _, [] => by simp [Lib.compareBytes, Op.bytesLess]
  | [], _ :: _ => by simp [Lib.compareBytes, Op.bytesLess]
  | a :: x, b :: y => by
    rw [Lib.compareBytes, Op.bytesLess]
    have ih := cmpB x y
    by_cases h1 : a < b
    · have h2 : ¬ b < a := fun h => UInt8.lt_irrefl a (UInt8.lt_trans h1 h)
      have h3 : b ≠ a := fun e => by rw [e] at h1; exact UInt8.lt_irrefl a h1
      simp [h1, h2, h3]
    · by_cases h2 : b < a
      · simp [h1, h2]
      · have h3 : b = a := UInt8.le_antisymm (UInt8.not_lt.1 h1) (UInt8.not_lt.1 h2)
        subst h3
        simp only [h1, if_false, ih]
        simp
theorem cmp_str (a b : List Int) : decide (0 < cmpA a b) = Op.bytesLess (strOfNums b).toList (strOfNums a).toList := by
  unfold cmpA
  rw [Lib.cmp_eq, cmpB, Lib.strOfNums_toList, Lib.strOfNums_toList]
  simp
theorem gtr_less : ∀ (x y : List UInt8), (!(Op.bytesLess x y || x == y)) = Op.bytesLess y x
  | [], [] => by simp [Op.bytesLess]
  | _ :: _, [] => by simp [Op.bytesLess]
  | [], _ :: _ => by simp [Op.bytesLess]
  | a :: x, b :: y => by
    rw [Op.bytesLess, Op.bytesLess]
    have ih := gtr_less x y
    by_cases h1 : a < b
    · have h2 : ¬ b < a := fun h => UInt8.lt_irrefl a (UInt8.lt_trans h1 h)
      have h3 : b ≠ a := fun e => by rw [e] at h1; exact UInt8.lt_irrefl a h1
      simp [h1, h2, h3]
    · by_cases h2 : b < a
      · have h3 : a ≠ b := fun e => by rw [e] at h2; exact UInt8.lt_irrefl b h2
        simp [h1, h2, h3]
      · have h3 : b = a := UInt8.le_antisymm (UInt8.not_lt.1 h1) (UInt8.not_lt.1 h2)
        subst h3
        have h4 : ¬ b < b := UInt8.lt_irrefl b
        simp only [h4, decide_false, Bool.false_or, beq_self_eq_true, Bool.true_and, List.cons_beq_cons]
        exact ih
theorem gtr_run (a b : ByteArray) (w : World) : (binOp .gtr 9 (.string a) (.string b)).run Try.prog w = .ok (.bool (Op.bytesLess b.toList a.toList)) w := by
  have h : binOp .gtr 9 (.string a) (.string b) = pure (.bool !(Op.bytesLess a.toList b.toList || a.toList == b.toList)) := by simp [binOp, Op.stringOp]
  rw [h, gtr_less]
  rfl
/-- A step of a region that draws: a conversion. -/
theorem wp_convert_abs {P : Program} {o : Oper} {a : Act} {w : World} {K : Act → World → Prop} {Q : Exit → Act → World → Prop} (src dst : TypeId) (x : Operand) (ho : o.op = .convert src dst x) (v r : Value) (hx : a.eval x = v) (hr : (convert src dst v).run P w = .ok r w) (h : K (a.put o.dst r) w) : o.wp P a w K Q := by
  unfold Oper.wp execOp
  simp only [ho, hx, Sem.run_bind, hr, Result.andThen_ok, Sem.run_pure]
  exact h
section
variable {P : Program} {ops : Array Oper} {rest : List Oper} {o : Oper} {a : Act} {Q : Exit → Act → World → Prop} {w : World}
/-- Some cells are stored in the middle of a block. -/
theorem wpList_store_part (hgd : o.guard = none) (ty : TypeId) (x y : Operand) (ho : o.op = .store ty x y)
    (g off : Nat) (cells : Array Value) (hx : a.eval x = .pointer (some ⟨g, off, none⟩)) (hy : a.eval y = .agg cells)
    (t : TypeId) (old : Array Value) (hg : w.heap[g]? = some (.cells old t (0, 0))) (hi : (P.info? ty).map (·.size) = some cells.size)
    (hle : off + cells.size ≤ old.size) (h1 : cells.all (·.oneCell') = true)
    (h : ∀ w1, Fr (fun k => k = g) w w1 → w1.heap.size = w.heap.size → w1.heap[g]? = some (.cells (old.toList.take off ++ cells.toList ++ old.toList.drop (off + cells.size)).toArray t (0, 0)) → wpList P ops Q rest (a.put o.dst undef) w1) : wpList P ops Q (o :: rest) a w := by
  have hr := run_storeCells_at (P := P) g off t cells.toList 0 old w hg (by simpa using hle) (fun v hv => (Array.all_eq_true_iff_forall_mem.1 h1) v (by simpa using hv))
  have hst : (storeVar ty ⟨g, off, none⟩ (.agg cells)).run P w = .ok () (w.setRow g (old.toList.take off ++ cells.toList ++ old.toList.drop (off + cells.size)).toArray) := by
    obtain ⟨i, hi, hsz⟩ := Option.map_eq_some_iff.1 hi
    have hs : cells.size = i.size := hsz.symm
    simp only [Nat.add_zero, Array.length_toList] at hr
    simp [storeVar, sizeOf, typeInfo, hi, Value.cells, hs]
    rw [← hs]
    simpa using hr
  refine wpList_plain hgd fun K hK => ?_
  unfold Oper.wp execOp
  simp only [ho, hx, hy, Instr.storeAt, Instr.sureAddr, Sem.run_bind, Sem.run_pure, Result.andThen_ok, hst]
  exact hK _ _ (h _ ⟨rfl, rfl, rfl, by simp [World.setRow], fun k _ hk => setRow_other w g k _ (fun e => hk e)⟩ (by simp [World.setRow]) (setRow_heap w g old _ t (0, 0) hg))
end
/-- A seen vote, as the document's list holds it. -/
def snW (X1 : Option Addr) (e1 : Nat) (X2 : Option Addr) (e2 : Nat) (X3 : Option Addr) (e3 : Nat) (x : Sn) : List Value := [.int .i64 x.kind, .int .i64 x.slot, .int .i64 x.signer, .int .i64 x.view, .int .i64 x.turn, .int .i64 x.c, .int .i64 x.s, .slice X1 x.op.length e1, .slice X2 x.sg.length e2, .slice X3 x.t.length e3, .bool x.told]
/-- An evidence that can be read. -/
def EvR (w : World) (v : Value) (e : Ev) : Prop :=
  ∃ B1 d1 B2 d2 B3 d3 B4 d4 B5 d5 B6 d6, v = .agg #[.int .i64 13, .int .i64 e.view, .int .i64 e.turn, .int .i64 e.slot, .int .i64 e.signer, .int .i64 0, .int .i64 e.kind, .int .i64 0, .int .i64 e.cX, .int .i64 e.sX, .slice B1 e.opX.length d1, .slice B2 e.sgX.length d2, .int .i64 e.cY, .int .i64 e.sY, .slice B4 e.opY.length d4, .slice B5 e.sgY.length d5, .slice B6 e.tY.length d6, .slice B3 e.tX.length d3, .slice none 0 0, .slice none 0 0, .slice none 0 0, .slice none 0 0, .slice none 0 0] ∧
    Ls w B1 d1 e.opX ∧ Ls w B2 d2 e.sgX ∧ Ls w B3 d3 e.tX ∧ Ls w B4 d4 e.opY ∧ Ls w B5 d5 e.sgY ∧ Ls w B6 d6 e.tY
theorem EvIs.reads {w : World} {v : Value} {e : Ev} (h : EvIs w v e) : EvR w v e := by
  obtain ⟨B1, d1, B2, d2, B3, d3, B4, d4, B5, d5, B6, d6, e, h1, h2, h3, h4, h5, h6⟩ := h
  exact ⟨B1, d1, B2, d2, B3, d3, B4, d4, B5, d5, B6, d6, e, h1.1, h2.1, h3.1, h4.1, h5.1, h6.1⟩
theorem EvR.fr {w w' : World} {v : Value} {e : Ev} (h : EvR w v e) (hf : Fr (fun _ => False) w w') : EvR w' v e := by
  obtain ⟨B1, d1, B2, d2, B3, d3, B4, d4, B5, d5, B6, d6, e, h1, h2, h3, h4, h5, h6⟩ := h
  exact ⟨B1, d1, B2, d2, B3, d3, B4, d4, B5, d5, B6, d6, e, h1.fr hf, h2.fr hf, h3.fr hf, h4.fr hf, h5.fr hf, h6.fr hf⟩
set_option maxRecDepth 100000 in
theorem fm42 {a : Act} (h : Fm 42 a) : a = ⟨#[sl a 0, sl a 1, sl a 2, sl a 3, sl a 4, sl a 5, sl a 6, sl a 7, sl a 8, sl a 9, sl a 10, sl a 11, sl a 12, sl a 13, sl a 14, sl a 15, sl a 16, sl a 17, sl a 18, sl a 19, sl a 20, sl a 21, sl a 22, sl a 23, sl a 24, sl a 25, sl a 26, sl a 27, sl a 28, sl a 29, sl a 30, sl a 31, sl a 32, sl a 33, sl a 34, sl a 35, sl a 36, sl a 37, sl a 38, sl a 39, sl a 40, sl a 41], []⟩ := by
  obtain ⟨T, D⟩ := a
  obtain ⟨h1, h2⟩ := h
  obtain rfl : D = [] := h2
  obtain ⟨l⟩ := T
  have h1 : l.length = 42 := h1
  congr 2
  refine List.ext_getElem? fun i => ?_
  by_cases hi : i < 42
  · have hx : ∀ j, j < 42 → l[j]? = some (sl ⟨⟨l⟩, []⟩ j) := fun j hj => by
      have hl : j < l.length := by omega
      simp [sl, Array.getD_eq_getD_getElem?, List.getElem?_eq_getElem hl]
    rw [hx i hi]
    have : ∀ (s : Nat → Value) (i : Nat), i < 42 → ((List.range 42).map s)[i]? = some (s i) := fun s i hi => by simp [hi]
    exact (this _ i hi).symm
  · have h2 : ∀ (s : Nat → Value), ((List.range 42).map s)[i]? = none := fun s => by simp; omega
    exact (List.getElem?_eq_none (by omega)).trans (h2 _).symm
set_option maxHeartbeats 8000000 in
set_option maxRecDepth 100000 in
theorem revid_calls (x : Sn) (hxo : x.op.length + x.sg.length ≤ 1048576) (X1 : Option Addr) (e1 : Nat) (X2 : Option Addr) (e2 : Nat) (X3 : Option Addr) (e3 : Nat) (c s : Int) (Ao : Option Addr) (co : Nat) (op : List Int) (As : Option Addr) (cs : Nat) (sg : List Int) (A3 : Option Addr) (c3 : Nat) (t : List Int) (w : World) (h1 : Rd w X1 x.op) (l1 : x.op.length ≤ e1) (h2 : Rd w X2 x.sg) (l2 : x.sg.length ≤ e2) (h3 : Rd w X3 x.t) (l3 : x.t.length ≤ e3) (ho : Rd w Ao op) (hco : op.length ≤ co) (hg : Rd w As sg) (hcs : sg.length ≤ cs) (ht : Rd w A3 t) (hc3 : t.length ≤ c3) (lo : op.length + sg.length ≤ 1048576) :
    Calls Try.prog 32 #[.agg (snW X1 e1 X2 e2 X3 e3 x).toArray, .agg #[.int .i64 c, .int .i64 s, .slice Ao op.length co, .slice As sg.length cs], .slice A3 t.length c3] w fun e w' => ∃ v, e = .returned v ∧ (∃ B1 d1 B2 d2 B3 d3 B4 d4 B5 d5 B6 d6, v = .agg #[.int .i64 13, .int .i64 (mkEv x c s op sg t).view, .int .i64 (mkEv x c s op sg t).turn, .int .i64 (mkEv x c s op sg t).slot, .int .i64 (mkEv x c s op sg t).signer, .int .i64 0, .int .i64 (mkEv x c s op sg t).kind, .int .i64 0, .int .i64 (mkEv x c s op sg t).cX, .int .i64 (mkEv x c s op sg t).sX, .slice B1 (mkEv x c s op sg t).opX.length d1, .slice B2 (mkEv x c s op sg t).sgX.length d2, .int .i64 (mkEv x c s op sg t).cY, .int .i64 (mkEv x c s op sg t).sY, .slice B4 (mkEv x c s op sg t).opY.length d4, .slice B5 (mkEv x c s op sg t).sgY.length d5, .slice B6 (mkEv x c s op sg t).tY.length d6, .slice B3 (mkEv x c s op sg t).tX.length d3, .slice none 0 0, .slice none 0 0, .slice none 0 0, .slice none 0 0, .slice none 0 0] ∧ ∀ u, Ls u X1 e1 x.op → Ls u X2 e2 x.sg → Ls u X3 e3 x.t → Ls u Ao co op → Ls u As cs sg → Ls u A3 c3 t → EvR u v (mkEv x c s op sg t)) ∧ Below w.heap.size w w' := by
  have HH := Aside0.mk (And.intro h1 (And.intro h2 (And.intro h3 (And.intro ho (And.intro hg (And.intro ht (And.intro hxo lo)))))))
  clear h1 h2 h3 ho hg ht hxo lo
  have hcm := cmp_str (bodyA x.c x.s x.op x.sg) (bodyA c s op sg)
  have HCM := Aside0.mk hcm
  clear hcm
  go_enter Try.func32, Try.ntmps32
  simp only [snW]
  go_wp2_with (first | ((with_reducible refine gate_dst (N := 6) rfl ?_); refine wpList_alloc_abs (by rfl) 48 (by rfl) (.agg Z48) (by kernel_rfl) ?_; intro w3 hb3 hs3 hg3; (with_reducible refine Aside0.out ?_)))
  refine ⟨?_⟩
  obtain ⟨wa, hwa⟩ : ∃ y, w.alloc (.cells #[.int .i64 x.kind, .int .i64 x.slot, .int .i64 x.signer, .int .i64 x.view, .int .i64 x.turn, .int .i64 x.c, .int .i64 x.s, .slice X1 x.op.length e1, .slice X2 x.sg.length e2, .slice X3 x.t.length e3, .bool x.told] 71) = y := ⟨_, rfl⟩
  have hba : Below w.heap.size w wa := by rw [← hwa]; exact below_alloc (Below.refl _ _) _
  have hga : wa.heap[w.heap.size]? = some (.cells #[.int .i64 x.kind, .int .i64 x.slot, .int .i64 x.signer, .int .i64 x.view, .int .i64 x.turn, .int .i64 x.c, .int .i64 x.s, .slice X1 x.op.length e1, .slice X2 x.sg.length e2, .slice X3 x.t.length e3, .bool x.told] 71 (0, 0)) := by rw [← hwa]; exact heap_alloc_new w _
  have hza : wa.heap.size = w.heap.size + 1 := by rw [← hwa, World.size_alloc]
  obtain ⟨wb, hwb⟩ : ∃ y, wa.alloc (.cells #[.int .i64 c, .int .i64 s, .slice Ao op.length co, .slice As sg.length cs] 31) = y := ⟨_, rfl⟩
  have hbb : Below wa.heap.size wa wb := by rw [← hwb]; exact below_alloc (Below.refl _ _) _
  have hgb : wb.heap[wa.heap.size]? = some (.cells #[.int .i64 c, .int .i64 s, .slice Ao op.length co, .slice As sg.length cs] 31 (0, 0)) := by rw [← hwb]; exact heap_alloc_new wa _
  have hzb : wb.heap.size = wa.heap.size + 1 := by rw [← hwb, World.size_alloc]
  rw [hwa, hwb] at hb3 hs3 hg3
  try rw [hwa, hwb]
  clear hwa hwb
  have fb := Fr.of_below hbb (fun _ => False)
  have f3 := Fr.of_below hb3 (fun _ => False)
  have hg1 := f3.blk (fb.blk hga (fun h => h)) (fun h => h)
  have hg2 := f3.blk hgb (fun h => h)
  have F3 := ((Fr.of_below hba (fun _ => False)).trans fb (fun _ h => h.elim)).trans f3 (fun _ h => h.elim)
  rw [show wa.heap.size = w.heap.size + 1 from hza] at hg2
  rw [show wb.heap.size = w.heap.size + 2 by omega] at hg3
  have hz3 : w3.heap.size = w.heap.size + 3 := by omega
  rw [show w.heap.size + 1 + 1 = w.heap.size + 2 from rfl]
  clear hba hga hza hbb hgb hzb hb3 hs3 fb f3
  have HN := Aside0.mk (And.intro F3 (And.intro hg1 (And.intro hg2 (And.intro hg3 hz3))))
  have k : w3.cell? ⟨w.heap.size, 0, none⟩ = some (.int .i64 x.kind) ∧ w3.cell? ⟨w.heap.size, 1, none⟩ = some (.int .i64 x.slot) ∧ w3.cell? ⟨w.heap.size, 2, none⟩ = some (.int .i64 x.signer) ∧ w3.cell? ⟨w.heap.size, 3, none⟩ = some (.int .i64 x.view) ∧ w3.cell? ⟨w.heap.size, 4, none⟩ = some (.int .i64 x.turn) ∧ w3.cell? ⟨w.heap.size, 5, none⟩ = some (.int .i64 x.c) ∧ w3.cell? ⟨w.heap.size, 6, none⟩ = some (.int .i64 x.s) ∧ w3.cell? ⟨w.heap.size, 7, none⟩ = some (.slice X1 x.op.length e1) ∧ w3.cell? ⟨w.heap.size, 8, none⟩ = some (.slice X2 x.sg.length e2) ∧ w3.cell? ⟨w.heap.size, 9, none⟩ = some (.slice X3 x.t.length e3) ∧ w3.cell? ⟨w.heap.size, 10, none⟩ = some (.bool x.told) ∧ w3.cell? ⟨(w.heap.size + 1), 0, none⟩ = some (.int .i64 c) ∧ w3.cell? ⟨(w.heap.size + 1), 1, none⟩ = some (.int .i64 s) ∧ w3.cell? ⟨(w.heap.size + 1), 2, none⟩ = some (.slice Ao op.length co) ∧ w3.cell? ⟨(w.heap.size + 1), 3, none⟩ = some (.slice As sg.length cs) := by simp [World.cell?, hg1, hg2]
  obtain ⟨k0, k1, k2, k3, k4, k5, k6, k7, k8, k9, k10, k11, k12, k13, k14⟩ := k
  clear F3 hg1 hg2 hg3 hz3
  go_wp2_with (first | ((with_reducible refine gate_dst (N := 7) rfl ?_); refine wpList_alloc_abs (by rfl) 48 (by rfl) (.agg Z48) (by kernel_rfl) ?_; intro w4 hb4 hs4 hg4) | ((with_reducible refine gate_store (p := 7) rfl ?_); refine Aside0.out ?_))
  refine ⟨?_⟩
  have ez3 := HN.out.2.2.2.2
  rw [ez3] at hg4 hs4 ⊢
  refine wpList_store_abs (by rfl) 48 _ _ (by rfl) (w.heap.size + 3) #[.int .i64 13, .int .i64 x.view, .int .i64 x.turn, .int .i64 x.slot, .int .i64 x.signer, .int .i64 0, .int .i64 x.kind, .int .i64 0, .int .i64 x.c, .int .i64 x.s, .slice X1 x.op.length e1, .slice X2 x.sg.length e2, .int .i64 c, .int .i64 s, .slice Ao op.length co, .slice As sg.length cs, .slice A3 t.length c3, .slice X3 x.t.length e3, .slice none 0 0, .slice none 0 0, .slice none 0 0, .slice none 0 0, .slice none 0 0] (by rfl) (by rfl) 48 Z48 hg4 (by kernel_rfl) (by rfl) (by simp [Value.oneCell']) ?_
  intro w5 hf5 hs5 hg5
  have f5 : Fr (fun _ => False) w3 w5 := (Fr.of_below hb4 (fun _ => False)).trans hf5 (fun k hk => .inr (by have := HN.out.2.2.2.2; omega))
  have H5 := Aside0.mk (And.intro (HN.out.1.trans f5 (fun _ h => h.elim)) (And.intro (f5.blk HN.out.2.1 (fun h => h)) (And.intro (f5.blk HN.out.2.2.1 (fun h => h)) (And.intro (f5.blk HN.out.2.2.2.1 (fun h => h)) (And.intro hg5 (show w5.heap.size = w.heap.size + 4 by omega))))))
  clear f5 hb4 hs4 hg4 hf5 hs5 hg5 k0 k1 k2 k3 k4 k5 k6 k7 k8 k9 k10 k11 k12 k13 k14
  clear HN ez3
  go_wp2_with (fail)
  obtain ⟨bb, hbb⟩ : ∃ b, decide (0 < cmpA (bodyA x.c x.s x.op x.sg) (bodyA c s op sg)) = b := ⟨_, rfl⟩
  have hbs := HCM.out
  rw [hbb] at hbs
  obtain ⟨b1, hb1⟩ : ∃ l, bodyA x.c x.s x.op x.sg = l := ⟨_, rfl⟩
  obtain ⟨b2, hb2⟩ : ∃ l, bodyA c s op sg = l := ⟨_, rfl⟩
  have hl1 := bodyA_len x.c x.s x.op x.sg
  have hl2 := bodyA_len c s op sg
  rw [hb1] at hbs hl1
  rw [hb2] at hbs hl2
  have hS : ∀ w', Fr (fun _ => False) w5 w' → w'.cell? ⟨w.heap.size, 0, none⟩ = some (.int .i64 x.kind) ∧ w'.cell? ⟨w.heap.size, 1, none⟩ = some (.int .i64 x.slot) ∧ w'.cell? ⟨w.heap.size, 2, none⟩ = some (.int .i64 x.signer) ∧ w'.cell? ⟨w.heap.size, 3, none⟩ = some (.int .i64 x.view) ∧ w'.cell? ⟨w.heap.size, 4, none⟩ = some (.int .i64 x.turn) ∧ w'.cell? ⟨w.heap.size, 5, none⟩ = some (.int .i64 x.c) ∧ w'.cell? ⟨w.heap.size, 6, none⟩ = some (.int .i64 x.s) ∧ w'.cell? ⟨w.heap.size, 7, none⟩ = some (.slice X1 x.op.length e1) ∧ w'.cell? ⟨w.heap.size, 8, none⟩ = some (.slice X2 x.sg.length e2) ∧ w'.cell? ⟨w.heap.size, 9, none⟩ = some (.slice X3 x.t.length e3) ∧ w'.cell? ⟨w.heap.size, 10, none⟩ = some (.bool x.told) ∧ w'.cell? ⟨(w.heap.size + 1), 0, none⟩ = some (.int .i64 c) ∧ w'.cell? ⟨(w.heap.size + 1), 1, none⟩ = some (.int .i64 s) ∧ w'.cell? ⟨(w.heap.size + 1), 2, none⟩ = some (.slice Ao op.length co) ∧ w'.cell? ⟨(w.heap.size + 1), 3, none⟩ = some (.slice As sg.length cs) := fun w' hf => by
    have h1 := hf.blk H5.out.2.1 (fun h => h)
    have h2 := hf.blk H5.out.2.2.1 (fun h => h)
    simp [World.cell?, h1, h2]
  have HA : ∀ w1, Fr (fun _ => False) w5 w1 → Calls Try.prog 29 #[.agg #[.int .i64 x.c, .int .i64 x.s, .slice X1 x.op.length e1, .slice X2 x.sg.length e2]] w1 fun e w2 => ∃ A y, e = .returned (.slice A b1.length y) ∧ (w2.cell? ⟨w.heap.size, 0, none⟩ = some (.int .i64 x.kind) ∧ w2.cell? ⟨w.heap.size, 1, none⟩ = some (.int .i64 x.slot) ∧ w2.cell? ⟨w.heap.size, 2, none⟩ = some (.int .i64 x.signer) ∧ w2.cell? ⟨w.heap.size, 3, none⟩ = some (.int .i64 x.view) ∧ w2.cell? ⟨w.heap.size, 4, none⟩ = some (.int .i64 x.turn) ∧ w2.cell? ⟨w.heap.size, 5, none⟩ = some (.int .i64 x.c) ∧ w2.cell? ⟨w.heap.size, 6, none⟩ = some (.int .i64 x.s) ∧ w2.cell? ⟨w.heap.size, 7, none⟩ = some (.slice X1 x.op.length e1) ∧ w2.cell? ⟨w.heap.size, 8, none⟩ = some (.slice X2 x.sg.length e2) ∧ w2.cell? ⟨w.heap.size, 9, none⟩ = some (.slice X3 x.t.length e3) ∧ w2.cell? ⟨w.heap.size, 10, none⟩ = some (.bool x.told) ∧ w2.cell? ⟨(w.heap.size + 1), 0, none⟩ = some (.int .i64 c) ∧ w2.cell? ⟨(w.heap.size + 1), 1, none⟩ = some (.int .i64 s) ∧ w2.cell? ⟨(w.heap.size + 1), 2, none⟩ = some (.slice Ao op.length co) ∧ w2.cell? ⟨(w.heap.size + 1), 3, none⟩ = some (.slice As sg.length cs)) ∧ (Go.convert 29 9 (.slice A b1.length y)).run Try.prog w2 = .ok (.string (strOfNums b1)) w2 ∧ Aside0 (Fr (fun _ => False) w5 w2 ∧ Rd w2 A b1) := by
    intro w1 hf1
    have F := H5.out.1.trans hf1 (fun _ h => h.elim)
    refine (rbody_calls x.c x.s X1 e1 x.op X2 e2 x.sg w1 (HH.out.1.lies F) l1 (HH.out.2.1.lies F) l2 HH.out.2.2.2.2.2.2.1).mono ?_
    rintro e w2 ⟨v, rfl, hO, hb⟩
    rw [hb1] at hO
    obtain ⟨A, y, rfl, _⟩ := hO.slice
    have f2 := hf1.trans (Fr.of_below hb (fun _ => False)) (fun _ h => h.elim)
    have hr := QB.rd (q_of_own hO)
    exact ⟨A, y, rfl, hS _ f2, Kd.C_string (P := Try.prog) (A := A) (c := y) Try.underlying29 Try.underlying5 Try.underlying9 (hr.C (by have := HH.out.2.2.2.2.2.2.1; omega)), ⟨f2, hr⟩⟩
  have HB : ∀ w1 A y, Aside0 (Fr (fun _ => False) w5 w1 ∧ Rd w1 A b1) → Calls Try.prog 29 #[.agg #[.int .i64 c, .int .i64 s, .slice Ao op.length co, .slice As sg.length cs]] w1 fun e w2 => ∃ A2 y2, e = .returned (.slice A2 b2.length y2) ∧ (w2.cell? ⟨w.heap.size, 0, none⟩ = some (.int .i64 x.kind) ∧ w2.cell? ⟨w.heap.size, 1, none⟩ = some (.int .i64 x.slot) ∧ w2.cell? ⟨w.heap.size, 2, none⟩ = some (.int .i64 x.signer) ∧ w2.cell? ⟨w.heap.size, 3, none⟩ = some (.int .i64 x.view) ∧ w2.cell? ⟨w.heap.size, 4, none⟩ = some (.int .i64 x.turn) ∧ w2.cell? ⟨w.heap.size, 5, none⟩ = some (.int .i64 x.c) ∧ w2.cell? ⟨w.heap.size, 6, none⟩ = some (.int .i64 x.s) ∧ w2.cell? ⟨w.heap.size, 7, none⟩ = some (.slice X1 x.op.length e1) ∧ w2.cell? ⟨w.heap.size, 8, none⟩ = some (.slice X2 x.sg.length e2) ∧ w2.cell? ⟨w.heap.size, 9, none⟩ = some (.slice X3 x.t.length e3) ∧ w2.cell? ⟨w.heap.size, 10, none⟩ = some (.bool x.told) ∧ w2.cell? ⟨(w.heap.size + 1), 0, none⟩ = some (.int .i64 c) ∧ w2.cell? ⟨(w.heap.size + 1), 1, none⟩ = some (.int .i64 s) ∧ w2.cell? ⟨(w.heap.size + 1), 2, none⟩ = some (.slice Ao op.length co) ∧ w2.cell? ⟨(w.heap.size + 1), 3, none⟩ = some (.slice As sg.length cs)) ∧ (Go.convert 29 9 (.slice A b1.length y)).run Try.prog w2 = .ok (.string (strOfNums b1)) w2 ∧ (Go.convert 29 9 (.slice A2 b2.length y2)).run Try.prog w2 = .ok (.string (strOfNums b2)) w2 ∧ Aside0 (Fr (fun _ => False) w5 w2) := by
    intro w1 A y H
    have F := H5.out.1.trans H.out.1 (fun _ h => h.elim)
    refine (rbody_calls c s Ao co op As cs sg w1 (HH.out.2.2.2.1.lies F) hco (HH.out.2.2.2.2.1.lies F) hcs HH.out.2.2.2.2.2.2.2).mono ?_
    rintro e w2 ⟨v, rfl, hO, hb⟩
    rw [hb2] at hO
    obtain ⟨A2, y2, rfl, _⟩ := hO.slice
    have fb := Fr.of_below hb (fun _ => False)
    have f2 := H.out.1.trans fb (fun _ h => h.elim)
    have hr := QB.rd (q_of_own hO)
    exact ⟨A2, y2, rfl, hS _ f2, Kd.C_string (P := Try.prog) (A := A) (c := y) Try.underlying29 Try.underlying5 Try.underlying9 ((H.out.2.lies fb).C (by have := HH.out.2.2.2.2.2.2.1; omega)), Kd.C_string (P := Try.prog) (A := A2) (c := y2) Try.underlying29 Try.underlying5 Try.underlying9 (hr.C (by have := HH.out.2.2.2.2.2.2.2; omega)), ⟨f2⟩⟩
  have hs5' := hS _ (Fr.refl _ _)
  have HA := Aside0.mk HA
  have HB := Aside0.mk HB
  have HBB := Aside0.mk hbb
  have hbt : ∀ w', (binOp .gtr 9 (.string (strOfNums b1)) (.string (strOfNums b2))).run Try.prog w' = .ok (.bool bb) w' := fun w' => by rw [gtr_run, ← hbs]
  clear hS hbb hb1 hb2 hl1 hl2 HCM hbs
  refine wp_cut (fun a' w' => Fm 42 a' ∧ sl a' 2 = .slice A3 t.length c3 ∧ sl a' 3 = .pointer (some ⟨w.heap.size, 0, none⟩) ∧ sl a' 4 = .pointer (some ⟨w.heap.size + 1, 0, none⟩) ∧ sl a' 6 = .pointer (some ⟨w.heap.size + 2, 0, none⟩) ∧ sl a' 7 = .pointer (some ⟨w.heap.size + 3, 0, none⟩) ∧ sl a' 30 = .bool bb ∧ Aside0 (Fr (fun _ => False) w5 w')) ?_ ?_
  · refine wp_region_noPanic ?_
    refine wp_region_held_drew (S := (fun w' => w'.cell? ⟨w.heap.size, 0, none⟩ = some (.int .i64 x.kind) ∧ w'.cell? ⟨w.heap.size, 1, none⟩ = some (.int .i64 x.slot) ∧ w'.cell? ⟨w.heap.size, 2, none⟩ = some (.int .i64 x.signer) ∧ w'.cell? ⟨w.heap.size, 3, none⟩ = some (.int .i64 x.view) ∧ w'.cell? ⟨w.heap.size, 4, none⟩ = some (.int .i64 x.turn) ∧ w'.cell? ⟨w.heap.size, 5, none⟩ = some (.int .i64 x.c) ∧ w'.cell? ⟨w.heap.size, 6, none⟩ = some (.int .i64 x.s) ∧ w'.cell? ⟨w.heap.size, 7, none⟩ = some (.slice X1 x.op.length e1) ∧ w'.cell? ⟨w.heap.size, 8, none⟩ = some (.slice X2 x.sg.length e2) ∧ w'.cell? ⟨w.heap.size, 9, none⟩ = some (.slice X3 x.t.length e3) ∧ w'.cell? ⟨w.heap.size, 10, none⟩ = some (.bool x.told) ∧ w'.cell? ⟨(w.heap.size + 1), 0, none⟩ = some (.int .i64 c) ∧ w'.cell? ⟨(w.heap.size + 1), 1, none⟩ = some (.int .i64 s) ∧ w'.cell? ⟨(w.heap.size + 1), 2, none⟩ = some (.slice Ao op.length co) ∧ w'.cell? ⟨(w.heap.size + 1), 3, none⟩ = some (.slice As sg.length cs))) (by kernel_rfl) hs5' (fun hHeld => ?_)
    refine wpAnyH_take (i := 0) (oi := ⟨some 23, _, _, _, _, _⟩) (v := (.pointer (some ⟨w.heap.size, 5, none⟩))) rfl (by kernel_rfl) (by kernel_rfl) (by kernel_rfl) (fun _ _ _ h => h) (Or.inl ⟨by rfl, by (intro w' hSw; (try dsimp only at hSw); go_simp)⟩) (by assumption) ?_
    try simp only [Act.put, List.setIfInBounds_toArray, List.set_cons_zero, List.set_cons_succ]
    refine wpAnyH_take (i := 1) (oi := ⟨some 24, _, _, _, _, _⟩) (v := (.agg #[.int .i64 x.c, .int .i64 x.s, .slice X1 x.op.length e1, .slice X2 x.sg.length e2])) rfl (by kernel_rfl) (by kernel_rfl) (by kernel_rfl) (fun _ _ _ h => h) (Or.inl ⟨by rfl, by (intro w' hSw; (try dsimp only at hSw); go_simp)⟩) (by assumption) ?_
    try simp only [Act.put, List.setIfInBounds_toArray, List.set_cons_zero, List.set_cons_succ]
    refine wpAnyH_take (i := 4) (oi := ⟨some 27, _, _, _, _, _⟩) (v := (.agg #[.int .i64 c, .int .i64 s, .slice Ao op.length co, .slice As sg.length cs])) rfl (by kernel_rfl) (by kernel_rfl) (by kernel_rfl) (fun _ _ _ h => h) (Or.inl ⟨by rfl, by (intro w' hSw; (try dsimp only at hSw); go_simp)⟩) (by assumption) ?_
    try simp only [Act.put, List.setIfInBounds_toArray, List.set_cons_zero, List.set_cons_succ]
    refine wpAnyH_ready (rs := [2]) (by kernel_rfl) (by simp) ?_
    refine AllReadyH.cons (o := ⟨some 25, _, _, _, _, _⟩) rfl (fun K hK => ?_) AllReadyH.nil
    go_simp
    go_at_call 29
    refine (HA.out _ (Fr.refl _ _).of_drew).mono ?_
    rintro e w6 ⟨A1, y1, rfl, hs6, hcv1, H6⟩
    refine hK.out _ _ hs6 (fun hHeld => ?_)
    try simp only [Act.put, List.setIfInBounds_toArray, List.set_cons_zero, List.set_cons_succ]
    refine wpAnyH_ready (rs := [3, 5]) (by kernel_rfl) (by simp) ?_
    refine AllReadyH.cons (o := ⟨some 26, _, _, _, _, _⟩) rfl (fun K hK => ?_) (AllReadyH.cons (o := ⟨some 28, _, _, _, _, _⟩) rfl (fun K hK => ?_) AllReadyH.nil)
    · rw [if_pos (by rfl)]
      refine wp_convert_abs _ _ _ (by rfl) _ _ (by rfl) hcv1 ?_
      refine hK.out _ _ hs6 (fun hHeld => ?_)
      try simp only [Act.put, List.setIfInBounds_toArray, List.set_cons_zero, List.set_cons_succ]
      refine wpAnyH_ready (rs := [5]) (by kernel_rfl) (by simp) ?_
      refine AllReadyH.cons (o := ⟨some 28, _, _, _, _, _⟩) rfl (fun K hK => ?_) AllReadyH.nil
      go_simp
      go_at_call 29
      refine (HB.out _ _ y1 H6).mono ?_
      rintro e w7 ⟨A2, y2, rfl, hs7, hcv3, hcv4, H7⟩
      refine hK.out _ _ hs7 (fun hHeld => ?_)
      try simp only [Act.put, List.setIfInBounds_toArray, List.set_cons_zero, List.set_cons_succ]
      refine wpAnyH_ready (rs := [6]) (by kernel_rfl) (by simp) ?_
      refine AllReadyH.cons (o := ⟨some 29, _, _, _, _, _⟩) rfl (fun K hK => ?_) AllReadyH.nil
      rw [if_pos (by rfl)]
      refine wp_convert_abs _ _ _ (by rfl) _ _ (by rfl) hcv4 ?_
      refine hK.out _ _ hs7 (fun hHeld => ?_)
      try simp only [Act.put, List.setIfInBounds_toArray, List.set_cons_zero, List.set_cons_succ]
      refine wpAnyH_take (i := 7) (oi := ⟨some 30, _, _, _, _, _⟩) (v := (.bool bb)) rfl (by kernel_rfl) (by kernel_rfl) (by kernel_rfl) (fun _ _ _ h => h) (Or.inl ⟨by rfl, by (intro w' hSw; (try dsimp only at hSw); go_simp)⟩) (by assumption) ?_
      try simp only [Act.put, List.setIfInBounds_toArray, List.set_cons_zero, List.set_cons_succ]
      refine wpAnyH_done (by kernel_rfl) ?_ _
      refine NoPanic.normal ?_
      exact ⟨rfl, ⟨rfl, rfl⟩, rfl, rfl, rfl, rfl, rfl, rfl, H7⟩
    · go_simp
      go_at_call 29
      refine (HB.out _ _ y1 H6).mono ?_
      rintro e w7 ⟨A2, y2, rfl, hs7, hcv3, hcv4, H7⟩
      refine hK.out _ _ hs7 (fun hHeld => ?_)
      try simp only [Act.put, List.setIfInBounds_toArray, List.set_cons_zero, List.set_cons_succ]
      refine wpAnyH_ready (rs := [3, 6]) (by kernel_rfl) (by simp) ?_
      refine AllReadyH.cons (o := ⟨some 26, _, _, _, _, _⟩) rfl (fun K hK => ?_) (AllReadyH.cons (o := ⟨some 29, _, _, _, _, _⟩) rfl (fun K hK => ?_) AllReadyH.nil)
      · rw [if_pos (by rfl)]
        refine wp_convert_abs _ _ _ (by rfl) _ _ (by rfl) hcv3 ?_
        refine hK.out _ _ hs7 (fun hHeld => ?_)
        try simp only [Act.put, List.setIfInBounds_toArray, List.set_cons_zero, List.set_cons_succ]
        refine wpAnyH_ready (rs := [6]) (by kernel_rfl) (by simp) ?_
        refine AllReadyH.cons (o := ⟨some 29, _, _, _, _, _⟩) rfl (fun K hK => ?_) AllReadyH.nil
        rw [if_pos (by rfl)]
        refine wp_convert_abs _ _ _ (by rfl) _ _ (by rfl) hcv4 ?_
        refine hK.out _ _ hs7 (fun hHeld => ?_)
        try simp only [Act.put, List.setIfInBounds_toArray, List.set_cons_zero, List.set_cons_succ]
        refine wpAnyH_take (i := 7) (oi := ⟨some 30, _, _, _, _, _⟩) (v := (.bool bb)) rfl (by kernel_rfl) (by kernel_rfl) (by kernel_rfl) (fun _ _ _ h => h) (Or.inl ⟨by rfl, by (intro w' hSw; (try dsimp only at hSw); go_simp)⟩) (by assumption) ?_
        try simp only [Act.put, List.setIfInBounds_toArray, List.set_cons_zero, List.set_cons_succ]
        refine wpAnyH_done (by kernel_rfl) ?_ _
        refine NoPanic.normal ?_
        exact ⟨rfl, ⟨rfl, rfl⟩, rfl, rfl, rfl, rfl, rfl, rfl, H7⟩
      · rw [if_pos (by rfl)]
        refine wp_convert_abs _ _ _ (by rfl) _ _ (by rfl) hcv4 ?_
        refine hK.out _ _ hs7 (fun hHeld => ?_)
        try simp only [Act.put, List.setIfInBounds_toArray, List.set_cons_zero, List.set_cons_succ]
        refine wpAnyH_ready (rs := [3]) (by kernel_rfl) (by simp) ?_
        refine AllReadyH.cons (o := ⟨some 26, _, _, _, _, _⟩) rfl (fun K hK => ?_) AllReadyH.nil
        rw [if_pos (by rfl)]
        refine wp_convert_abs _ _ _ (by rfl) _ _ (by rfl) hcv3 ?_
        refine hK.out _ _ hs7 (fun hHeld => ?_)
        try simp only [Act.put, List.setIfInBounds_toArray, List.set_cons_zero, List.set_cons_succ]
        refine wpAnyH_take (i := 7) (oi := ⟨some 30, _, _, _, _, _⟩) (v := (.bool bb)) rfl (by kernel_rfl) (by kernel_rfl) (by kernel_rfl) (fun _ _ _ h => h) (Or.inl ⟨by rfl, by (intro w' hSw; (try dsimp only at hSw); go_simp)⟩) (by assumption) ?_
        try simp only [Act.put, List.setIfInBounds_toArray, List.set_cons_zero, List.set_cons_succ]
        refine wpAnyH_done (by kernel_rfl) ?_ _
        refine NoPanic.normal ?_
        exact ⟨rfl, ⟨rfl, rfl⟩, rfl, rfl, rfl, rfl, rfl, rfl, H7⟩
  intro a' w6 ⟨hFm, j2, j3, j4, j6, j7, j30, F6⟩
  rw [fm42 hFm, j2, j3, j4, j6, j7, j30]
  clear hFm j2 j3 j4 j6 j7 j30 HA HB hs5' hbt
  have F6 := F6.out
  have H6 := Aside0.mk (And.intro (H5.out.1.trans F6 (fun _ h => h.elim)) (And.intro (F6.blk H5.out.2.1 (fun h => h)) (And.intro (F6.blk H5.out.2.2.1 (fun h => h)) (And.intro (F6.blk H5.out.2.2.2.1 (fun h => h)) (And.intro (F6.blk H5.out.2.2.2.2.1 (fun h => h)) (show w.heap.size + 4 ≤ w6.heap.size by have := F6.size; have := H5.out.2.2.2.2.2; omega))))))
  clear F6 H5
  cases bb with
  | false =>
    have em : mkEv x c s op sg t = ⟨x.kind, x.view, x.turn, x.slot, x.signer, x.c, x.s, x.op, x.sg, x.t, c, s, op, sg, t⟩ := by unfold mkEv; exact if_neg (of_decide_eq_false HBB.out)
    go_wp2_with (first | ((with_reducible refine gate_dst (N := 41) rfl ?_); refine wpList_load_row (by rfl) 48 _ (by rfl) (w.heap.size + 3) (by rfl) _ #[.int .i64 13, .int .i64 x.view, .int .i64 x.turn, .int .i64 x.slot, .int .i64 x.signer, .int .i64 0, .int .i64 x.kind, .int .i64 0, .int .i64 x.c, .int .i64 x.s, .slice X1 x.op.length e1, .slice X2 x.sg.length e2, .int .i64 c, .int .i64 s, .slice Ao op.length co, .slice As sg.length cs, .slice A3 t.length c3, .slice X3 x.t.length e3, .slice none 0 0, .slice none 0 0, .slice none 0 0, .slice none 0 0, .slice none 0 0] _ _ H6.out.2.2.2.2.1 Try.underlying48 (by rfl) (by kernel_rfl) ?_) | ((with_reducible refine gate_store (p := 6) rfl ?_); refine Aside0.out ?_))
    refine ⟨?_⟩
    refine wpList_store_abs (by rfl) 48 _ _ (by rfl) (w.heap.size + 2) #[.int .i64 13, .int .i64 x.view, .int .i64 x.turn, .int .i64 x.slot, .int .i64 x.signer, .int .i64 0, .int .i64 x.kind, .int .i64 0, .int .i64 x.c, .int .i64 x.s, .slice X1 x.op.length e1, .slice X2 x.sg.length e2, .int .i64 c, .int .i64 s, .slice Ao op.length co, .slice As sg.length cs, .slice A3 t.length c3, .slice X3 x.t.length e3, .slice none 0 0, .slice none 0 0, .slice none 0 0, .slice none 0 0, .slice none 0 0] (by rfl) (by rfl) 48 Z48 H6.out.2.2.2.1 (by kernel_rfl) (by rfl) (by simp [Value.oneCell']) ?_
    intro w9 hf9 hs9 hg9
    have F9 : Fr (fun _ => False) w w9 := H6.out.1.trans hf9 (fun k hk => .inr (by omega))
    go_wp2
    refine bodyPost_ret (results_cell_row (by rfl) _ _ (w.heap.size + 2) 48 #[.int .i64 13, .int .i64 x.view, .int .i64 x.turn, .int .i64 x.slot, .int .i64 x.signer, .int .i64 0, .int .i64 x.kind, .int .i64 0, .int .i64 x.c, .int .i64 x.s, .slice X1 x.op.length e1, .slice X2 x.sg.length e2, .int .i64 c, .int .i64 s, .slice Ao op.length co, .slice As sg.length cs, .slice A3 t.length c3, .slice X3 x.t.length e3, .slice none 0 0, .slice none 0 0, .slice none 0 0, .slice none 0 0, .slice none 0 0] (0, 0) _ (by rfl) hg9 Try.underlying48 (by rfl) (by kernel_rfl)) rfl ?_
    rw [em]
    exact ⟨_, rfl, ⟨X1, e1, X2, e2, X3, e3, Ao, co, As, cs, A3, c3, rfl, fun u a1 a2 a3 a4 a5 a6 => ⟨X1, e1, X2, e2, X3, e3, Ao, co, As, cs, A3, c3, rfl, a1, a2, a3, a4, a5, a6⟩⟩, frB F9⟩
  | true =>
    have em : mkEv x c s op sg t = ⟨x.kind, x.view, x.turn, x.slot, x.signer, c, s, op, sg, t, x.c, x.s, x.op, x.sg, x.t⟩ := by unfold mkEv; exact if_pos (of_decide_eq_true HBB.out)
    have q : w6.cell? ⟨(w.heap.size + 1), 0, none⟩ = some (.int .i64 c) ∧ w6.cell? ⟨(w.heap.size + 1), 1, none⟩ = some (.int .i64 s) ∧ w6.cell? ⟨(w.heap.size + 1), 2, none⟩ = some (.slice Ao op.length co) ∧ w6.cell? ⟨(w.heap.size + 1), 3, none⟩ = some (.slice As sg.length cs) := by simp [World.cell?, H6.out.2.2.1]
    obtain ⟨q0, q1, q2, q3⟩ := q
    go_wp2_with (first | ((with_reducible refine gate_store (p := 32) rfl ?_); refine Aside0.out ?_))
    refine ⟨?_⟩
    refine wpList_store_part (by rfl) 31 _ _ (by rfl) (w.heap.size + 3) 8 #[.int .i64 c, .int .i64 s, .slice Ao op.length co, .slice As sg.length cs] (by rfl) (by rfl) 48 #[.int .i64 13, .int .i64 x.view, .int .i64 x.turn, .int .i64 x.slot, .int .i64 x.signer, .int .i64 0, .int .i64 x.kind, .int .i64 0, .int .i64 x.c, .int .i64 x.s, .slice X1 x.op.length e1, .slice X2 x.sg.length e2, .int .i64 c, .int .i64 s, .slice Ao op.length co, .slice As sg.length cs, .slice A3 t.length c3, .slice X3 x.t.length e3, .slice none 0 0, .slice none 0 0, .slice none 0 0, .slice none 0 0, .slice none 0 0] H6.out.2.2.2.2.1 (by kernel_rfl) (by simp) (by simp [Value.oneCell']) ?_
    intro w7 hf7 hs7 hg7
    have hg7 : w7.heap[w.heap.size + 3]? = some (.cells #[.int .i64 13, .int .i64 x.view, .int .i64 x.turn, .int .i64 x.slot, .int .i64 x.signer, .int .i64 0, .int .i64 x.kind, .int .i64 0, .int .i64 c, .int .i64 s, .slice Ao op.length co, .slice As sg.length cs, .int .i64 c, .int .i64 s, .slice Ao op.length co, .slice As sg.length cs, .slice A3 t.length c3, .slice X3 x.t.length e3, .slice none 0 0, .slice none 0 0, .slice none 0 0, .slice none 0 0, .slice none 0 0] 48 (0, 0)) := hg7
    have kf7 := frozenV hg7 17
    have kc7 : w7.cell? ⟨w.heap.size + 3, 17, none⟩ = some (.slice X3 x.t.length e3) := by simp [World.cell?, hg7]
    have m71 := hf7.blk H6.out.2.1 (fun e => by omega)
    have m72 := hf7.blk H6.out.2.2.2.1 (fun e => by omega)
    have m75 : w7.cell? ⟨w.heap.size, 5, none⟩ = some (.int .i64 x.c) ∧ w7.cell? ⟨w.heap.size, 6, none⟩ = some (.int .i64 x.s) ∧ w7.cell? ⟨w.heap.size, 7, none⟩ = some (.slice X1 x.op.length e1) ∧ w7.cell? ⟨w.heap.size, 8, none⟩ = some (.slice X2 x.sg.length e2) ∧ w7.cell? ⟨w.heap.size, 9, none⟩ = some (.slice X3 x.t.length e3) := by simp [World.cell?, m71]
    obtain ⟨p5, p6, p7, p8, p9⟩ := m75
    clear q0 q1 q2 q3
    go_wp2_with (first | ((with_reducible refine gate_store (p := 37) rfl ?_); refine Aside0.out ?_))
    refine ⟨?_⟩
    have hg8 : (w7.setCell ⟨w.heap.size + 3, 17, none⟩ (.slice A3 t.length c3)).heap[w.heap.size + 3]? = some (.cells #[.int .i64 13, .int .i64 x.view, .int .i64 x.turn, .int .i64 x.slot, .int .i64 x.signer, .int .i64 0, .int .i64 x.kind, .int .i64 0, .int .i64 c, .int .i64 s, .slice Ao op.length co, .slice As sg.length cs, .int .i64 c, .int .i64 s, .slice Ao op.length co, .slice As sg.length cs, .slice A3 t.length c3, .slice A3 t.length c3, .slice none 0 0, .slice none 0 0, .slice none 0 0, .slice none 0 0, .slice none 0 0] 48 (0, 0)) := by
      rw [setCell_eq_setRow w7 _ _ _ _ (0, 0) _ hg7, setRow_heap w7 _ _ _ _ _ hg7]
      rfl
    have hf8 : Fr (fun k => k = w.heap.size + 3) w7 (w7.setCell ⟨w.heap.size + 3, 17, none⟩ (.slice A3 t.length c3)) := (Fr.refl (fun k => k = w.heap.size + 3) w7).setCell (.inl rfl) _
    generalize w7.setCell ⟨w.heap.size + 3, 17, none⟩ (.slice A3 t.length c3) = w8 at *
    refine wpList_store_part (by rfl) 31 _ _ (by rfl) (w.heap.size + 3) 12 #[.int .i64 x.c, .int .i64 x.s, .slice X1 x.op.length e1, .slice X2 x.sg.length e2] (by rfl) (by rfl) 48 #[.int .i64 13, .int .i64 x.view, .int .i64 x.turn, .int .i64 x.slot, .int .i64 x.signer, .int .i64 0, .int .i64 x.kind, .int .i64 0, .int .i64 c, .int .i64 s, .slice Ao op.length co, .slice As sg.length cs, .int .i64 c, .int .i64 s, .slice Ao op.length co, .slice As sg.length cs, .slice A3 t.length c3, .slice A3 t.length c3, .slice none 0 0, .slice none 0 0, .slice none 0 0, .slice none 0 0, .slice none 0 0] hg8 (by kernel_rfl) (by simp) (by simp [Value.oneCell']) ?_
    intro w9 hf9 hs9 hg9
    have hg9 : w9.heap[w.heap.size + 3]? = some (.cells #[.int .i64 13, .int .i64 x.view, .int .i64 x.turn, .int .i64 x.slot, .int .i64 x.signer, .int .i64 0, .int .i64 x.kind, .int .i64 0, .int .i64 c, .int .i64 s, .slice Ao op.length co, .slice As sg.length cs, .int .i64 x.c, .int .i64 x.s, .slice X1 x.op.length e1, .slice X2 x.sg.length e2, .slice A3 t.length c3, .slice A3 t.length c3, .slice none 0 0, .slice none 0 0, .slice none 0 0, .slice none 0 0, .slice none 0 0] 48 (0, 0)) := hg9
    have fz9 := frozenV hg9 16
    have kc9 : w9.cell? ⟨w.heap.size + 3, 16, none⟩ = some (.slice A3 t.length c3) := by simp [World.cell?, hg9]
    have f89 := hf8.trans hf9 (fun k hk => .inl hk)
    have m91 := f89.blk m71 (fun e => by omega)
    have p9' : w9.cell? ⟨w.heap.size, 9, none⟩ = some (.slice X3 x.t.length e3) := by simp [World.cell?, m91]
    clear p5 p6 p7 p8 p9 kc7 kf7
    go_wp2_with (first | ((with_reducible refine gate_dst (N := 41) rfl ?_); refine Aside0.out ?_))
    refine ⟨?_⟩
    have hg10 : (w9.setCell ⟨w.heap.size + 3, 16, none⟩ (.slice X3 x.t.length e3)).heap[w.heap.size + 3]? = some (.cells #[.int .i64 13, .int .i64 x.view, .int .i64 x.turn, .int .i64 x.slot, .int .i64 x.signer, .int .i64 0, .int .i64 x.kind, .int .i64 0, .int .i64 c, .int .i64 s, .slice Ao op.length co, .slice As sg.length cs, .int .i64 x.c, .int .i64 x.s, .slice X1 x.op.length e1, .slice X2 x.sg.length e2, .slice X3 x.t.length e3, .slice A3 t.length c3, .slice none 0 0, .slice none 0 0, .slice none 0 0, .slice none 0 0, .slice none 0 0] 48 (0, 0)) := by
      rw [setCell_eq_setRow w9 _ _ _ _ (0, 0) _ hg9, setRow_heap w9 _ _ _ _ _ hg9]
      rfl
    have hf10 : Fr (fun k => k = w.heap.size + 3) w9 (w9.setCell ⟨w.heap.size + 3, 16, none⟩ (.slice X3 x.t.length e3)) := (Fr.refl (fun k => k = w.heap.size + 3) w9).setCell (.inl rfl) _
    generalize w9.setCell ⟨w.heap.size + 3, 16, none⟩ (.slice X3 x.t.length e3) = w10 at *
    have f70 := (hf7.trans f89 (fun k hk => .inl hk)).trans hf10 (fun k hk => .inl hk)
    have hZ := f70.blk H6.out.2.2.2.1 (fun e => by omega)
    have F10 : Fr (fun _ => False) w w10 := H6.out.1.trans f70 (fun k hk => .inr (by omega))
    clear fz9 kc9 p9'
    refine wpList_load_row (by rfl) 48 _ (by rfl) (w.heap.size + 3) (by rfl) _ #[.int .i64 13, .int .i64 x.view, .int .i64 x.turn, .int .i64 x.slot, .int .i64 x.signer, .int .i64 0, .int .i64 x.kind, .int .i64 0, .int .i64 c, .int .i64 s, .slice Ao op.length co, .slice As sg.length cs, .int .i64 x.c, .int .i64 x.s, .slice X1 x.op.length e1, .slice X2 x.sg.length e2, .slice X3 x.t.length e3, .slice A3 t.length c3, .slice none 0 0, .slice none 0 0, .slice none 0 0, .slice none 0 0, .slice none 0 0] _ _ hg10 Try.underlying48 (by rfl) (by kernel_rfl) ?_
    refine wpList_store_abs (by rfl) 48 _ _ (by rfl) (w.heap.size + 2) #[.int .i64 13, .int .i64 x.view, .int .i64 x.turn, .int .i64 x.slot, .int .i64 x.signer, .int .i64 0, .int .i64 x.kind, .int .i64 0, .int .i64 c, .int .i64 s, .slice Ao op.length co, .slice As sg.length cs, .int .i64 x.c, .int .i64 x.s, .slice X1 x.op.length e1, .slice X2 x.sg.length e2, .slice X3 x.t.length e3, .slice A3 t.length c3, .slice none 0 0, .slice none 0 0, .slice none 0 0, .slice none 0 0, .slice none 0 0] (by rfl) (by rfl) 48 Z48 hZ (by kernel_rfl) (by rfl) (by simp [Value.oneCell']) ?_
    intro w11 hf11 hs11 hg11
    have F11 : Fr (fun _ => False) w w11 := F10.trans hf11 (fun k hk => .inr (by omega))
    go_wp2
    refine bodyPost_ret (results_cell_row (by rfl) _ _ (w.heap.size + 2) 48 #[.int .i64 13, .int .i64 x.view, .int .i64 x.turn, .int .i64 x.slot, .int .i64 x.signer, .int .i64 0, .int .i64 x.kind, .int .i64 0, .int .i64 c, .int .i64 s, .slice Ao op.length co, .slice As sg.length cs, .int .i64 x.c, .int .i64 x.s, .slice X1 x.op.length e1, .slice X2 x.sg.length e2, .slice X3 x.t.length e3, .slice A3 t.length c3, .slice none 0 0, .slice none 0 0, .slice none 0 0, .slice none 0 0, .slice none 0 0] (0, 0) _ (by rfl) hg11 Try.underlying48 (by rfl) (by kernel_rfl)) rfl ?_
    rw [em]
    exact ⟨_, rfl, ⟨Ao, co, As, cs, A3, c3, X1, e1, X2, e2, X3, e3, rfl, fun u a1 a2 a3 a4 a5 a6 => ⟨Ao, co, As, cs, A3, c3, X1, e1, X2, e2, X3, e3, rfl, a4, a5, a6, a1, a2, a3⟩⟩, frB F11⟩
end Go.Proofs.Ytnabilhcmplhcaa.Sha
end
section
/- Written by a program of this session out of the translation; Lean checks it. -/
namespace Go.Proofs.Ytnabilhcmplhcaa.Q
open Go.RowKit Go.Proofs.YtnabilhcmplhcaaW.PrintWords Go.Proofs.YtnabilhcmplhcaaW.PrintLast Go.Proofs.YtnabilhcmplhcaaW.PrintMore
attribute [local go_sem] max2_int min2_int max_two min_two max_three min_three max_four min_four   -- for this text's walks alone
set_option linter.unusedVariables false
set_option linter.unusedSimpArgs false

theorem eqA28 (d : Nat) (w : World) (x0 y0 : Int) (x1 y1 : Int) :
    (Op.equalIn (d + 2) 28 (.agg #[.int .i64 x0, .int .i64 x1]) (.agg #[.int .i64 y0, .int .i64 y1])).run Try.prog w = .ok (x0 == y0 && (x1 == y1)) w := by
  refine eqA_of Try.underlying28 (by kernel_rfl) ?_
  refine eqf_cons (by rfl) (by go_simp; rfl) (by go_simp; rfl) (by go_simp) ?_
  exact eqf_last (by rfl) (by go_simp; rfl) (by go_simp; rfl) (by go_simp)
end Go.Proofs.Ytnabilhcmplhcaa.Q
end
section
/-
  Rows of structs of one's own: cells by element; a cell is written; elements are appended. What the document's list holds.
-/
set_option linter.unusedVariables false
set_option linter.unusedSimpArgs false
namespace Go.Proofs.Ytnabilhcmplhcaa.Sha
open Go.RowKit Go.Proofs.YtnabilhcmplhcaaW.PrintWords Go.Proofs.YtnabilhcmplhcaaW.PrintLast Go.Proofs.YtnabilhcmplhcaaW.PrintMore Go.Proofs.Ytnabilhcmplhcaa.Q Go.Proofs.Ytnabilhcmplhcaa.Fr Go.Proofs.Ytnabilhcmplhcaa.Oct

theorem flat_len {α : Type} {m : Nat} : ∀ {cs : List (List α)}, (∀ c ∈ cs, c.length = m) → cs.flatten.length = cs.length * m
  | [], _ => by simp
  | c :: cs, h => by
    rw [List.flatten_cons, List.length_append, h c (List.mem_cons_self ..), flat_len (fun c hc => h c (List.mem_cons_of_mem _ hc)), List.length_cons, Nat.succ_mul, Nat.add_comm]
theorem flat_get {α : Type} {m : Nat} : ∀ {cs : List (List α)}, (∀ c ∈ cs, c.length = m) → ∀ {j : Nat} {c : List α}, cs[j]? = some c → ∀ {i : Nat}, i < m → cs.flatten[j * m + i]? = c[i]?
  | [], _, j, c, hc, i, hi => by simp at hc
  | d :: cs, h, 0, c, hc, i, hi => by
    have e : d = c := by simpa using hc
    subst e
    rw [List.flatten_cons, Nat.zero_mul, Nat.zero_add, List.getElem?_append_left (by rw [h d (List.mem_cons_self ..)]; exact hi)]
  | d :: cs, h, j + 1, c, hc, i, hi => by
    have hd := h d (List.mem_cons_self ..)
    rw [List.getElem?_cons_succ] at hc
    rw [List.flatten_cons, List.getElem?_append_right (by rw [hd, Nat.succ_mul]; omega), hd, show (j + 1) * m + i - m = j * m + i by rw [Nat.succ_mul]; omega]
    exact flat_get (fun c hc => h c (List.mem_cons_of_mem _ hc)) hc hi
theorem flat_inv {α : Type} {m : Nat} : ∀ {cs : List (List α)}, (∀ c ∈ cs, c.length = m) → ∀ {k : Nat} {u : α}, cs.flatten[k]? = some u → ∃ j c i, k = j * m + i ∧ cs[j]? = some c ∧ c[i]? = some u
  | [], _, k, u, hu => by simp at hu
  | d :: cs, h, k, u, hu => by
    have hd := h d (List.mem_cons_self ..)
    rw [List.flatten_cons] at hu
    by_cases hk : k < m
    · rw [List.getElem?_append_left (by rw [hd]; exact hk)] at hu
      exact ⟨0, d, k, by omega, rfl, hu⟩
    · rw [List.getElem?_append_right (by rw [hd]; omega), hd] at hu
      obtain ⟨j, c, i, e, h1, h2⟩ := flat_inv (fun c hc => h c (List.mem_cons_of_mem _ hc)) hu
      exact ⟨j + 1, c, i, by rw [Nat.succ_mul]; omega, by simpa using h1, h2⟩
theorem flat_set {α : Type} {m : Nat} : ∀ {cs : List (List α)}, (∀ c ∈ cs, c.length = m) → ∀ {j : Nat} {c : List α}, cs[j]? = some c → ∀ {i : Nat}, i < m → ∀ (u : α), (cs.set j (c.set i u)).flatten = cs.flatten.set (j * m + i) u
  | [], _, j, c, hc, i, hi, u => by simp at hc
  | d :: cs, h, 0, c, hc, i, hi, u => by
    have e : d = c := by simpa using hc
    subst e
    rw [List.set_cons_zero, List.flatten_cons, List.flatten_cons, Nat.zero_mul, Nat.zero_add, List.set_append_left _ _ (by rw [h d (List.mem_cons_self ..)]; exact hi)]
  | d :: cs, h, j + 1, c, hc, i, hi, u => by
    have hd := h d (List.mem_cons_self ..)
    rw [List.getElem?_cons_succ] at hc
    rw [List.set_cons_succ, List.flatten_cons, List.flatten_cons, List.set_append_right _ _ (by rw [hd, Nat.succ_mul]; omega), hd, show (j + 1) * m + i - m = j * m + i by rw [Nat.succ_mul]; omega, flat_set (fun c hc => h c (List.mem_cons_of_mem _ hc)) hc hi u]
/-- What a row of one's own says of its cells. -/
theorem row_at {w : World} {base n sz : Nat} {v : Value} {xs : List Value} {e : TypeId} (h : w.ownsRow base e sz v n xs) (hn : 0 < n) : ∃ g cap cur, v = .slice (some ⟨g, 0, none⟩) n cap ∧ n ≤ cap ∧ base ≤ g ∧ w.heap[g]? = some (.cells cur e (0, 0)) ∧ ∀ (k : Nat) (u : Value), xs[k]? = some u → cur[k]? = some u := by
  obtain ⟨hl, ⟨_, h0⟩ | ⟨g, cap, cur, rfl, hb, hg, hc, _, hs, ht⟩⟩ := h
  · omega
  · refine ⟨g, cap, cur, rfl, hc, hb, hg, fun k u hu => ?_⟩
    rw [← ht, List.getElem?_take] at hu
    split at hu
    · simpa using hu
    · cases hu
theorem row_slice {w : World} {base n sz : Nat} {v : Value} {xs : List Value} {e : TypeId} (h : w.ownsRow base e sz v n xs) : ∃ A c, v = .slice A n c ∧ n ≤ c := by
  obtain ⟨_, ⟨rfl, rfl⟩ | ⟨g, cap, cur, rfl, _, _, hc, _⟩⟩ := h
  · exact ⟨none, 0, rfl, Nat.le_refl _⟩
  · exact ⟨_, cap, rfl, hc⟩
/-- A cell of a row of one's own is written. -/
theorem row_set {w : World} {base n sz : Nat} {g cap : Nat} {xs : List Value} {e : TypeId} (h : w.ownsRow base e sz (.slice (some ⟨g, 0, none⟩) n cap) n xs) (k : Nat) (hk : k < xs.length) (u : Value) : (w.setCell ⟨g, k, none⟩ u).ownsRow base e sz (.slice (some ⟨g, 0, none⟩) n cap) n (xs.set k u) := by
  obtain ⟨hl, ⟨e0, _⟩ | ⟨g', cap', cur, e0, hb, hg, hc, hm, hs, ht⟩⟩ := h
  · cases e0
  · injection e0 with e1 _ e3
    injection e1 with e1
    injection e1 with e1 _ _
    subst e1 e3
    refine ⟨by rw [List.length_set]; exact hl, .inr ⟨g, cap, cur.setIfInBounds k u, rfl, hb, ?_, hc, hm, by simpa using hs, ?_⟩⟩
    · rw [setCell_eq_setRow w g k cur e (0, 0) u hg, setRow_heap w g cur _ e (0, 0) hg]
    · rw [Array.toList_setIfInBounds, List.take_set, ht]
/-- A row of one's own in which nothing is written. -/
theorem row_fr0 {w w' : World} {base n sz : Nat} {v : Value} {xs : List Value} {e : TypeId} (h : w.ownsRow base e sz v n xs) (hf : Fr (fun _ => False) w w') : w'.ownsRow base e sz v n xs := row_fr h hf (fun _ _ h => h)
theorem pick_listI {α β : Type} : ∀ (S : List α) (R : Nat → α → β → Prop), (∀ (j : Nat) (x : α), S[j]? = some x → ∃ c, R j x c) → ∃ cs : List β, cs.length = S.length ∧ ∀ (j : Nat) (x : α) (c : β), S[j]? = some x → cs[j]? = some c → R j x c
  | [], _, _ => ⟨[], rfl, fun j x c h => by simp at h⟩
  | x :: S, R, h => by
    obtain ⟨c, hc⟩ := h 0 x rfl
    obtain ⟨cs, hl, hcs⟩ := pick_listI S (fun j y c => R (j + 1) y c) (fun j y hy => h (j + 1) y (by simpa using hy))
    refine ⟨c :: cs, by simp [hl], fun j y d hy hd => ?_⟩
    cases j with
    | zero =>
      have e1 : x = y := by simpa using hy
      have e2 : c = d := by simpa using hd
      rw [← e1, ← e2]
      exact hc
    | succ j => exact hcs j y d (by simpa using hy) (by simpa using hd)

/-! ### The document's list -/
def toS (x : Sn) : S71 := ⟨x.kind, x.slot, x.signer, ⟨x.view, x.turn⟩, ⟨x.c, x.s, x.op, x.sg⟩, x.t, x.told⟩
/-- The cells of a seen vote, whose bytes can be read. -/
def SnIs (w : World) (c : List Value) (x : Sn) : Prop := ∃ X1 e1 X2 e2 X3 e3, c = snW X1 e1 X2 e2 X3 e3 x ∧ Ls w X1 e1 x.op ∧ Ls w X2 e2 x.sg ∧ Ls w X3 e3 x.t
theorem SnIs.len {w : World} {c : List Value} {x : Sn} (h : SnIs w c x) : c.length = 11 := by
  obtain ⟨X1, e1, X2, e2, X3, e3, rfl, _⟩ := h
  rfl
theorem SnIs.one {w : World} {c : List Value} {x : Sn} (h : SnIs w c x) : ∀ u ∈ c, u.oneCell' = true := by
  obtain ⟨X1, e1, X2, e2, X3, e3, rfl, _⟩ := h
  intro u hu
  simp only [snW, List.mem_cons, List.mem_nil_iff, or_false] at hu
  rcases hu with rfl | rfl | rfl | rfl | rfl | rfl | rfl | rfl | rfl | rfl | rfl <;> rfl
theorem SnIs.fr {w w' : World} {c : List Value} {x : Sn} (h : SnIs w c x) (hf : Fr (fun _ => False) w w') : SnIs w' c x := by
  obtain ⟨X1, e1, X2, e2, X3, e3, rfl, h1, h2, h3⟩ := h
  exact ⟨X1, e1, X2, e2, X3, e3, rfl, h1.fr hf, h2.fr hf, h3.fr hf⟩
theorem SnIs.K {w : World} {c : List Value} {x : Sn} (h : SnIs w c x) (hx : x.ok) : k71.K w (toS x) c := by
  obtain ⟨X1, e1, X2, e2, X3, e3, rfl, h1, h2, h3⟩ := h
  exact k71_mk w (toS x) (A7 := X1) (c7 := e1) h1.1 (h1.2.C (by have := hx.lo; omega)) (A8 := X2) (c8 := e2) h2.1 (h2.2.C (by have := hx.lo; omega)) (A9 := X3) (c9 := e3) h3.1 (h3.2.C (by have := hx.lt; omega))
theorem SnIs.of_K {w : World} {c : List Value} {x : Sn} (h : k71.K w (toS x) c) : SnIs w c x := by
  obtain ⟨A7, c7, A8, c8, A9, c9, rfl, l7, g7, l8, g8, l9, g9⟩ := k71_open h
  exact ⟨A7, c7, A8, c8, A9, c9, rfl, ⟨l7, Rd.of_C g7⟩, ⟨l8, Rd.of_C g8⟩, ⟨l9, Rd.of_C g9⟩⟩
/-- .. in a row of one's own; w0 is the world in which its bytes are read. -/
def LRow (W w0 : World) (base : Nat) (l : Value) (S : List Sn) : Prop :=
  ∃ cs : List (List Value), cs.length = S.length ∧ W.ownsRow base 71 11 l S.length cs.flatten ∧ ∀ (j : Nat) (x : Sn) (c : List Value), S[j]? = some x → cs[j]? = some c → SnIs w0 c x
theorem LRow.fr {W W' w0 : World} {base : Nat} {l : Value} {S : List Sn} (h : LRow W w0 base l S) (hf : Fr (fun _ => False) W W') : LRow W' w0 base l S := by
  obtain ⟨cs, h1, h2, h3⟩ := h
  exact ⟨cs, h1, row_fr0 h2 hf, h3⟩
theorem len_of {S : List Sn} {cs : List (List Value)} {w0 : World} (hl : cs.length = S.length) (h : ∀ (j : Nat) (x : Sn) (c : List Value), S[j]? = some x → cs[j]? = some c → SnIs w0 c x) : ∀ c ∈ cs, c.length = 11 := fun c hc => by
  obtain ⟨j, hj, rfl⟩ := List.getElem_of_mem hc
  exact (h j S[j] cs[j] (List.getElem?_eq_getElem (by rw [← hl]; exact hj)) (List.getElem?_eq_getElem hj)).len
/-- The list, as it can be read. -/
structure WR (w : World) (A : Option Addr) (S : List Sn) : Prop where
  C : Kd.C k71 w A S.length (S.map toS)
  ty : ∀ ad, A = some ad → ∃ cells fr, w.heap[ad.block]? = some (.cells cells 71 fr)
theorem LRow.wr {W w0 : World} {base : Nat} {l : Value} {S : List Sn} (h : LRow W w0 base l S) (hf : Fr (fun _ => False) w0 W) (ok : ∀ x ∈ S, x.ok) (hS : S.length ≤ 9223372036854775807) : ∃ A c, l = .slice A S.length c ∧ S.length ≤ c ∧ WR W A S := by
  obtain ⟨cs, h1, h2, h3⟩ := h
  have hlen := len_of h1 h3
  have hh := h2
  obtain ⟨_, ⟨rfl, hz⟩ | ⟨g, cap, cur, rfl, _, hg, hc, _, _, ht⟩⟩ := hh
  · refine ⟨none, 0, by rw [hz], by omega, ⟨by rw [List.length_map], hS, fun hn => by omega⟩, fun ad e => by cases e⟩
  · refine ⟨_, cap, rfl, hc, ⟨by rw [List.length_map], hS, fun hn => ⟨_, rfl, fun j p hj => ?_⟩⟩, fun ad e => by cases e; exact ⟨_, _, hg⟩⟩
    rw [List.getElem?_map, Option.map_eq_some_iff] at hj
    obtain ⟨x, hx, rfl⟩ := hj
    have hjl := (List.getElem?_eq_some_iff.1 hx).1
    have hcj : cs[j]? = some (cs[j]'(by rw [h1]; exact hjl)) := List.getElem?_eq_getElem (by rw [h1]; exact hjl)
    have hs := h3 j x _ hx hcj
    refine ⟨_, hs.len, (hs.fr hf).K (ok x (List.mem_of_getElem? hx)), fun i u hu => ?_⟩
    have hi : i < 11 := by rw [← hs.len]; exact (List.getElem?_eq_some_iff.1 hu).1
    have e := flat_get hlen hcj hi
    rw [hu, ← ht, List.getElem?_take] at e
    rw [add_at]
    split at e
    · have e9 : cur[j * 11 + i]? = some u := by simpa using e
      have e10 : cur[j * k71.sz + i]? = some u := e9
      simp only [World.cell?, hg, Nat.zero_add]
      simpa using e10
    · cases e
/-- Is it the vote of a place? -/
def isAt (x : Sn) (kind view turn slot signer : Int) : Prop := x.kind = kind ∧ x.view = view ∧ x.turn = turn ∧ x.slot = slot ∧ x.signer = signer
theorem isAt.key {x : Sn} {kind view turn slot signer : Int} (h : isAt x kind view turn slot signer) : x.key = plK kind view turn slot signer := by
  obtain ⟨h1, h2, h3, h4, h5⟩ := h
  rw [Sn.key, h1, h2, h3, h4, h5]
def Z11 : Array Value := #[.int .i64 0, .int .i64 0, .int .i64 0, .int .i64 0, .int .i64 0, .int .i64 0, .int .i64 0, .slice none 0 0, .slice none 0 0, .slice none 0 0, .bool false]
theorem WR.elem {w : World} {A : Option Addr} {S : List Sn} (h : WR w A S) {j : Nat} {x : Sn} (hx : S[j]? = some x) : ∃ ad X1 e1 X2 e2 X3 e3, A = some ad ∧ (w.cell? (ad.add (j * 11)) = some (.int .i64 x.kind) ∧ w.cell? ⟨(ad.add (j * 11)).block, (ad.add (j * 11)).off + 1, none⟩ = some (.int .i64 x.slot) ∧ w.cell? ⟨(ad.add (j * 11)).block, (ad.add (j * 11)).off + 2, none⟩ = some (.int .i64 x.signer) ∧ w.cell? ⟨(ad.add (j * 11)).block, (ad.add (j * 11)).off + 3, none⟩ = some (.int .i64 x.view) ∧ w.cell? ⟨(ad.add (j * 11)).block, (ad.add (j * 11)).off + 4, none⟩ = some (.int .i64 x.turn) ∧ w.cell? ⟨(ad.add (j * 11)).block, (ad.add (j * 11)).off + 5, none⟩ = some (.int .i64 x.c) ∧ w.cell? ⟨(ad.add (j * 11)).block, (ad.add (j * 11)).off + 6, none⟩ = some (.int .i64 x.s) ∧ w.cell? ⟨(ad.add (j * 11)).block, (ad.add (j * 11)).off + 7, none⟩ = some (.slice X1 x.op.length e1) ∧ w.cell? ⟨(ad.add (j * 11)).block, (ad.add (j * 11)).off + 8, none⟩ = some (.slice X2 x.sg.length e2) ∧ w.cell? ⟨(ad.add (j * 11)).block, (ad.add (j * 11)).off + 9, none⟩ = some (.slice X3 x.t.length e3) ∧ w.cell? ⟨(ad.add (j * 11)).block, (ad.add (j * 11)).off + 10, none⟩ = some (.bool x.told)) ∧ SnIs w (snW X1 e1 X2 e2 X3 e3 x) x := by
  have hj := (List.getElem?_eq_some_iff.1 hx).1
  obtain ⟨ad, c, e, _, hK, hc0⟩ := Kd.C_get h.C z71 (j : Int) (by omega) (by omega)
  have hc : ∀ i u, c[i]? = some u → w.cell? (ad.add (j * 11 + i)) = some u := hc0
  rw [show (S.map toS).getD (j : Int).toNat z71 = toS x by simp [List.getD_eq_getElem?_getD, hx]] at hK
  obtain ⟨A7, c7, A8, c8, A9, c9, rfl, l7, g7, l8, g8, l9, g9⟩ := k71_open hK
  exact ⟨ad, A7, c7, A8, c8, A9, c9, e, ⟨hc 0 _ rfl, by rw [← add_field _ _ 1 (by omega)]; exact hc 1 _ rfl, by rw [← add_field _ _ 2 (by omega)]; exact hc 2 _ rfl, by rw [← add_field _ _ 3 (by omega)]; exact hc 3 _ rfl, by rw [← add_field _ _ 4 (by omega)]; exact hc 4 _ rfl, by rw [← add_field _ _ 5 (by omega)]; exact hc 5 _ rfl, by rw [← add_field _ _ 6 (by omega)]; exact hc 6 _ rfl, by rw [← add_field _ _ 7 (by omega)]; exact hc 7 _ rfl, by rw [← add_field _ _ 8 (by omega)]; exact hc 8 _ rfl, by rw [← add_field _ _ 9 (by omega)]; exact hc 9 _ rfl, by rw [← add_field _ _ 10 (by omega)]; exact hc 10 _ rfl⟩, A7, c7, A8, c8, A9, c9, rfl, ⟨l7, Rd.of_C g7⟩, ⟨l8, Rd.of_C g8⟩, ⟨l9, Rd.of_C g9⟩⟩
theorem WR.fr {w w' : World} {A : Option Addr} {S : List Sn} (h : WR w A S) (hf : Fr (fun _ => False) w w') : WR w' A S := ⟨Kd.C_below h.C (hf.below _ (Nat.le_refl _) (fun i h => h.elim)), fun ad e => by
  obtain ⟨cells, fr, h⟩ := h.ty ad e
  exact ⟨cells, fr, hf.blk h (fun h => h)⟩⟩
set_option maxRecDepth 100000 in
theorem fm44 {a : Act} (h : Fm 44 a) : a = ⟨#[sl a 0, sl a 1, sl a 2, sl a 3, sl a 4, sl a 5, sl a 6, sl a 7, sl a 8, sl a 9, sl a 10, sl a 11, sl a 12, sl a 13, sl a 14, sl a 15, sl a 16, sl a 17, sl a 18, sl a 19, sl a 20, sl a 21, sl a 22, sl a 23, sl a 24, sl a 25, sl a 26, sl a 27, sl a 28, sl a 29, sl a 30, sl a 31, sl a 32, sl a 33, sl a 34, sl a 35, sl a 36, sl a 37, sl a 38, sl a 39, sl a 40, sl a 41, sl a 42, sl a 43], []⟩ := by
  obtain ⟨T, D⟩ := a
  obtain ⟨h1, h2⟩ := h
  obtain rfl : D = [] := h2
  obtain ⟨l⟩ := T
  have h1 : l.length = 44 := h1
  congr 2
  refine List.ext_getElem? fun i => ?_
  by_cases hi : i < 44
  · have hx : ∀ j, j < 44 → l[j]? = some (sl ⟨⟨l⟩, []⟩ j) := fun j hj => by
      have hl : j < l.length := by omega
      simp [sl, Array.getD_eq_getD_getElem?, List.getElem?_eq_getElem hl]
    rw [hx i hi]
    have : ∀ (s : Nat → Value) (i : Nat), i < 44 → ((List.range 44).map s)[i]? = some (s i) := fun s i hi => by simp [hi]
    exact (this _ i hi).symm
  · have h2 : ∀ (s : Nat → Value), ((List.range 44).map s)[i]? = none := fun s => by simp; omega
    exact (List.getElem?_eq_none (by omega)).trans (h2 _).symm
theorem eql28_run (x0 x1 y0 y1 : Int) (w : World) : (binOp .eql 28 (.agg #[.int .i64 x0, .int .i64 x1]) (.agg #[.int .i64 y0, .int .i64 y1])).run Try.prog w = .ok (.bool (x0 == y0 && (x1 == y1))) w := by
  unfold binOp
  simp only [Op.equal]
  rw [Sem.run_bind, show Op.maxDepth = (Op.maxDepth - 2) + 2 from rfl, eqA28]
  rfl
/-- Two ballots are compared, by an operation that may be guarded. -/
theorem wpList_eq28 {ops : Array Oper} {rest : List Oper} {o : Oper} {a : Act} {Q : Exit → Act → World → Prop} {w : World} (hw : Region.wanted o (yielded ops a.tmps) = true) (x y : Operand) (ho : o.op = .binOp .eql 28 x y 28) (x0 x1 y0 y1 : Int) (hx : a.eval x = .agg #[.int .i64 x0, .int .i64 x1]) (hy : a.eval y = .agg #[.int .i64 y0, .int .i64 y1]) (h : wpList Try.prog ops Q rest (a.put o.dst (.bool (x0 == y0 && (x1 == y1)))) w) : wpList Try.prog ops Q (o :: rest) a w := by
  refine gate_guard hw (wpList_plain rfl fun K hK => ?_)
  unfold Oper.wp execOp
  have hg : (eqGuard .eql 28 x y (.agg #[.int .i64 x0, .int .i64 x1]) (.agg #[.int .i64 y0, .int .i64 y1])).run Try.prog w = .ok () w := by first | (go_simp; done) | rfl
  simp only [ho, hx, hy, Sem.run_bind, hg, eql28_run, Result.andThen_ok, Sem.run_pure]
  exact hK _ _ h
set_option maxHeartbeats 8000000 in
set_option maxRecDepth 100000 in
theorem roundF (u : Nat → Value) (A : Option Addr) (c : Nat) (S : List Sn) (j : Nat) (x : Sn) (hx : S[j]? = some x) (hS : S.length ≤ 1048576) (kind view turn slot si : Int) (gb ga : Nat) (w : World) (hW : WR w A S) (hgb : w.heap[gb]? = some (.cells #[.int .i64 view, .int .i64 turn] 28 (0, 0))) (hga : w.heap[ga]? = some (.cells #[.int .i64 slot, .int .i64 si] 51 (0, 0)))
    (Q : Exit → Act → World → Prop) (hN : ¬ isAt x kind view turn slot si → ∀ a' w', Fm 44 a' → sl a' 1 = .int .i64 kind → sl a' 6 = .pointer (some ⟨gb, 0, none⟩) → sl a' 7 = .pointer (some ⟨ga, 0, none⟩) → sl a' 11 = .slice A S.length c → sl a' 12 = .int .i64 (S.length : Int) → sl a' 13 = .int .i64 ((j : Int) + 1) → Fr (fun _ => False) w w' → Q .normal a' w')
    (hY : isAt x kind view turn slot si → ∀ a' w', Fm 44 a' → sl a' 8 = .int .i64 (j : Int) → Fr (fun _ => False) w w' → Q .ret a' w') :
    Code.wp Try.prog (bodyN Try.f30 0) Q ⟨#[u 0, .int .i64 kind, u 2, u 3, u 4, u 5, .pointer (some ⟨gb, 0, none⟩), .pointer (some ⟨ga, 0, none⟩), u 8, u 9, u 10, .slice A S.length c, .int .i64 (S.length : Int), .int .i64 (j : Int), u 14, u 15, u 16, u 17, u 18, u 19, u 20, u 21, u 22, u 23, u 24, u 25, u 26, u 27, u 28, u 29, u 30, u 31, u 32, u 33, u 34, u 35, u 36, u 37, u 38, u 39, u 40, u 41, u 42, u 43], []⟩ w := by
  obtain ⟨ad, X1, e1, X2, e2, X3, e3, rfl, hc, _⟩ := hW.elem hx
  obtain ⟨x0, x1, x2, x3, x4, x5, x6, x7, x8, x9, x10⟩ := hc
  have hj := (List.getElem?_eq_some_iff.1 hx).1
  have hu28 := Try.underlying28
  obtain ⟨n, hn⟩ : ∃ n, S.length = n := ⟨_, rfl⟩
  rw [hn] at hj hS hN ⊢
  have b0 : decide ((j : Int) < (n : Int)) = true := decide_eq_true (by omega)
  have b1 : (0 : Int) ≤ (j : Int) := by omega
  have b2 : (j : Int) < (n : Int) := by omega
  have b5 : wrap64 ((j : Int) + 1) = (j : Int) + 1 := by unfold wrap64; omega
  have B5 := Aside0.mk b5
  have HQ := Aside0.mk (And.intro hN hY)
  have HG := Aside0.mk (And.intro hgb hga)
  clear b5 hN hY hW hx hn hgb hga hj hS
  conv => arg 2; whnf
  go_wp2_with (first | ((with_reducible refine gate_dst (N := 10) rfl ?_); refine wpList_alloc_abs (by rfl) 71 (by rfl) (.agg Z11) (by kernel_rfl) ?_; intro w2 hb2 hs2 hg2) | ((with_reducible refine gate_store (p := 10) rfl ?_); refine Aside0.out ?_))
  refine ⟨?_⟩
  refine wpList_store_abs (by rfl) 71 _ _ (by rfl) w.heap.size #[.int .i64 x.kind, .int .i64 x.slot, .int .i64 x.signer, .int .i64 x.view, .int .i64 x.turn, .int .i64 x.c, .int .i64 x.s, .slice X1 x.op.length e1, .slice X2 x.sg.length e2, .slice X3 x.t.length e3, .bool x.told] (by rfl) (by rfl) 71 Z11 hg2 (by kernel_rfl) (by rfl) (by simp [Value.oneCell']) ?_
  intro w3 hf3 hs3 hg3
  have F3 : Fr (fun _ => False) w w3 := (Fr.of_below hb2 (fun _ => False)).trans hf3 (fun k hk => .inr (by omega))
  have y : w3.cell? ⟨w.heap.size, 0, none⟩ = some (.int .i64 x.kind) ∧ w3.cell? ⟨w.heap.size, 1, none⟩ = some (.int .i64 x.slot) ∧ w3.cell? ⟨w.heap.size, 2, none⟩ = some (.int .i64 x.signer) ∧ w3.cell? ⟨w.heap.size, 3, none⟩ = some (.int .i64 x.view) ∧ w3.cell? ⟨w.heap.size, 4, none⟩ = some (.int .i64 x.turn) := by simp [World.cell?, hg3]
  have q : w3.cell? ⟨gb, 0, none⟩ = some (.int .i64 view) ∧ w3.cell? ⟨gb, 1, none⟩ = some (.int .i64 turn) := by simp [World.cell?, F3.blk HG.out.1 (fun h => h)]
  have r : w3.cell? ⟨ga, 0, none⟩ = some (.int .i64 slot) ∧ w3.cell? ⟨ga, 1, none⟩ = some (.int .i64 si) := by simp [World.cell?, F3.blk HG.out.2 (fun h => h)]
  obtain ⟨y0, y1, y2, y3, y4⟩ := y
  obtain ⟨q0, q1⟩ := q
  obtain ⟨r0, r1⟩ := r
  have HF := Aside0.mk F3
  clear hb2 hs2 hg2 hf3 hs3 hg3 F3 x0 x1 x2 x3 x4 x5 x6 x7 x8 x9 x10
  obtain ⟨k1, h1⟩ : ∃ b, (x.kind == kind) = b := ⟨_, rfl⟩
  obtain ⟨k2, h2⟩ : ∃ b, (x.view == view && (x.turn == turn)) = b := ⟨_, rfl⟩
  obtain ⟨k3, h3⟩ : ∃ b, (x.slot == slot) = b := ⟨_, rfl⟩
  obtain ⟨k4, h4⟩ : ∃ b, (x.signer == si) = b := ⟨_, rfl⟩
  have no : (k1 && k2 && k3 && k4) = false → ¬ isAt x kind view turn slot si := fun e ⟨a1, a2, a3, a4, a5⟩ => by
    rw [← h1, ← h2, ← h3, ← h4, a1, a2, a3, a4, a5] at e
    simp at e
  have yes : (k1 && k2 && k3 && k4) = true → isAt x kind view turn slot si := fun e => by
    rw [← h1, ← h2, ← h3, ← h4] at e
    simp at e
    exact ⟨e.1.1.1, e.1.1.2.1, e.1.1.2.2, e.1.2, e.2⟩
  have HN := Aside0.mk (And.intro no yes)
  clear no yes
  cases k1
  · go_wp2
    exact HQ.out.1 (HN.out.1 rfl) _ _ ⟨rfl, rfl⟩ rfl rfl rfl rfl rfl (congrArg (Value.int .i64) B5.out) HF.out
  cases k2
  · go_wp2_with (first | ((with_reducible refine gate_dst (N := 26) rfl ?_); refine wpList_eq28 (by rfl) _ _ (by rfl) x.view x.turn view turn (by rfl) (by rfl) ?_))
    exact HQ.out.1 (HN.out.1 rfl) _ _ ⟨rfl, rfl⟩ rfl rfl rfl rfl rfl (congrArg (Value.int .i64) B5.out) HF.out
  cases k3
  · go_wp2_with (first | ((with_reducible refine gate_dst (N := 26) rfl ?_); refine wpList_eq28 (by rfl) _ _ (by rfl) x.view x.turn view turn (by rfl) (by rfl) ?_))
    exact HQ.out.1 (HN.out.1 rfl) _ _ ⟨rfl, rfl⟩ rfl rfl rfl rfl rfl (congrArg (Value.int .i64) B5.out) HF.out
  cases k4
  · go_wp2_with (first | ((with_reducible refine gate_dst (N := 26) rfl ?_); refine wpList_eq28 (by rfl) _ _ (by rfl) x.view x.turn view turn (by rfl) (by rfl) ?_))
    exact HQ.out.1 (HN.out.1 rfl) _ _ ⟨rfl, rfl⟩ rfl rfl rfl rfl rfl (congrArg (Value.int .i64) B5.out) HF.out
  · go_wp2_with (first | ((with_reducible refine gate_dst (N := 26) rfl ?_); refine wpList_eq28 (by rfl) _ _ (by rfl) x.view x.turn view turn (by rfl) (by rfl) ?_))
    exact HQ.out.2 (HN.out.2 rfl) _ _ ⟨rfl, rfl⟩ rfl HF.out
set_option maxHeartbeats 8000000 in
set_option maxRecDepth 100000 in
theorem exitF (u : Nat → Value) (n : Nat) (w : World) (Q : Exit → Act → World → Prop) (hQ : ∀ a', Fm 44 a' → Q (.exit 0) a' w) :
    Code.wp Try.prog (bodyN Try.f30 0) Q ⟨#[u 0, u 1, u 2, u 3, u 4, u 5, u 6, u 7, u 8, u 9, u 10, u 11, .int .i64 (n : Int), .int .i64 (n : Int), u 14, u 15, u 16, u 17, u 18, u 19, u 20, u 21, u 22, u 23, u 24, u 25, u 26, u 27, u 28, u 29, u 30, u 31, u 32, u 33, u 34, u 35, u 36, u 37, u 38, u 39, u 40, u 41, u 42, u 43], []⟩ w := by
  have c0 : decide ((n : Int) < (n : Int)) = false := by simp
  have HQ := Aside0.mk hQ
  clear hQ
  conv => arg 2; whnf
  go_wp2
  exact HQ.out _ ⟨rfl, rfl⟩
set_option maxHeartbeats 8000000 in
set_option maxRecDepth 100000 in
/-- Where a place is first seen: r tells it. -/
theorem find_calls (S : List Sn) (hS : S.length ≤ 1048576) (A : Option Addr) (c : Nat) (w : World) (h : WR w A S) (hc : S.length ≤ c) (kind view turn slot signer : Int) (r : Int) (hr : ∀ (j : Nat) (x : Sn), S[j]? = some x → (∀ (m : Nat) (y : Sn), m < j → S[m]? = some y → ¬ isAt y kind view turn slot signer) → isAt x kind view turn slot signer → (j : Int) = r) (hr2 : (∀ (m : Nat) (y : Sn), S[m]? = some y → ¬ isAt y kind view turn slot signer) → r = -1) :
    Calls Try.prog 30 #[.slice A S.length c, .int .i64 kind, .agg #[.int .i64 view, .int .i64 turn], .agg #[.int .i64 slot, .int .i64 signer]] w fun e w' => e = .returned (.int .i64 r) ∧ Below w.heap.size w w' := by
  have HX := Aside0.mk (And.intro h (And.intro hr (And.intro hr2 hS)))
  have hb2 := below_alloc (below_alloc (Below.refl w.heap.size w) (.cells #[.int .i64 view, .int .i64 turn] 28)) (.cells #[.int .i64 slot, .int .i64 signer] 51)
  have hg1 := (Fr.of_below (below_alloc (Below.refl _ (w.alloc (.cells #[.int .i64 view, .int .i64 turn] 28))) (.cells #[.int .i64 slot, .int .i64 signer] 51)) (fun _ => False)).blk (heap_alloc_new w (.cells #[.int .i64 view, .int .i64 turn] 28)) (fun h => h)
  have hg2 := heap_alloc_new (w.alloc (.cells #[.int .i64 view, .int .i64 turn] 28)) (.cells #[.int .i64 slot, .int .i64 signer] 51)
  rw [World.size_alloc] at hg2
  clear h hr hr2 hS hc
  go_enter Try.func30, Try.ntmps30
  go_wp2_with (fail)
  generalize (w.alloc (.cells #[.int .i64 view, .int .i64 turn] 28)).alloc (.cells #[.int .i64 slot, .int .i64 signer] 51) = w2 at *
  have F2 := Fr.of_below hb2 (fun _ => False)
  refine wp_loop_up S.length (fun (t : Nat) (a : Act) (W : World) => Fm 44 a ∧ sl a 1 = .int .i64 kind ∧ sl a 6 = .pointer (some ⟨w.heap.size, 0, none⟩) ∧ sl a 7 = .pointer (some ⟨w.heap.size + 1, 0, none⟩) ∧ sl a 11 = .slice A S.length c ∧ sl a 12 = .int .i64 (S.length : Int) ∧ sl a 13 = .int .i64 (t : Int) ∧ Fr (fun _ => False) w2 W ∧ ∀ (m : Nat) (y : Sn), m < t → S[m]? = some y → ¬ isAt y kind view turn slot signer) ⟨⟨rfl, rfl⟩, rfl, rfl, rfl, rfl, rfl, rfl, Fr.refl _ _, fun m y h => absurd h (Nat.not_lt_zero m)⟩ ?_
  rintro t a W ht ⟨hF, h1, h6, h7, h11, h12, h13, hf, hno⟩
  have ha := fm44 hF
  by_cases h64 : t = S.length
  · subst h64
    rw [h12, h13] at ha
    rw [ha]
    refine exitF (sl a) _ W _ fun a' b0 => ?_
    have er := HX.out.2.2.1 (fun m y hy => hno m y (List.getElem?_eq_some_iff.1 hy).1 hy)
    rw [fm44 b0]
    have H9 := Aside0.mk (F2.trans hf (fun _ h => h.elim))
    clear F2 hf hno ha hb2 hg1 hg2 b0 hF
    go_wp2
    go_ret
    exact ⟨by rw [er]; rfl, frB H9.out⟩
  · rw [h1, h6, h7, h11, h12, h13] at ha
    rw [ha]
    have hi : t < S.length := by omega
    have hx : S[t]? = some S[t] := List.getElem?_eq_getElem hi
    have F := F2.trans hf (fun _ h => h.elim)
    refine roundF (sl a) A c S t S[t] hx HX.out.2.2.2 kind view turn slot signer w.heap.size (w.heap.size + 1) W (HX.out.1.fr F) (hf.blk hg1 (fun h => h)) (hf.blk hg2 (fun h => h)) _ ?_ ?_
    · intro hn a' w' b0 b1 b6 b7 b11 b12 b13 bf
      refine ⟨hi, b0, b1, b6, b7, b11, b12, by rw [b13]; rfl, hf.trans bf (fun _ h => h.elim), fun m y hm hy => ?_⟩
      by_cases e : m = t
      · subst e
        rw [hx] at hy
        injection hy with hy
        rw [← hy]
        exact hn
      · exact hno m y (by omega) hy
    · intro hy a' w' b0 b8 bf
      have er := HX.out.2.1 t _ hx hno hy
      rw [fm44 b0, b8]
      have H9 := Aside0.mk (F.trans bf (fun _ h => h.elim))
      clear F2 hf hno ha hb2 hg1 hg2 b0 hF F bf
      go_ret
      exact ⟨by rw [← er]; rfl, frB H9.out⟩
theorem find_no (S : List Sn) (hS : S.length ≤ 1048576) (A : Option Addr) (c : Nat) (w : World) (h : WR w A S) (hc : S.length ≤ c) (kind view turn slot signer : Int) (hn : ∀ x ∈ S, ¬ isAt x kind view turn slot signer) :
    Calls Try.prog 30 #[.slice A S.length c, .int .i64 kind, .agg #[.int .i64 view, .int .i64 turn], .agg #[.int .i64 slot, .int .i64 signer]] w fun e w' => e = .returned (.int .i64 (-1)) ∧ Below w.heap.size w w' :=
  find_calls S hS A c w h hc kind view turn slot signer (-1) (fun j x hx _ hat => absurd hat (hn x (List.mem_of_getElem? hx))) (fun _ => rfl)
theorem find_yes (S : List Sn) (hS : S.length ≤ 1048576) (A : Option Addr) (c : Nat) (w : World) (h : WR w A S) (hc : S.length ≤ c) (kind view turn slot signer : Int) (j : Nat) (x : Sn) (hj : S[j]? = some x) (hx : isAt x kind view turn slot signer) (nd : (S.map Sn.key).Nodup) :
    Calls Try.prog 30 #[.slice A S.length c, .int .i64 kind, .agg #[.int .i64 view, .int .i64 turn], .agg #[.int .i64 slot, .int .i64 signer]] w fun e w' => e = .returned (.int .i64 (j : Int)) ∧ Below w.heap.size w w' :=
  find_calls S hS A c w h hc kind view turn slot signer (j : Int) (fun i y hy _ hat => by
    have e : (S.map Sn.key)[i]? = (S.map Sn.key)[j]? := by rw [List.getElem?_map, List.getElem?_map, hy, hj, Option.map_some, Option.map_some, hx.key, hat.key]
    have := (List.getElem?_inj (by have := (List.getElem?_eq_some_iff.1 hy).1; simpa using this) nd).1 e
    omega) (fun hn => absurd hx (hn j x hj))
theorem infoS : (Try.prog.info? 71).map (fun i => (i.zero, i.size, i.bytes)) = some (some (.agg Z11), 11, 136) := by kernel_rfl
section
variable {P : Program} {ops : Array Oper} {rest : List Oper} {o : Oper} {a : Act} {Q : Exit → Act → World → Prop} {w : World}
/-- append(v, vs...) of seen votes. -/
theorem wpList_append_seen (hP : P = Try.prog) (hgd : o.guard = none) (base : Nat) (s x : Operand) (ho : o.op = .call { callee := .builtin .append, args := #[s, x], argTypes := #[26, 26] })
    (v : Value) (n : Nat) (us : List Value) (hs : a.eval s = v) (hq : w.ownsRow base 71 11 v n us) (A : Option Addr) (m c : Nat) (vs : List Value) (hx : a.eval x = .slice A m c) (hm : vs.length = m * 11) (hy : ∀ (j : Nat) (u : Value), vs[j]? = some u → ∃ ad, A = some ad ∧ w.cell? (ad.add j) = some u) (h1 : ∀ u ∈ vs, u.oneCell' = true) (hl : n + m ≤ 1048576) (hb : base ≤ w.heap.size)
    (h : ∀ v1 w1, w1.ownsRow base 71 11 v1 (n + m) (us ++ vs) → Fr (fun k => some k = v.ownBlock) w w1 → wpList P ops Q rest (a.put o.dst v1) w1) : wpList P ops Q (o :: rest) a w := by
  subst hP
  obtain ⟨i0, hi0, h0, h2, h3⟩ := info_parts infoS
  by_cases hne : vs = []
  · subst hne
    have hm0 : m = 0 := by simp only [List.length_nil] at hm; omega
    subst hm0
    obtain ⟨A', c', rfl, hc'⟩ := row_slice hq
    have hr : (Builtin.append_ #[26, 26] o.type #[.slice A' n c', .slice A 0 c]).run Try.prog w = .ok (.slice A' n c') w := by
      cases A <;> cases A' <;> simp [Builtin.append_, run_underlying Try.underlying26, sizeOf, typeInfo, hi0, Builtin.lenOf, Builtin.firstCells, hc', storeCells, loadCells, loadCellsFrom, Result.andThen]
    refine wpList_plain hgd fun K hK => ?_
    unfold Oper.wp execOp
    simp only [ho, resolve, invoke, builtin, Sem.run_bind, Sem.run_pure, Result.andThen_ok, List.map_toArray, List.map_cons, List.map_nil, hs, hx, hr]
    exact hK _ _ (h _ w (by rw [List.append_nil]; exact hq) (Fr.refl _ _))
  · obtain ⟨y, ys', rfl⟩ := List.exists_cons_of_ne_nil hne
    obtain ⟨ad, hA, _⟩ := hy 0 y rfl
    subst hA
    obtain ⟨v1, w1, hr, hq1, hg, _, hat⟩ := run_append_own_at (P := Try.prog) w base 26 o.type 71 i0 (.agg Z11) 11 136 Try.underlying26 hi0 h0 h2 h3 rfl (by decide) v n _ hq ad m c (y :: ys') hm
      (fun j u hu => by obtain ⟨ad', e, h⟩ := hy j u hu; cases e; exact h) h1 (by simp only [maxLen]; omega) (by omega) hb
    refine wpList_plain hgd fun K hK => ?_
    unfold Oper.wp execOp
    simp only [ho, resolve, invoke, builtin, Sem.run_bind, Sem.run_pure, Result.andThen_ok, List.map_toArray, List.map_cons, List.map_nil, hs, hx, hr]
    exact hK _ _ (h v1 w1 hq1 (Fr.of_grown hg))
end
/-- What is read of the list: its cells. -/
theorem WR.cells {w : World} {A : Option Addr} {S : List Sn} (h : WR w A S) : ∃ cs : List (List Value), cs.length = S.length ∧ (∀ (j : Nat) (x : Sn) (c : List Value), S[j]? = some x → cs[j]? = some c → SnIs w c x) ∧ ∀ (k : Nat) (u : Value), cs.flatten[k]? = some u → ∃ ad, A = some ad ∧ w.cell? (ad.add k) = some u := by
  obtain ⟨cs, h1, h2⟩ := pick_listI (β := List Value) S (fun j x c => SnIs w c x ∧ ∃ ad, A = some ad ∧ ∀ (i : Nat) (u : Value), c[i]? = some u → w.cell? (ad.add (j * 11 + i)) = some u) (fun j x hx => by
    have hj := (List.getElem?_eq_some_iff.1 hx).1
    obtain ⟨ad, c, e, _, hK, hc⟩ := Kd.C_get h.C z71 (j : Int) (by omega) (by omega)
    rw [show (S.map toS).getD (j : Int).toNat z71 = toS x by simp [List.getD_eq_getElem?_getD, hx]] at hK
    exact ⟨c, SnIs.of_K hK, ad, e, hc⟩)
  refine ⟨cs, h1, fun j x c hx hc => (h2 j x c hx hc).1, fun k u hu => ?_⟩
  have hlen := len_of h1 (fun j x c hx hc => (h2 j x c hx hc).1)
  obtain ⟨j, c, i, rfl, hc, hi⟩ := flat_inv hlen hu
  have hj : j < S.length := by rw [← h1]; exact (List.getElem?_eq_some_iff.1 hc).1
  obtain ⟨_, ad, e, hcell⟩ := h2 j _ c (List.getElem?_eq_getElem hj) hc
  exact ⟨ad, e, hcell i u hi⟩
end Go.Proofs.Ytnabilhcmplhcaa.Sha
end
section
/-
  The document's Note: its frame.
-/
set_option linter.unusedVariables false
set_option linter.unusedSimpArgs false
namespace Go.Proofs.Ytnabilhcmplhcaa.Sha
open Go.RowKit Go.Proofs.YtnabilhcmplhcaaW.PrintWords Go.Proofs.YtnabilhcmplhcaaW.PrintLast Go.Proofs.YtnabilhcmplhcaaW.PrintMore Go.Proofs.Ytnabilhcmplhcaa.Q Go.Proofs.Ytnabilhcmplhcaa.Fr Go.Proofs.Ytnabilhcmplhcaa.Oct

set_option maxRecDepth 100000 in
theorem fm105 {a : Act} (h : Fm 105 a) : a = ⟨#[sl a 0, sl a 1, sl a 2, sl a 3, sl a 4, sl a 5, sl a 6, sl a 7, sl a 8, sl a 9, sl a 10, sl a 11, sl a 12, sl a 13, sl a 14, sl a 15, sl a 16, sl a 17, sl a 18, sl a 19, sl a 20, sl a 21, sl a 22, sl a 23, sl a 24, sl a 25, sl a 26, sl a 27, sl a 28, sl a 29, sl a 30, sl a 31, sl a 32, sl a 33, sl a 34, sl a 35, sl a 36, sl a 37, sl a 38, sl a 39, sl a 40, sl a 41, sl a 42, sl a 43, sl a 44, sl a 45, sl a 46, sl a 47, sl a 48, sl a 49, sl a 50, sl a 51, sl a 52, sl a 53, sl a 54, sl a 55, sl a 56, sl a 57, sl a 58, sl a 59, sl a 60, sl a 61, sl a 62, sl a 63, sl a 64, sl a 65, sl a 66, sl a 67, sl a 68, sl a 69, sl a 70, sl a 71, sl a 72, sl a 73, sl a 74, sl a 75, sl a 76, sl a 77, sl a 78, sl a 79, sl a 80, sl a 81, sl a 82, sl a 83, sl a 84, sl a 85, sl a 86, sl a 87, sl a 88, sl a 89, sl a 90, sl a 91, sl a 92, sl a 93, sl a 94, sl a 95, sl a 96, sl a 97, sl a 98, sl a 99, sl a 100, sl a 101, sl a 102, sl a 103, sl a 104], []⟩ := by
  obtain ⟨T, D⟩ := a
  obtain ⟨h1, h2⟩ := h
  obtain rfl : D = [] := h2
  obtain ⟨l⟩ := T
  have h1 : l.length = 105 := h1
  congr 2
  refine List.ext_getElem? fun i => ?_
  by_cases hi : i < 105
  · have hx : ∀ j, j < 105 → l[j]? = some (sl ⟨⟨l⟩, []⟩ j) := fun j hj => by
      have hl : j < l.length := by omega
      simp [sl, Array.getD_eq_getD_getElem?, List.getElem?_eq_getElem hl]
    rw [hx i hi]
    have : ∀ (s : Nat → Value) (i : Nat), i < 105 → ((List.range 105).map s)[i]? = some (s i) := fun s i hi => by simp [hi]
    exact (this _ i hi).symm
  · have h2 : ∀ (s : Nat → Value), ((List.range 105).map s)[i]? = none := fun s => by simp; omega
    exact (List.getElem?_eq_none (by omega)).trans (h2 _).symm
/-- Votes that can be read. -/
def VR (w : World) (A : Option Addr) (V : List (Int × List Int)) : Prop :=
  ∀ (i : Nat) (v : Int × List Int), V[i]? = some v → ∃ ad A3 c3, A = some ad ∧ w.cell? (ad.add (i * 2)) = some (.int .i64 v.1) ∧ w.cell? ⟨(ad.add (i * 2)).block, (ad.add (i * 2)).off + 1, none⟩ = some (.slice A3 v.2.length c3) ∧ v.2.length ≤ c3 ∧ Rd w A3 v.2
theorem VR.fr {w w' : World} {A : Option Addr} {V : List (Int × List Int)} (h : VR w A V) (hf : Fr (fun _ => False) w w') : VR w' A V := fun i v hi => by
  obtain ⟨ad, A3, c3, e, h1, h2, h3, h4⟩ := h i v hi
  exact ⟨ad, A3, c3, e, hf.cell h1 (fun h => h), hf.cell h2 (fun h => h), h3, h4.lies hf⟩
/-- Evidences in a row of one's own; w0 is the world in which their bytes are read. -/
def ERow (W w0 : World) (base : Nat) (out : Value) (E : List Ev) : Prop :=
  ∃ cs : List (List Value), cs.length = E.length ∧ W.ownsRow base 48 23 out E.length cs.flatten ∧ ∀ (j : Nat) (e : Ev) (c : List Value), E[j]? = some e → cs[j]? = some c → c.length = 23 ∧ EvR w0 (.agg c.toArray) e
theorem ERow.fr {W W' w0 : World} {base : Nat} {out : Value} {E : List Ev} (h : ERow W w0 base out E) (hf : Fr (fun _ => False) W W') : ERow W' w0 base out E := by
  obtain ⟨cs, h1, h2, h3⟩ := h
  exact ⟨cs, h1, row_fr0 h2 hf, h3⟩
/-- What the loop keeps: w0 is the world in which the function began. -/
structure Rt (w0 W : World) (view turn c s : Int) (Ao : Option Addr) (co : Nat) (op : List Int) (As : Option Addr) (cs : Nat) (sg : List Int) (Av : Option Addr) (V : List (Int × List Int)) (gb gr : Nat) (l : Value) (S : List Sn) (out : Value) (E : List Ev) : Prop where
  F : Fr (fun _ => False) w0 W
  hb : W.heap[gb]? = some (.cells #[.int .i64 view, .int .i64 turn] 28 (0, 0))
  hr : W.heap[gr]? = some (.cells #[.int .i64 c, .int .i64 s, .slice Ao op.length co, .slice As sg.length cs] 31 (0, 0))
  ro : Ls w0 Ao co op
  rs : Ls w0 As cs sg
  vr : VR w0 Av V
  lr : LRow W w0 w0.heap.size l S
  er : ERow W w0 w0.heap.size out E
  ok : ∀ x ∈ S, x.ok
  nd : (S.map Sn.key).Nodup
theorem Rt.below {w0 W : World} {view turn c s : Int} {Ao : Option Addr} {co : Nat} {op : List Int} {As : Option Addr} {cs : Nat} {sg : List Int} {Av : Option Addr} {V : List (Int × List Int)} {gb gr : Nat} {l : Value} {S : List Sn} {out : Value} {E : List Ev} {W' : World} (h : Rt w0 W view turn c s Ao co op As cs sg Av V gb gr l S out E) (hf : Fr (fun _ => False) W W') : Rt w0 W' view turn c s Ao co op As cs sg Av V gb gr l S out E :=
  ⟨h.F.trans hf (fun _ e => e.elim), hf.blk h.hb (fun e => e), hf.blk h.hr (fun e => e), h.ro, h.rs, h.vr, h.lr.fr hf, h.er.fr hf, h.ok, h.nd⟩
theorem not_of {w : World} {base n : Nat} {v : Value} {xs : List Value} {e : TypeId} {sz : Nat} (h : w.ownsRow base e sz v n xs) {k : Nat} {cells : Array Value} {t : TypeId} {fr : Nat × Nat} (hc : w.heap[k]? = some (.cells cells t fr)) (ht : t ≠ e) : ¬ (some k = v.ownBlock) := fun e' => by
  obtain ⟨_, cells', hc'⟩ := row_type h _ e'.symm
  rw [hc'] at hc
  injection hc with hc
  injection hc with _ hc _
  exact ht hc.symm
/-- The list's row is written. -/
theorem Rt.row {w0 W : World} {view turn c s : Int} {Ao : Option Addr} {co : Nat} {op : List Int} {As : Option Addr} {cs : Nat} {sg : List Int} {Av : Option Addr} {V : List (Int × List Int)} {gb gr : Nat} {l : Value} {S : List Sn} {out : Value} {E : List Ev} {W' : World} {l' : Value} {S' : List Sn} (h : Rt w0 W view turn c s Ao co op As cs sg Av V gb gr l S out E) (hf : Fr (fun k => some k = l.ownBlock) W W') (hl : LRow W' w0 w0.heap.size l' S') (ok : ∀ x ∈ S', x.ok) (nd : (S'.map Sn.key).Nodup) : Rt w0 W' view turn c s Ao co op As cs sg Av V gb gr l' S' out E := by
  obtain ⟨cs, _, hq, _⟩ := h.lr
  obtain ⟨ds, h1, hq2, h3⟩ := h.er
  refine ⟨h.F.trans hf (fun k hk => .inr (row_type hq k hk.symm).1), hf.blk h.hb (not_of hq h.hb (by decide)), hf.blk h.hr (not_of hq h.hr (by decide)), h.ro, h.rs, h.vr, hl, ⟨ds, h1, row_fr hq2 hf (fun k hk e => ?_), h3⟩, ok, nd⟩
  obtain ⟨_, cells, hc⟩ := row_type hq2 k hk
  exact not_of hq hc (by decide) e
/-- The evidences' row goes on. -/
theorem Rt.app {w0 W : World} {view turn c s : Int} {Ao : Option Addr} {co : Nat} {op : List Int} {As : Option Addr} {cs : Nat} {sg : List Int} {Av : Option Addr} {V : List (Int × List Int)} {gb gr : Nat} {l : Value} {S : List Sn} {out : Value} {E : List Ev} {W' : World} {out' : Value} {E' : List Ev} (h : Rt w0 W view turn c s Ao co op As cs sg Av V gb gr l S out E) (hf : Fr (fun k => some k = out.ownBlock) W W') (he : ERow W' w0 w0.heap.size out' E') : Rt w0 W' view turn c s Ao co op As cs sg Av V gb gr l S out' E' := by
  obtain ⟨cs, h1, hq, h3⟩ := h.lr
  obtain ⟨ds, _, hq2, _⟩ := h.er
  refine ⟨h.F.trans hf (fun k hk => .inr (row_type hq2 k hk.symm).1), hf.blk h.hb (not_of hq2 h.hb (by decide)), hf.blk h.hr (not_of hq2 h.hr (by decide)), h.ro, h.rs, h.vr, ⟨cs, h1, row_fr hq hf (fun k hk e => ?_), h3⟩, he, h.ok, h.nd⟩
  obtain ⟨_, cells, hc⟩ := row_type hq k hk
  exact not_of hq2 hc (by decide) e
/-- The list with one more. -/
theorem LRow.snoc {W' w0 : World} {base : Nat} {l' : Value} {S : List Sn} {cs : List (List Value)} (h1 : cs.length = S.length) (h3 : ∀ (j : Nat) (x : Sn) (c : List Value), S[j]? = some x → cs[j]? = some c → SnIs w0 c x) {x : Sn} {c : List Value} (hx : SnIs w0 c x) (hq : W'.ownsRow base 71 11 l' (S.length + 1) (cs.flatten ++ c)) : LRow W' w0 base l' (S ++ [x]) := by
  refine ⟨cs ++ [c], by simp [h1], ?_, fun j y d hy hd => ?_⟩
  · rw [List.length_append, List.length_singleton, List.flatten_append, List.flatten_singleton]
    exact hq
  · by_cases hj : j < S.length
    · rw [List.getElem?_append_left hj] at hy
      rw [List.getElem?_append_left (by rw [h1]; exact hj)] at hd
      exact h3 j y d hy hd
    · have hj2 : j = S.length := by
        have := (List.getElem?_eq_some_iff.1 hy).1
        simp only [List.length_append, List.length_singleton] at this
        omega
      subst hj2
      have e1 : y = x := by simpa using hy.symm
      rw [← h1] at hd
      have e2 : d = c := by simpa using hd.symm
      rw [e1, e2]
      exact hx
theorem ERow.snoc {W' w0 : World} {base : Nat} {out' : Value} {E : List Ev} {cs : List (List Value)} (h1 : cs.length = E.length) (h3 : ∀ (j : Nat) (e : Ev) (c : List Value), E[j]? = some e → cs[j]? = some c → c.length = 23 ∧ EvR w0 (.agg c.toArray) e) {e : Ev} {c : List Value} (hc : c.length = 23) (hx : EvR w0 (.agg c.toArray) e) (hq : W'.ownsRow base 48 23 out' (E.length + 1) (cs.flatten ++ c)) : ERow W' w0 base out' (E ++ [e]) := by
  refine ⟨cs ++ [c], by simp [h1], ?_, fun j y d hy hd => ?_⟩
  · rw [List.length_append, List.length_singleton, List.flatten_append, List.flatten_singleton]
    exact hq
  · by_cases hj : j < E.length
    · rw [List.getElem?_append_left hj] at hy
      rw [List.getElem?_append_left (by rw [h1]; exact hj)] at hd
      exact h3 j y d hy hd
    · have hj2 : j = E.length := by
        have := (List.getElem?_eq_some_iff.1 hy).1
        simp only [List.length_append, List.length_singleton] at this
        omega
      subst hj2
      have e1 : y = e := by simpa using hy.symm
      rw [← h1] at hd
      have e2 : d = c := by simpa using hd.symm
      rw [e1, e2]
      exact ⟨hc, hx⟩
/-- No vote of this place, no key. -/
theorem not_key {S : List Sn} (ok : ∀ x ∈ S, x.ok) {kind view turn slot signer : Int} (wk : (Lit.int .i64 kind).wf = true) (wv : (Lit.int .i64 view).wf = true) (wt : (Lit.int .i64 turn).wf = true) (wl : (Lit.int .i64 slot).wf = true) (wi : (Lit.int .i64 signer).wf = true) (h : ∀ x ∈ S, ¬ isAt x kind view turn slot signer) : plK kind view turn slot signer ∉ S.map Sn.key := fun hm => by
  obtain ⟨x, hx, e⟩ := List.mem_map.1 hm
  have hk := ok x hx
  exact h x hx (plK_inj hk.wk hk.wv hk.wt hk.wl hk.wi wk wv wt wl wi e)
/-- An element of the list. -/
theorem LRow.elem {W w0 : World} {base : Nat} {l : Value} {S : List Sn} (h : LRow W w0 base l S) {j : Nat} {x : Sn} (hx : S[j]? = some x) : ∃ g cap X1 e1 X2 e2 X3 e3 cur, l = .slice (some ⟨g, 0, none⟩) S.length cap ∧ W.heap[g]? = some (.cells cur 71 (0, 0)) ∧ (∀ (k : Nat) (u : Value), (snW X1 e1 X2 e2 X3 e3 x)[k]? = some u → cur[j * 11 + k]? = some u) ∧ Ls w0 X1 e1 x.op ∧ Ls w0 X2 e2 x.sg ∧ Ls w0 X3 e3 x.t := by
  obtain ⟨cs, h1, hq, h3⟩ := h
  have hj := (List.getElem?_eq_some_iff.1 hx).1
  obtain ⟨g, cap, cur, hl, _, _, hg, hc⟩ := row_at hq (by omega)
  have hcj : cs[j]? = some (cs[j]'(by rw [h1]; exact hj)) := List.getElem?_eq_getElem (by rw [h1]; exact hj)
  have hs := h3 j x _ hx hcj
  have hlen := len_of h1 h3
  obtain ⟨X1, e1, X2, e2, X3, e3, e, k1, k2, k3⟩ := hs
  refine ⟨g, cap, X1, e1, X2, e2, X3, e3, cur, hl, hg, fun k u hu => hc _ _ ?_, k1, k2, k3⟩
  have hk : k < 11 := (List.getElem?_eq_some_iff.1 hu).1
  rw [flat_get hlen hcj hk, e]
  exact hu
/-- .. is told. -/
theorem LRow.tell {W w0 : World} {base g cap : Nat} {S : List Sn} (h : LRow W w0 base (.slice (some ⟨g, 0, none⟩) S.length cap) S) {j : Nat} {x : Sn} (hx : S[j]? = some x) : LRow (W.setCell ⟨g, j * 11 + 10, none⟩ (.bool true)) w0 base (.slice (some ⟨g, 0, none⟩) S.length cap) (S.set j { x with told := true }) := by
  obtain ⟨cs, h1, hq, h3⟩ := h
  have hj := (List.getElem?_eq_some_iff.1 hx).1
  have hjc : j < cs.length := by rw [h1]; exact hj
  have hcj : cs[j]? = some cs[j] := List.getElem?_eq_getElem hjc
  have hlen := len_of h1 h3
  have hlf := flat_len hlen
  refine ⟨cs.set j (cs[j].set 10 (.bool true)), by rw [List.length_set, List.length_set]; exact h1, ?_, fun i y c hy hc => ?_⟩
  · rw [List.length_set, flat_set hlen hcj (by decide)]
    exact row_set hq _ (by rw [hlf]; omega) _
  · by_cases e : i = j
    · subst e
      rw [List.getElem?_set_self hj] at hy
      rw [List.getElem?_set_self hjc] at hc
      injection hy with hy
      injection hc with hc
      subst hy hc
      obtain ⟨X1, e1, X2, e2, X3, e3, ec, k1, k2, k3⟩ := h3 i x _ hx hcj
      exact ⟨X1, e1, X2, e2, X3, e3, by rw [ec]; rfl, k1, k2, k3⟩
    · rw [List.getElem?_set_ne (fun h => e h.symm)] at hy hc
      exact h3 i y c hy hc
theorem tell_keys {S : List Sn} {j : Nat} {x : Sn} (hx : S[j]? = some x) : (S.set j { x with told := true }).map Sn.key = S.map Sn.key := by
  rw [List.map_set]
  refine List.ext_getElem? fun i => ?_
  rw [List.getElem?_set]
  split
  · rename_i e
    subst e
    rw [if_pos (by have := (List.getElem?_eq_some_iff.1 hx).1; simpa using this), List.getElem?_map, hx]
    rfl
  · rfl
theorem tell_ok {S : List Sn} {j : Nat} {x : Sn} (hx : S[j]? = some x) (ok : ∀ y ∈ S, y.ok) : ∀ y ∈ S.set j { x with told := true }, y.ok := fun y hy => by
  rcases List.mem_or_eq_of_mem_set hy with hy | hy
  · exact ok y hy
  · have := ok x (List.mem_of_getElem? hx)
    rw [hy]
    exact ⟨this.wk, this.wv, this.wt, this.wl, this.wi, this.lo, this.lt, this.bo, this.bs⟩
end Go.Proofs.Ytnabilhcmplhcaa.Sha
end
