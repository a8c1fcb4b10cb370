/- Parts of the proof of LedgerRunsUptoSaid: laid together and cut down to what LedgerRuns' proof uses (parts: Qx16, Qx17, ShaM3). -/
import Derived.Test.YtnabilhcmplhcaaP1
import Derived.Test.YtnabilhcmplhcaaP3
import Derived.Great.Ranges
import Derived.Test.YtnabilhcmplhcaaP4
section
/- Written by a program of this session out of the translation; Lean checks it. -/
namespace Go.Proofs.Ytnabilhcmplhcaa.Q
open Go.RowKit Go.Proofs.YtnabilhcmplhcaaW.PrintWords Go.Proofs.YtnabilhcmplhcaaW.PrintLast Go.Proofs.YtnabilhcmplhcaaW.PrintMore
attribute [local go_sem] max2_int min2_int max_two min_two max_three min_three max_four min_four   -- for this text's walks alone
set_option linter.unusedVariables false
set_option linter.unusedSimpArgs false

/-! ### catenaryref02_Pad: function 62 -/
mutual
def catenaryref02_Pad.l0 : Nat → List Int → List Int → Option (List Int)
  | 0, _, _ => none
  | k + 1, x0, x3 => if ((x3.length : Int) % 64) = 56 then (catenaryref02_Pad.l1 k x3 (IntKind.u64.wrap ((IntKind.u64.wrap ((x0.length : Int))) * 8)) 7) else (if x3.length < 140737488355328 then (catenaryref02_Pad.l0 k x0 (x3 ++ [0])) else (none))
def catenaryref02_Pad.l1 : Nat → List Int → Int → Int → Option (List Int)
  | 0, _, _, _ => none
  | k + 1, x3, x4, x5 => if x5 ≥ 0 then (if 0 ≤ (IntKind.u64.wrap (wrap64 (8 * x5))) then (if x3.length < 140737488355328 then (catenaryref02_Pad.l1 k (x3 ++ [(shr .u64 x4 (IntKind.u64.wrap (wrap64 (8 * x5)))) % 256]) x4 (wrap64 (x5 - 1))) else (none)) else (none)) else (some x3)
end
def catenaryref02_Pad.f (k : Nat) (l0 : List Int) : Option (List Int) := (some (([] : List Int) : List Int)).bind fun y292 => (if y292.length + l0.length < 140737488355328 then ((some (y292 ++ l0 : List Int)).bind fun y295 => (if y295.length < 140737488355328 then (catenaryref02_Pad.l0 k l0 (y295 ++ [128])) else (none))) else (none))
set_option maxHeartbeats 8000000 in
set_option maxRecDepth 100000 in
theorem catenaryref02_Pad.calls (k : Nat) (A0 : Option Addr) (c0 : Nat) (l0 : List Int) (r : List Int) (w : World) (hr0 : Kd.C (Kd.int .u8) w A0 l0.length l0) (hc0 : l0.length ≤ c0) (h : catenaryref02_Pad.f k l0 = some r) :
    Calls Try.prog 62 #[.slice A0 l0.length c0] w fun e w' => ∃ v0_ : Value, e = .returned (v0_) ∧ Kd.R (Kd.int .u8) 5 w' w.heap.size (fun _ => True) v0_ r ∧ Below w.heap.size w w' := by
  have HR0 := Aside0.mk hr0
  have HC0 := Aside0.mk hc0
  clear hr0 hc0
  have HB := Aside0.mk (Below.refl w.heap.size w)
  have H : ((some (([] : List Int) : List Int)).bind fun y292 => (if y292.length + l0.length < 140737488355328 then ((some (y292 ++ l0 : List Int)).bind fun y295 => (if y295.length < 140737488355328 then (catenaryref02_Pad.l0 k l0 (y295 ++ [128])) else (none))) else (none))) = some r := h
  clear h
  obtain ⟨y292, hy292⟩ : ∃ y_ : List Int, y_ = (([] : List Int)) := ⟨_, rfl⟩
  replace H : (if y292.length + l0.length < 140737488355328 then ((some (y292 ++ l0 : List Int)).bind fun y295 => (if y295.length < 140737488355328 then (catenaryref02_Pad.l0 k l0 (y295 ++ [128])) else (none))) else (none)) = some r := by first | (rw [hy292]; with_reducible exact H) | (have H2_ := (Option.bind_some _ _).symm.trans H; rw [hy292]; with_reducible exact H2_) | (have H2_ := (Option.bind_some _ _).symm.trans H; with_reducible exact H2_) | with_reducible exact H | (rw [hy292]; exact H) | exact H
  have Ny292 := Aside0.mk hy292
  clear hy292
  by_cases c2 : y292.length + l0.length < 140737488355328
  · rw [if_pos c2] at H
    have LMc2 := Aside0.mk c2
    clear c2
    obtain ⟨y295, hy295⟩ : ∃ y_ : List Int, y_ = (y292 ++ l0) := ⟨_, rfl⟩
    replace H : (if y295.length < 140737488355328 then (catenaryref02_Pad.l0 k l0 (y295 ++ [128])) else (none)) = some r := by first | (rw [hy295]; with_reducible exact H) | (have H2_ := (Option.bind_some _ _).symm.trans H; rw [hy295]; with_reducible exact H2_) | (have H2_ := (Option.bind_some _ _).symm.trans H; with_reducible exact H2_) | with_reducible exact H | (rw [hy295]; exact H) | exact H
    have Ny295 := Aside0.mk hy295
    clear hy295
    by_cases c3 : y295.length < 140737488355328
    · rw [if_pos c3] at H
      have LMc3 := Aside0.mk c3
      clear c3
      obtain ⟨y298, hy298⟩ : ∃ y_ : List Int, y_ = (y295 ++ [128]) := ⟨_, rfl⟩
      replace H : (catenaryref02_Pad.l0 k l0 y298) = some r := by first | (rw [hy298]; with_reducible exact H) | (have H2_ := (Option.bind_some _ _).symm.trans H; rw [hy298]; with_reducible exact H2_) | (have H2_ := (Option.bind_some _ _).symm.trans H; with_reducible exact H2_) | with_reducible exact H | (rw [hy298]; exact H) | exact H
      have Ny298 := Aside0.mk hy298
      clear hy298
      have H' := Aside0.mk H
      clear H
      go_enter Try.func62, Try.ntmps62
      go_wp2_with (first | ((with_reducible refine gate_dst (N := 6) rfl ?_); refine Kd.R_lit (Kd.int .u8) _ 5 ?hg (N := 6) ?hd (xs := ([] : List Int)) (inner := []) (ok := fun _ => True) (okp := fun _ => True) ?hr ?hp (fun _ hk => hk) trivial (Below.refl _ _) (Nat.le_refl _) (by simp) ?_; (case hd => rfl); (case hg => rfl); (case hr => first | (go_simp; done) | (go_simp; rfl)); (case hp => exact (Reps.none _ _)); intro v293 w4 ho5 hb hg_ hnew_; clear hg_ hnew_; (first | rw [← Ny292.out] at ho5 | (simp only [Int.reduceToNat] at ho5; rw [← Ny292.out] at ho5)); have n0_ := Aside0.mk (Kd.R_lower ho5 (below_size (by repeat (first | (with_reducible first | exact HB.out | apply below_alloc | apply pw_below_drewN | apply below_drew1) | exact HB.out)))); have n1_ := Aside0.mk (below_step (by repeat (first | (with_reducible first | exact HB.out | apply below_alloc | apply pw_below_drewN | apply below_drew1) | exact HB.out)) hb); clear HB; have HO294 := n0_; have HB := n1_; clear n0_ n1_; clear hb ho5) | ((with_reducible refine gate_builtin (b := .append) (xs := #[.tmp 6, .tmp 7]) rfl ?_); at_builtin; refine Kd.R_append_rows (Kd.int .u8) (w0 := w) w.heap.size rfl (.tmp 6) (.tmp 7) 29 5 (.int .u8 0) 1 rfl Try.underlying29 info5 rfl (by decide) (by omega) v293 y292 l0 _ _ _ (fun _ => True) (fun _ => False) rfl rfl ?aO ?aR (fun _ _ h => h) (fun _ h => h.elim) ?aF ?aB ?aS ?aL ?_; (case aR => repeat (first | exact (Kd.C_below HR0.out HB.out) | (with_reducible refine Kd.C_alloc ?_ _) | (with_reducible refine Kd.C_drewN ?_ _) | (with_reducible refine Kd.C_drew ?_))); (case aB => exact (by repeat (first | (with_reducible first | exact HB.out | apply below_alloc | apply pw_below_drewN | apply below_drew1) | exact HB.out))); (case aF => exact (fun _ _ => trivial)); (case aO => exact (by (with_reducible repeat (first | apply Kd.R_alloc | apply Kd.R_drewN | apply Kd.R_drew)); exact HO294.out)); (case aS => exact (below_size (by repeat (first | (with_reducible first | exact HB.out | apply below_alloc | apply pw_below_drewN | apply below_drew1) | exact HB.out)))); (case aL => have := LMc2.out; omega); intro v296 w6 ho hb hg hat; rw [← Ny295.out] at ho; have n0_ := Aside0.mk (hb); have n1_ := Aside0.mk (ho); clear HB; clear HO294; have HB := n0_; have HO297 := n1_; clear n0_ n1_; clear ho hb hg hat) | ((with_reducible refine gate_builtin (b := .append) (xs := #[.tmp 9, .tmp 10]) rfl ?_); at_builtin; refine Kd.R_append (Kd.int .u8) (w0 := w) w.heap.size rfl (.tmp 9) (.tmp 10) 29 5 (.int .u8 0) 1 rfl Try.underlying29 info5 rfl (by decide) (by omega) v296 y295 128 [.int .u8 128] (fun _ => True) (fun _ => False) rfl rfl ?aP (fun _ hk => hk.elim) ?aF ?aO ?aB ?aS ?aL ?_; (case aP => exact rfl); (case aB => exact (by repeat (first | (with_reducible first | exact HB.out | apply below_alloc | apply pw_below_drewN | apply below_drew1) | exact HB.out))); (case aF => exact (fun _ _ => trivial)); (case aO => exact (by (with_reducible repeat (first | apply Kd.R_alloc | apply Kd.R_drewN | apply Kd.R_drew)); exact HO297.out)); (case aS => exact (below_size (by repeat (first | (with_reducible first | exact HB.out | apply below_alloc | apply pw_below_drewN | apply below_drew1) | exact HB.out)))); (case aL => have := LMc3.out; omega); intro v299 w7 ho hb hg hat; rw [← Ny298.out] at ho; have n0_ := Aside0.mk (hb); have n1_ := Aside0.mk (ho); clear HB; clear HO297; have HB := n0_; have HO300 := n1_; clear n0_ n1_; clear ho hb hg hat))
      go_loopg [3] k (fun kq v3 w' => ∃ (x3_1 : List Int), Aside0 (catenaryref02_Pad.l0 kq l0 x3_1 = some r) ∧ Aside0 (kq ≤ k) ∧ Aside0 (Kd.R (Kd.int .u8) 5 w' w.heap.size (fun _ => True) v3 x3_1) ∧ Aside0 (Below w.heap.size w w'))
      case atStart => exact ⟨(y298), H', ⟨Nat.le_refl _⟩, ⟨by (with_reducible repeat (first | apply Kd.R_alloc | apply Kd.R_drewN | apply Kd.R_drew)); exact HO300.out⟩, ⟨by repeat (first | (with_reducible first | exact HB.out | apply below_alloc | apply pw_below_drewN | apply below_drew1) | exact HB.out)⟩⟩
      case round =>
        clear H'
        try clear c2
        try clear p2
        try clear c3
        try clear c6
        obtain ⟨x3_1, HA, HK1, HO_3, HB⟩ := hrel
        cases gk with
        | zero => exact absurd HA.out (by simp [catenaryref02_Pad.l0])
        | succ k1 =>
          have H := HA.out
          clear HA
          simp only [catenaryref02_Pad.l0] at H
          by_cases c8 : ((x3_1.length : Int) % 64) = 56
          · rw [if_pos c8] at H
            have c8b0 : (((x3_1.length : Int) % 64) == 56) = true := beq_iff_eq.mpr c8
            have c8b1 : (((x3_1.length : Int) % 64) != 56) = false := bne_eq_false_iff_eq.mpr c8
            clear c8
            have H' := Aside0.mk H
            clear H
            obtain ⟨Ao9, co9, eo9⟩ := Kd.R_slice HO_3.out
            subst eo9
            go_wp2
            go_loopg [3, 5] k1 (fun kq v3 v5 w' => ∃ (x3_2 : List Int) (x5_2 : Int), v5 = .int .i64 x5_2 ∧ Aside0 (catenaryref02_Pad.l1 kq x3_2 (IntKind.u64.wrap ((IntKind.u64.wrap ((l0.length : Int))) * 8)) x5_2 = some r) ∧ Aside0 (kq ≤ k1) ∧ Aside0 (Kd.R (Kd.int .u8) 5 w' w.heap.size (fun _ => True) v3 x3_2) ∧ Aside0 (Below w.heap.size w w'))
            case atStart => exact ⟨(x3_1), (7), (by first | rfl | (simp; done) | (simp [*]; done)), H', ⟨Nat.le_refl _⟩, ⟨by (with_reducible repeat (first | apply Kd.R_alloc | apply Kd.R_drewN | apply Kd.R_drew)); exact HO_3.out⟩, ⟨by repeat (first | (with_reducible first | exact HB.out | apply below_alloc | apply pw_below_drewN | apply below_drew1) | exact HB.out)⟩⟩
            case round =>
              clear H'
              try clear c2
              try clear p2
              try clear c3
              try clear c6
              try clear c8
              try clear c8b0
              try clear c8b1
              try clear p2
              obtain ⟨x3_2, x5_2, rfl, HA, HK2, HO_3, HB⟩ := hrel
              cases gk with
              | zero => exact absurd HA.out (by simp [catenaryref02_Pad.l1])
              | succ k2 =>
                have H := HA.out
                clear HA
                simp only [catenaryref02_Pad.l1] at H
                by_cases c10 : x5_2 ≥ 0
                · rw [if_pos c10] at H
                  have c10b0 : decide (0 ≤ x5_2) = true := decide_eq_true c10
                  clear c10
                  obtain ⟨ji11, hji11⟩ : ∃ j_ : Int, (IntKind.u64.wrap (wrap64 (8 * x5_2))) = j_ := ⟨_, rfl⟩
                  replace H : (if 0 ≤ (ji11) then (if x3_2.length < 140737488355328 then (catenaryref02_Pad.l1 k2 (x3_2 ++ [(shr .u64 (IntKind.u64.wrap ((IntKind.u64.wrap ((l0.length : Int))) * 8)) (ji11)) % 256]) (IntKind.u64.wrap ((IntKind.u64.wrap ((l0.length : Int))) * 8)) (wrap64 (x5_2 - 1))) else (none)) else (none)) = some r := by first | (rw [hji11] at H; exact H) | (simp only [hji11] at H ⊢; exact H)
                  by_cases c12 : 0 ≤ (ji11)
                  · rw [if_pos c12] at H
                    have c12b0 := eq_true c12
                    have c12b1 : decide (0 ≤ (ji11)) = true := decide_eq_true c12
                    clear c12
                    obtain ⟨ji13, hji13⟩ : ∃ j_ : Int, (shr .u64 (IntKind.u64.wrap ((IntKind.u64.wrap ((l0.length : Int))) * 8)) (ji11)) = j_ := ⟨_, rfl⟩
                    replace H : (if x3_2.length < 140737488355328 then (catenaryref02_Pad.l1 k2 (x3_2 ++ [(ji13) % 256]) (IntKind.u64.wrap ((IntKind.u64.wrap ((l0.length : Int))) * 8)) (wrap64 (x5_2 - 1))) else (none)) = some r := by first | (rw [hji13] at H; exact H) | (simp only [hji13] at H ⊢; exact H)
                    have hji13_ : ((IntKind.u64.wrap ((IntKind.u64.wrap ((l0.length : Int))) * 8)) / 2 ^ min (ji11).toNat 64) = ji13 := hji13
                    have hji13z : (ji11) ≤ 64 → ((IntKind.u64.wrap ((IntKind.u64.wrap ((l0.length : Int))) * 8)) / 2 ^ (ji11).toNat) = ji13 := shr_small hji13
                    by_cases c14 : x3_2.length < 140737488355328
                    · rw [if_pos c14] at H
                      have LMc14 := Aside0.mk c14
                      clear c14
                      obtain ⟨y304, hy304⟩ : ∃ y_ : List Int, y_ = (x3_2 ++ [(ji13) % 256]) := ⟨_, rfl⟩
                      replace H : (catenaryref02_Pad.l1 k2 y304 (IntKind.u64.wrap ((IntKind.u64.wrap ((l0.length : Int))) * 8)) (wrap64 (x5_2 - 1))) = some r := by first | (rw [hy304]; with_reducible exact H) | (have H2_ := (Option.bind_some _ _).symm.trans H; rw [hy304]; with_reducible exact H2_) | (have H2_ := (Option.bind_some _ _).symm.trans H; with_reducible exact H2_) | with_reducible exact H | (rw [hy304]; exact H) | exact H
                      have Ny304 := Aside0.mk hy304
                      clear hy304
                      have H' := Aside0.mk H
                      clear H
                      go_wp2_with (first | ((with_reducible refine gate_builtin (b := .append) (xs := #[.tmp 27, .tmp 34]) rfl ?_); at_builtin; refine Kd.R_append (Kd.int .u8) (w0 := w) w.heap.size rfl (.tmp 27) (.tmp 34) 29 5 (.int .u8 0) 1 rfl Try.underlying29 info5 rfl (by decide) (by omega) u3 x3_2 ((ji13) % 256) [.int .u8 ((ji13) % 256)] (fun _ => True) (fun _ => False) rfl rfl ?aP (fun _ hk => hk.elim) ?aF ?aO ?aB ?aS ?aL ?_; (case aP => exact rfl); (case aB => exact (by repeat (first | (with_reducible first | exact HB.out | apply below_alloc | apply pw_below_drewN | apply below_drew1) | exact HB.out))); (case aF => exact (fun _ _ => trivial)); (case aO => exact (by (with_reducible repeat (first | apply Kd.R_alloc | apply Kd.R_drewN | apply Kd.R_drew)); exact HO_3.out)); (case aS => exact (below_size (by repeat (first | (with_reducible first | exact HB.out | apply below_alloc | apply pw_below_drewN | apply below_drew1) | exact HB.out)))); (case aL => have := LMc14.out; omega); intro v305 w15 ho hb hg hat; rw [← Ny304.out] at ho; have n0_ := Aside0.mk (hb); have n1_ := Aside0.mk (ho); clear HB; clear HO_3; have HB := n0_; have HO306 := n1_; clear n0_ n1_; clear ho hb hg hat))
                      go_roundg k2
                      case measure => have := HK1.out; have := HK2.out; omega
                      case rel => exact ⟨(y304), (wrap64 (x5_2 - 1)), (by first | rfl | (simp; done) | (simp [*]; done)), H', ⟨by have := HK1.out; have := HK2.out; omega⟩, ⟨by (with_reducible repeat (first | apply Kd.R_alloc | apply Kd.R_drewN | apply Kd.R_drew)); exact HO306.out⟩, ⟨by repeat (first | (with_reducible first | exact HB.out | apply below_alloc | apply pw_below_drewN | apply below_drew1) | exact HB.out)⟩⟩
                    · rw [if_neg c14] at H
                      exact absurd H (by simp)
                  · rw [if_neg c12] at H
                    exact absurd H (by simp)
                · rw [if_neg c10] at H
                  have c10b0 : decide (0 ≤ x5_2) = false := decide_eq_false c10
                  clear c10
                  obtain rfl := Option.some.inj H
                  go_wp2
                  go_ret
                  exact ⟨_, by first | rfl | (simp [errW_none, errW_some] <;> rfl) | (simp [*, errW_none, errW_some] <;> rfl), by (with_reducible repeat (first | apply Kd.R_alloc | apply Kd.R_drewN | apply Kd.R_drew)); exact HO_3.out, by repeat (first | (with_reducible first | exact HB.out | apply below_alloc | apply pw_below_drewN | apply below_drew1) | exact HB.out)⟩
          · rw [if_neg c8] at H
            have c8b0 : (((x3_1.length : Int) % 64) == 56) = false := beq_eq_false_iff_ne.mpr c8
            have c8b1 : (((x3_1.length : Int) % 64) != 56) = true := bne_iff_ne.mpr c8
            by_cases c16 : x3_1.length < 140737488355328
            · rw [if_pos c16] at H
              have LMc16 := Aside0.mk c16
              clear c16
              obtain ⟨y301, hy301⟩ : ∃ y_ : List Int, y_ = (x3_1 ++ [0]) := ⟨_, rfl⟩
              replace H : (catenaryref02_Pad.l0 k1 l0 y301) = some r := by first | (rw [hy301]; with_reducible exact H) | (have H2_ := (Option.bind_some _ _).symm.trans H; rw [hy301]; with_reducible exact H2_) | (have H2_ := (Option.bind_some _ _).symm.trans H; with_reducible exact H2_) | with_reducible exact H | (rw [hy301]; exact H) | exact H
              have Ny301 := Aside0.mk hy301
              clear hy301
              have H' := Aside0.mk H
              clear H
              obtain ⟨Ao17, co17, eo17⟩ := Kd.R_slice HO_3.out
              subst eo17
              go_wp2_with (first | ((with_reducible refine gate_builtin (b := .append) (xs := #[.tmp 16, .tmp 17]) rfl ?_); at_builtin; refine Kd.R_append (Kd.int .u8) (w0 := w) w.heap.size rfl (.tmp 16) (.tmp 17) 29 5 (.int .u8 0) 1 rfl Try.underlying29 info5 rfl (by decide) (by omega) (.slice Ao17 x3_1.length co17) x3_1 0 [.int .u8 0] (fun _ => True) (fun _ => False) rfl rfl ?aP (fun _ hk => hk.elim) ?aF ?aO ?aB ?aS ?aL ?_; (case aP => exact rfl); (case aB => exact (by repeat (first | (with_reducible first | exact HB.out | apply below_alloc | apply pw_below_drewN | apply below_drew1) | exact HB.out))); (case aF => exact (fun _ _ => trivial)); (case aO => exact (by (with_reducible repeat (first | apply Kd.R_alloc | apply Kd.R_drewN | apply Kd.R_drew)); exact HO_3.out)); (case aS => exact (below_size (by repeat (first | (with_reducible first | exact HB.out | apply below_alloc | apply pw_below_drewN | apply below_drew1) | exact HB.out)))); (case aL => have := LMc16.out; omega); intro v302 w18 ho hb hg hat; rw [← Ny301.out] at ho; have n0_ := Aside0.mk (hb); have n1_ := Aside0.mk (ho); clear HB; clear HO_3; have HB := n0_; have HO303 := n1_; clear n0_ n1_; clear ho hb hg hat))
              go_roundg k1
              case measure => have := HK1.out; omega
              case rel => exact ⟨(y301), H', ⟨by have := HK1.out; omega⟩, ⟨by (with_reducible repeat (first | apply Kd.R_alloc | apply Kd.R_drewN | apply Kd.R_drew)); exact HO303.out⟩, ⟨by repeat (first | (with_reducible first | exact HB.out | apply below_alloc | apply pw_below_drewN | apply below_drew1) | exact HB.out)⟩⟩
            · rw [if_neg c16] at H
              exact absurd H (by simp)
    · rw [if_neg c3] at H
      exact absurd H (by simp)
  · rw [if_neg c2] at H
    exact absurd H (by simp)

/-! ### catenaryref02_turn: function 70 -/

end Go.Proofs.Ytnabilhcmplhcaa.Q
end
section
/- Written by a program of this session out of the translation; Lean checks it. -/
namespace Go.Proofs.Ytnabilhcmplhcaa.Q
open Go.RowKit Go.Proofs.YtnabilhcmplhcaaW.PrintWords Go.Proofs.YtnabilhcmplhcaaW.PrintLast Go.Proofs.YtnabilhcmplhcaaW.PrintMore
attribute [local go_sem] max2_int min2_int max_two min_two max_three min_three max_four min_four   -- for this text's walks alone
set_option linter.unusedVariables false
set_option linter.unusedSimpArgs false

/-! ### catenaryref02_word: function 73 -/
def catenaryref02_word.l0 : Nat → List Int → Int → Int → Option (Int)
  | 0, _, _, _ => none
  | k + 1, x0, x3, x4 => if x4 < 4 then (if 0 ≤ x4 then (if x4 < (x0.length : Int) then (catenaryref02_word.l0 k x0 ((((x3 * 256) % 4294967296) + ((rd x0 x4) % 4294967296)) % 4294967296) (wrap64 (x4 + 1))) else (none)) else (none)) else (some x3)
def catenaryref02_word.f (k : Nat) (l0 : List Int) : Option (Int) := catenaryref02_word.l0 k l0 0 0
set_option maxHeartbeats 8000000 in
set_option maxRecDepth 100000 in
theorem catenaryref02_word.calls (k : Nat) (A0 : Option Addr) (c0 : Nat) (l0 : List Int) (r : Int) (w : World) (hr0 : Kd.C (Kd.int .u8) w A0 l0.length l0) (hc0 : l0.length ≤ c0) (h : catenaryref02_word.f k l0 = some r) :
    Calls Try.prog 73 #[.slice A0 l0.length c0] w fun e w' => e = .returned (.int .u32 r) ∧ Drawn0 w w' := by
  have HR0 := Aside0.mk hr0
  have HC0 := Aside0.mk hc0
  clear hr0 hc0
  have H : (catenaryref02_word.l0 k l0 0 0) = some r := h
  clear h
  have H' := Aside0.mk H
  clear H
  go_enter Try.func73, Try.ntmps73
  go_wp2
  go_loopg [3, 4] k (fun kq v3 v4 w' => ∃ (x3_1 : Int) (x4_1 : Int), v3 = .int .u32 x3_1 ∧ v4 = .int .i64 x4_1 ∧ Aside0 (catenaryref02_word.l0 kq l0 x3_1 x4_1 = some r) ∧ Aside0 (kq ≤ k) ∧ Drawn0 w w')
  case atStart => exact ⟨(0), (0), (by first | rfl | (simp; done) | (simp [*]; done)), (by first | rfl | (simp; done) | (simp [*]; done)), H', ⟨Nat.le_refl _⟩, by repeat (first | exact Drawn0.refl _ | apply Drawn0.step)⟩
  case round =>
    clear H'
    obtain ⟨x3_1, x4_1, rfl, rfl, HA, HK1, ⟨m1, rfl⟩⟩ := hrel
    cases gk with
    | zero => exact absurd HA.out (by simp [catenaryref02_word.l0])
    | succ k1 =>
      have H := HA.out
      clear HA
      simp only [catenaryref02_word.l0] at H
      by_cases c2 : x4_1 < 4
      · rw [if_pos c2] at H
        have c2b0 : decide (x4_1 < 4) = true := decide_eq_true c2
        clear c2
        by_cases c3 : 0 ≤ x4_1
        · rw [if_pos c3] at H
          have c3b0 : decide (0 ≤ x4_1) = true := decide_eq_true c3
          clear c3
          by_cases c4 : x4_1 < (l0.length : Int)
          · rw [if_pos c4] at H
            have c4b0 : decide (x4_1 < (l0.length : Int)) = true := decide_eq_true c4
            clear c4
            have H' := Aside0.mk H
            clear H
            have p307 : 0 ≤ (x4_1 : Int) := of_decide_eq_true (by first | (with_reducible assumption) | assumption)
            have q307 : x4_1 < (l0.length : Int) := of_decide_eq_true (by first | (with_reducible assumption) | assumption)
            obtain ⟨ad307, e307, hx307_0⟩ := Kd.at_int HR0.out x4_1 p307 q307
            cases e307
            replace p307 := eq_true p307
            replace q307 := eq_true q307
            go_wp2
            go_roundg k1
            case measure => have := HK1.out; omega
            case rel => exact ⟨((((x3_1 * 256) % 4294967296) + ((rd l0 x4_1) % 4294967296)) % 4294967296), (wrap64 (x4_1 + 1)), (by first | rfl | (simp; done) | (simp [*]; done)), (by first | rfl | (simp; done) | (simp [*]; done)), H', ⟨by have := HK1.out; omega⟩, by repeat (first | exact Drawn0.refl _ | apply Drawn0.step)⟩
          · rw [if_neg c4] at H
            exact absurd H (by simp)
        · rw [if_neg c3] at H
          exact absurd H (by simp)
      · rw [if_neg c2] at H
        have c2b0 : decide (x4_1 < 4) = false := decide_eq_false c2
        clear c2
        obtain rfl := Option.some.inj H
        go_wp2
        go_ret
        exact ⟨by first | rfl | (simp; done) | (simp [*]; done), by repeat (first | exact Drawn0.refl _ | apply Drawn0.step)⟩

-- NOT PRINTED: function 68 (catenaryref02_schedule)

-- NOT PRINTED: function 69 (catenaryref02_K)

-- NOT PRINTED: function 63 (catenaryref02_Block)

-- NOT PRINTED: function 58 (catenaryref02_Sum)

-- NOT PRINTED: function 51 (catenaryref03_Sign)

-- NOT PRINTED: function 40 (catenaryref03_Verify)

/-! ### catenaryref03_Replica: function 41 -/
def catenaryref03_Replica.f (a0 : Int) : Option (Int) := if a0 ≥ 0 then (if a0 ≤ 15 then (some a0) else (some (-1))) else (some (-1))
set_option maxHeartbeats 8000000 in
set_option maxRecDepth 100000 in
theorem catenaryref03_Replica.calls (a0 : Int) (r : Int) (w : World) (h : catenaryref03_Replica.f a0 = some r) :
    Calls Try.prog 41 #[.int .i64 a0] w fun e w' => e = .returned (.int .i64 r) ∧ Drawn0 w w' := by
  have H : (if a0 ≥ 0 then (if a0 ≤ 15 then (some a0) else (some (-1))) else (some (-1))) = some r := h
  clear h
  by_cases c2 : a0 ≥ 0
  · rw [if_pos c2] at H
    have c2b0 : decide (0 ≤ a0) = true := decide_eq_true c2
    clear c2
    by_cases c3 : a0 ≤ 15
    · rw [if_pos c3] at H
      have c3b0 : decide (a0 ≤ 15) = true := decide_eq_true c3
      clear c3
      obtain rfl := Option.some.inj H
      go_enter Try.func41, Try.ntmps41
      go_wp2
      go_ret
      exact ⟨by first | rfl | (simp; done) | (simp [*]; done), by repeat (first | exact Drawn0.refl _ | apply Drawn0.step)⟩
    · rw [if_neg c3] at H
      have c3b0 : decide (a0 ≤ 15) = false := decide_eq_false c3
      clear c3
      obtain rfl := Option.some.inj H
      go_enter Try.func41, Try.ntmps41
      go_wp2
      go_ret
      exact ⟨by first | rfl | (simp; done) | (simp [*]; done), by repeat (first | exact Drawn0.refl _ | apply Drawn0.step)⟩
  · rw [if_neg c2] at H
    have c2b0 : decide (0 ≤ a0) = false := decide_eq_false c2
    clear c2
    obtain rfl := Option.some.inj H
    go_enter Try.func41, Try.ntmps41
    go_wp2
    go_ret
    exact ⟨by first | rfl | (simp; done) | (simp [*]; done), by repeat (first | exact Drawn0.refl _ | apply Drawn0.step)⟩

end Go.Proofs.Ytnabilhcmplhcaa.Q
end
section
/- Parts of one work, laid together: ShaF, ShaG, ShaH, ShaI, ShaJd, ShaLd, ShaNd, ShaOd. -/
/-
  The document's words: the same as the program's.
-/
set_option linter.unusedVariables false
set_option linter.unusedSimpArgs false
namespace Go.Proofs.Ytnabilhcmplhcaa.Sha
open Go.RowKit Go.Proofs.YtnabilhcmplhcaaW.PrintWords Go.Proofs.YtnabilhcmplhcaaW.PrintLast Go.Proofs.YtnabilhcmplhcaaW.PrintMore Go.Proofs.Ytnabilhcmplhcaa.Q Go.Proofs.Ytnabilhcmplhcaa.Fr

theorem or_comm32 (a b : Int) : Go.bits .or .u32 a b = Go.bits .or .u32 b a := by
  simp only [Go.bits, BitVec.or_comm]
theorem turn_same (x n : Int) (h : turnable n) (w : World) : Calls Try.prog 70 #[.int .u32 x, .int .i64 n] w fun e w' => e = .returned (.int .u32 (rotr x n)) ∧ w' = w := by
  have e : ∀ m : Int, turnable m → IntKind.u64.wrap m = m ∧ IntKind.u64.wrap (wrap64 (32 - m)) = 32 - m := by
    rintro m (rfl|rfl|rfl|rfl|rfl|rfl|rfl|rfl|rfl|rfl) <;> exact ⟨by decide +kernel, by decide +kernel⟩
  have b : 0 ≤ 32 - n ∧ 0 ≤ n ∧ (32 - n).toNat ≤ 32 ∧ n.toNat ≤ 32 := by unfold turnable at h; omega
  have hji3 := (e n h).1
  have hji6 := (e n h).2
  clear e
  have c4b0 := eq_true b.2.1
  have c4b1 : decide (0 ≤ n) = true := decide_eq_true b.2.1
  have c7b0 := eq_true b.1
  have c7b1 : decide (0 ≤ 32 - n) = true := decide_eq_true b.1
  have m1 : min n.toNat 32 = n.toNat := Nat.min_eq_left b.2.2.2
  have m2 : min (32 - n).toNat 32 = (32 - n).toNat := Nat.min_eq_left b.2.2.1
  have hr : Go.bits .or .u32 (x / 2 ^ n.toNat) (IntKind.u32.wrap (x * 2 ^ (32 - n).toNat)) = rotr x n := or_comm32 _ _
  have HR := Aside0.mk hr
  clear hr
  obtain ⟨p, hp⟩ : ∃ p : Int, x / 2 ^ n.toNat = p := ⟨_, rfl⟩
  obtain ⟨q, hq⟩ : ∃ q : Int, IntKind.u32.wrap (x * 2 ^ (32 - n).toNat) = q := ⟨_, rfl⟩
  have HR2 := HR.out
  rw [hp, hq] at HR2
  clear HR
  clear h b
  go_enter Try.func70, Try.ntmps70
  go_wp2
  go_ret
  exact ⟨by simp [*], rfl⟩
theorem back32 (x : BitVec 32) : BitVec.ofInt 32 (IntKind.u32.wrap (x.toNat : Int)) = x := by
  have h : IntKind.u32.wrap (x.toNat : Int) = (x.toNat : Int) := by rw [IntKind.wrap_u32]; have := x.isLt; omega
  rw [h, BitVec.ofInt_natCast, BitVec.ofNat_toNat, BitVec.setWidth_eq]
theorem ofA (a b : Int) : BitVec.ofInt 32 (Go.bits .and .u32 a b) = BitVec.ofInt 32 a &&& BitVec.ofInt 32 b := back32 _
theorem ofO (a b : Int) : BitVec.ofInt 32 (Go.bits .or .u32 a b) = BitVec.ofInt 32 a ||| BitVec.ofInt 32 b := back32 _
theorem ofX (a b : Int) : BitVec.ofInt 32 (Go.bits .xor .u32 a b) = BitVec.ofInt 32 a ^^^ BitVec.ofInt 32 b := back32 _
theorem bO (a b : Int) : Go.bits .or .u32 a b = IntKind.u32.wrap ((BitVec.ofInt 32 a ||| BitVec.ofInt 32 b).toNat : Int) := rfl
theorem bX (a b : Int) : Go.bits .xor .u32 a b = IntKind.u32.wrap ((BitVec.ofInt 32 a ^^^ BitVec.ofInt 32 b).toNat : Int) := rfl
theorem ch_bv (E F G : BitVec 32) : E &&& F ||| (E ^^^ BitVec.allOnes 32) &&& G = E &&& F ^^^ (BitVec.allOnes 32 ^^^ E) &&& G := by
  apply BitVec.eq_of_getLsbD_eq
  intro i hi
  simp only [BitVec.getLsbD_or, BitVec.getLsbD_and, BitVec.getLsbD_xor, BitVec.getLsbD_allOnes, hi, decide_true]
  cases E.getLsbD i <;> cases F.getLsbD i <;> cases G.getLsbD i <;> rfl
theorem maj_bv (E F G : BitVec 32) : E &&& F ||| E &&& G ||| F &&& G = (E &&& F ^^^ E &&& G) ^^^ F &&& G := by
  apply BitVec.eq_of_getLsbD_eq
  intro i hi
  simp only [BitVec.getLsbD_or, BitVec.getLsbD_and, BitVec.getLsbD_xor]
  cases E.getLsbD i <;> cases F.getLsbD i <;> cases G.getLsbD i <;> rfl
theorem ch32 (e f g : Int) : Go.bits .or .u32 (Go.bits .and .u32 e f) (Go.bits .and .u32 (Go.bits .xor .u32 e 4294967295) g) = Go.bits .xor .u32 (Go.bits .and .u32 e f) (Go.bits .and .u32 (Go.bits .xor .u32 IntKind.u32.max e) g) := by
  have hm : BitVec.ofInt 32 IntKind.u32.max = BitVec.allOnes 32 := by decide +kernel
  have hn : BitVec.ofInt 32 4294967295 = BitVec.allOnes 32 := by decide +kernel
  rw [bO, bX (Go.bits .and .u32 e f), ofA, ofA, ofA, ofX, ofX, hm, hn, ch_bv]
theorem maj32 (a b c : Int) : Go.bits .or .u32 (Go.bits .or .u32 (Go.bits .and .u32 a b) (Go.bits .and .u32 a c)) (Go.bits .and .u32 b c) = Go.bits .xor .u32 (Go.bits .xor .u32 (Go.bits .and .u32 a b) (Go.bits .and .u32 a c)) (Go.bits .and .u32 b c) := by
  rw [bO, bX (Go.bits .xor .u32 _ _), ofO, ofX, ofA, ofA, ofA, maj_bv]
end Go.Proofs.Ytnabilhcmplhcaa.Sha

/-
  The document's schedule: the same words.
-/
set_option linter.unusedVariables false
set_option linter.unusedSimpArgs false
namespace Go.Proofs.Ytnabilhcmplhcaa.Sha
open Go.RowKit Go.Proofs.YtnabilhcmplhcaaW.PrintWords Go.Proofs.YtnabilhcmplhcaaW.PrintLast Go.Proofs.YtnabilhcmplhcaaW.PrintMore Go.Proofs.Ytnabilhcmplhcaa.Q Go.Proofs.Ytnabilhcmplhcaa.Fr Go.Proofs.Ytnabilhcmplhcaa.Oct

theorem wraps_u32 (n : Int) (h₀ : 0 ≤ n) (h₁ : n < 2 ^ 32) : IntKind.u32.wrap n = n := by rw [IntKind.wrap_u32]; omega
theorem word4_sum (a b c d : Int) (ha : 0 ≤ a ∧ a ≤ 255) (hb : 0 ≤ b ∧ b ≤ 255) (hc : 0 ≤ c ∧ c ≤ 255) (hd : 0 ≤ d ∧ d ≤ 255) : word4 a b c d = a * 16777216 + b * 65536 + c * 256 + d := by
  unfold word4
  rw [show a % 4294967296 * 16777216 % 4294967296 = a * 16777216 by omega, show b % 4294967296 * 65536 % 4294967296 = b * 65536 by omega, show c % 4294967296 * 256 % 4294967296 = c * 256 by omega, show d % 4294967296 = d by omega]
  rw [bits_join .u32 32 (by decide) wraps_u32 24 (a * 16777216) (b * 65536) (by omega) (by omega) (by omega) (by omega) (by omega) (by omega)]
  rw [bits_join .u32 32 (by decide) wraps_u32 16 (a * 16777216 + b * 65536) (c * 256) (by omega) (by omega) (by omega) (by omega) (by omega) (by omega)]
  rw [bits_join .u32 32 (by decide) wraps_u32 8 (a * 16777216 + b * 65536 + c * 256) d (by omega) (by omega) (by omega) (by omega) (by omega) (by omega)]
theorem word_f (l : List Int) (h4 : 4 ≤ l.length) (hB : Bys l) : catenaryref02_word.f 5 l = some (word4 (l.getD 0 0) (l.getD 1 0) (l.getD 2 0) (l.getD 3 0)) := by
  have hb : ∀ i, i < l.length → 0 ≤ l.getD i 0 ∧ l.getD i 0 ≤ 255 := fun i hi => by
    rw [List.getD_eq_getElem?_getD, List.getElem?_eq_getElem hi]
    exact hB _ (List.getElem_mem hi)
  have b0 := hb 0 (by omega)
  have b1 := hb 1 (by omega)
  have b2 := hb 2 (by omega)
  have b3 := hb 3 (by omega)
  have l0 : (0 : Int) < (l.length : Int) := by omega
  have l1 : (1 : Int) < (l.length : Int) := by omega
  have l2 : (2 : Int) < (l.length : Int) := by omega
  have l3 : (3 : Int) < (l.length : Int) := by omega
  rw [word4_sum _ _ _ _ b0 b1 b2 b3]
  have w1 : wrap64 (0 + 1) = 1 := by decide +kernel
  have w2 : wrap64 (1 + 1) = 2 := by decide +kernel
  have w3 : wrap64 (2 + 1) = 3 := by decide +kernel
  have w4 : wrap64 (3 + 1) = 4 := by decide +kernel
  unfold catenaryref02_word.f
  simp only [catenaryref02_word.l0, if_pos l0, if_pos l1, if_pos l2, if_pos l3, w1, w2, w3, w4, rd, show (0 : Int).toNat = 0 from rfl, show (1 : Int).toNat = 1 from rfl, show (2 : Int).toNat = 2 from rfl, show (3 : Int).toNat = 3 from rfl,
    if_pos (show (0 : Int) < 4 by decide), if_pos (show (1 : Int) < 4 by decide), if_pos (show (2 : Int) < 4 by decide), if_pos (show (3 : Int) < 4 by decide), if_neg (show ¬ (4 : Int) < 4 by decide),
    if_pos (show (0 : Int) ≤ 0 by decide), if_pos (show (0 : Int) ≤ 1 by decide), if_pos (show (0 : Int) ≤ 2 by decide), if_pos (show (0 : Int) ≤ 3 by decide)]
  generalize l.getD 0 0 = a at *
  generalize l.getD 1 0 = b at *
  generalize l.getD 2 0 = c at *
  generalize l.getD 3 0 = d at *
  congr 1
  omega

set_option maxHeartbeats 8000000 in
set_option maxRecDepth 100000 in
/-- The document's table. -/
theorem K_calls (w : World) : Calls Try.prog 69 #[] w fun e w' => e = .returned (.agg KT) ∧ Below w.heap.size w w' := by
  go_enter Try.func69, Try.ntmps69
  go_wp2_with (first | ((with_reducible refine gate_dst (N := 0) rfl ?_); refine wpList_alloc_abs (by rfl) 121 (by rfl) (.agg ZT) (by kernel_rfl) ?_; intro w1 hb1 hs1 hg1) | ((with_reducible refine gate_dst (N := 1) rfl ?_); refine wpList_build_abs (by rfl) 121 _ (by rfl) KT (by kernel_rfl) ?_) | ((with_reducible refine gate_store (p := 0) rfl ?_); refine wpList_store_abs (by rfl) 121 _ _ (by rfl) w.heap.size KT (by rfl) (by rfl) 121 ZT hg1 (by kernel_rfl) (by rw [ZT_size, KT_size]) KT_one ?_; intro w2 hf2 hs2 hg2))
  refine bodyPost_ret (results_cell_row (by rfl) _ _ w.heap.size 121 KT (0, 0) _ (by rfl) hg2 Try.underlying121 (by rfl) (by rw [KT_size]; kernel_rfl)) rfl ?_
  exact ⟨rfl, (Fr.of_below hb1 (fun _ => False)).trans hf2 (fun i h => .inr (by omega)) |>.below _ (Nat.le_refl _) (fun i h => h.elim)⟩

/-! ### schedule -/
def JA (A : Option Addr) (c gr gw : Nat) (P : List Int) (w0 : World) (t : Nat) (a : Act) (w : World) : Prop :=
  Fm 74 a ∧ sl a 0 = .slice A 64 c ∧ sl a 2 = .pointer (some ⟨gr, 0, none⟩) ∧ sl a 3 = .pointer (some ⟨gw, 0, none⟩) ∧ sl a 4 = .int .i64 (t : Int) ∧
    Fr (fun k => k = gw) w0 w ∧ w.heap[gw]? = some (.cells (encs (Value.int .u32) (sched P t)).toArray 121 (0, 0))
set_option maxHeartbeats 8000000 in
set_option maxRecDepth 100000 in
theorem roundA (u : Nat → Value) (A : Option Addr) (c gr gw : Nat) (P : List Int) (hP : P.length = 64) (hB : Bys P) (hc : 64 ≤ c) (t : Nat) (ht : t < 16) (w0 w : World) (W : List Int) (hW : W.length = 64) (hw : w.heap[gw]? = some (.cells (encs (Value.int .u32) W).toArray 121 (0, 0)))
    (hr : Kd.C (Kd.int .u8) w A P.length P) (hf : Fr (fun k => k = gw) w0 w)
    (Q : Exit → Act → World → Prop) (hQ : ∀ a' w', Fm 74 a' → sl a' 0 = .slice A 64 c → sl a' 2 = .pointer (some ⟨gr, 0, none⟩) → sl a' 3 = .pointer (some ⟨gw, 0, none⟩) → sl a' 4 = .int .i64 ((t : Int) + 1) → Fr (fun k => k = gw) w0 w' → w'.heap[gw]? = some (.cells (encs (Value.int .u32) (W.set t (wrd P t))).toArray 121 (0, 0)) → Q .normal a' w') :
    Code.wp Try.prog (bodyN Try.f68 0) Q ⟨#[.slice A 64 c, u 1, .pointer (some ⟨gr, 0, none⟩), .pointer (some ⟨gw, 0, none⟩), .int .i64 (t : Int), u 5, u 6, u 7, u 8, u 9, u 10, u 11, u 12, u 13, u 14, u 15, u 16, u 17, u 18, u 19, u 20, u 21, u 22, u 23, u 24, u 25, u 26, u 27, u 28, u 29, u 30, u 31, u 32, u 33, u 34, u 35, u 36, u 37, u 38, u 39, u 40, u 41, u 42, u 43, u 44, u 45, u 46, u 47, u 48, u 49, u 50, u 51, u 52, u 53, u 54, u 55, u 56, u 57, u 58, u 59, u 60, u 61, u 62, u 63, u 64, u 65, u 66, u 67, u 68, u 69, u 70, u 71, u 72, u 73], []⟩ w := by
  have hd := Kd.C_drop (m := 4 * t) (c := c) hr (by omega) (by omega)
  have hl : (P.drop (4 * t)).length = 64 - 4 * t := by rw [List.length_drop, hP]
  have hv := word_f (P.drop (4 * t)) (by omega) (hB.drop _)
  have hg : word4 ((P.drop (4 * t)).getD 0 0) ((P.drop (4 * t)).getD 1 0) ((P.drop (4 * t)).getD 2 0) ((P.drop (4 * t)).getD 3 0) = wrd P t := by
    unfold wrd
    simp only [List.getD_eq_getElem?_getD, List.getElem?_drop]
    rw [show (4 * (t : Int)).toNat = 4 * t + 0 by omega, show (4 * (t : Int) + 1).toNat = 4 * t + 1 by omega, show (4 * (t : Int) + 2).toNat = 4 * t + 2 by omega, show (4 * (t : Int) + 3).toNat = 4 * t + 3 by omega]
  rw [hg] at hv
  rw [if_neg (by omega), show 4 * t * (Kd.int .u8).sz = 4 * t from Nat.mul_one _] at hd
  have hcall := catenaryref02_word.calls 5 (A.map (·.add (4 * t))) (c - 4 * t) (P.drop (4 * t)) _ w hd (by omega) hv
  rw [hl] at hcall
  obtain ⟨i0, hi0, _, hsz, _⟩ := info_parts info5
  have hcut := cut_from (P := Try.prog) 29 5 .i64 Try.underlying29 hi0 1 hsz A 64 c (4 * (t : Int)) (by omega) (by omega)
  rw [show (4 * (t : Int)).toNat = 4 * t by omega, if_neg (by omega), Nat.mul_one] at hcut
  have HC := Aside0.mk hcall
  have HW := Aside0.mk hw
  have HF := Aside0.mk hf
  clear hcall hw hf hd hv hg hr
  conv => arg 2; whnf
  have c0 : decide ((t : Int) < 16) = true := decide_eq_true (by omega)
  have e1 : IntKind.i64.wrap (4 * (t : Int)) = 4 * (t : Int) := IntWalk.i64_in _ (by omega)
  go_wp2_with (fail)
  refine HC.out.mono ?_
  rintro e w' ⟨rfl, nd, rfl⟩
  have hw2 : (w.drewN nd).heap[gw]? = some (.cells (encs (Value.int .u32) W).toArray 121 (0, 0)) := by simpa using HW.out
  have hf2 : Fr (fun k => k = gw) w0 (w.drewN nd) := HF.out.of_drewN nd
  clear HW HF HC hcut
  generalize w.drewN nd = w3 at *
  have kt := cellV hw2 (t : Int) (by omega) (by omega)
  have ft := frozenV hw2 t
  rw [Int.toNat_natCast] at kt
  have HW := Aside0.mk hw2
  have HF := Aside0.mk hf2
  clear hw2 hf2
  have tl : (t : Int) < 64 := by omega
  go_wp2
  refine hQ _ _ ⟨rfl, rfl⟩ rfl rfl rfl ?_ ?_ ?_
  · rfl
  · exact HF.out.setCell (.inl rfl) _
  · have := heap_putV HW.out (t : Int).toNat (by omega) (wrd P t)
    simpa using this
set_option maxHeartbeats 8000000 in
set_option maxRecDepth 100000 in
theorem exitA (u : Nat → Value) (w : World) (Q : Exit → Act → World → Prop) (hQ : ∀ a', Fm 74 a' → sl a' 0 = u 0 → sl a' 2 = u 2 → sl a' 3 = u 3 → Q (.exit 0) a' w) :
    Code.wp Try.prog (bodyN Try.f68 0) Q ⟨#[u 0, u 1, u 2, u 3, .int .i64 16, u 5, u 6, u 7, u 8, u 9, u 10, u 11, u 12, u 13, u 14, u 15, u 16, u 17, u 18, u 19, u 20, u 21, u 22, u 23, u 24, u 25, u 26, u 27, u 28, u 29, u 30, u 31, u 32, u 33, u 34, u 35, u 36, u 37, u 38, u 39, u 40, u 41, u 42, u 43, u 44, u 45, u 46, u 47, u 48, u 49, u 50, u 51, u 52, u 53, u 54, u 55, u 56, u 57, u 58, u 59, u 60, u 61, u 62, u 63, u 64, u 65, u 66, u 67, u 68, u 69, u 70, u 71, u 72, u 73], []⟩ w := by
  conv => arg 2; whnf
  go_wp2
  exact hQ _ ⟨rfl, rfl⟩ rfl rfl rfl
theorem loopA (A : Option Addr) (c gr gw : Nat) (P : List Int) (hP : P.length = 64) (hB : Bys P) (hc : 64 ≤ c) (w0 : World) (hr : ∀ w, Fr (fun k => k = gw) w0 w → Kd.C (Kd.int .u8) w A P.length P)
    (Q : Exit → Act → World → Prop) (hQ : ∀ a' w', Fm 74 a' → sl a' 2 = .pointer (some ⟨gr, 0, none⟩) → sl a' 3 = .pointer (some ⟨gw, 0, none⟩) → Fr (fun k => k = gw) w0 w' → w'.heap[gw]? = some (.cells (encs (Value.int .u32) (sched P 16)).toArray 121 (0, 0)) → Q (.exit 0) a' w')
    (a : Act) (w : World) (h : JA A c gr gw P w0 0 a w) : (Code.loop (bodyN Try.f68 0)).wp Try.prog Q a w := by
  refine wp_loop_up 16 (JA A c gr gw P w0) h ?_
  rintro t a w ht ⟨hF, h0, h2, h3, h4, hf, hw⟩
  have ha := fm74 hF
  by_cases h64 : t = 16
  · subst h64
    rw [h4] at ha
    rw [ha]
    exact exitA (sl a) w _ fun a' b0 b1 b2 b3 => hQ _ _ b0 (b2.trans h2) (b3.trans h3) hf hw
  · have e1 : ((t + 1 : Nat) : Int) = (t : Int) + 1 := by omega
    rw [h0, h2, h3, h4] at ha
    rw [ha]
    refine roundA (sl a) A c gr gw P hP hB hc t (by omega) w0 w _ (sched_len P t) hw (hr w hf) hf _ ?_
    intro a' w' b0 b1 b2 b3 b4 b5 b6
    refine ⟨by omega, b0, b1, b2, b3, by rw [b4, e1], b5, ?_⟩
    rw [b6, sched, if_pos (by omega)]

/-- The second loop: the words from the sixteenth on. -/
def JB (gr gw : Nat) (P : List Int) (w0 : World) (t : Nat) (a : Act) (w : World) : Prop :=
  Fm 74 a ∧ sl a 2 = .pointer (some ⟨gr, 0, none⟩) ∧ sl a 3 = .pointer (some ⟨gw, 0, none⟩) ∧ sl a 5 = .int .i64 ((t + 16 : Nat) : Int) ∧
    Fr (fun k => k = gw) w0 w ∧ w.heap[gw]? = some (.cells (encs (Value.int .u32) (sched P (t + 16))).toArray 121 (0, 0))
set_option maxHeartbeats 8000000 in
set_option maxRecDepth 100000 in
theorem roundB (u : Nat → Value) (gr gw : Nat) (t : Int) (h16 : 16 ≤ t) (ht : t < 64) (w0 w : World) (W : List Int) (hW : W.length = 64) (hw : w.heap[gw]? = some (.cells (encs (Value.int .u32) W).toArray 121 (0, 0)))
    (hf : Fr (fun k => k = gw) w0 w)
    (Q : Exit → Act → World → Prop) (hQ : ∀ a' w', Fm 74 a' → sl a' 2 = .pointer (some ⟨gr, 0, none⟩) → sl a' 3 = .pointer (some ⟨gw, 0, none⟩) → sl a' 5 = .int .i64 (t + 1) → Fr (fun k => k = gw) w0 w' → w'.heap[gw]? = some (.cells (encs (Value.int .u32) (W.set t.toNat (sch W t))).toArray 121 (0, 0)) → Q .normal a' w') :
    Code.wp Try.prog (bodyN Try.f68 1) Q ⟨#[u 0, u 1, .pointer (some ⟨gr, 0, none⟩), .pointer (some ⟨gw, 0, none⟩), u 4, .int .i64 t, u 6, u 7, u 8, u 9, u 10, u 11, u 12, u 13, u 14, u 15, u 16, u 17, u 18, u 19, u 20, u 21, u 22, u 23, u 24, u 25, u 26, u 27, u 28, u 29, u 30, u 31, u 32, u 33, u 34, u 35, u 36, u 37, u 38, u 39, u 40, u 41, u 42, u 43, u 44, u 45, u 46, u 47, u 48, u 49, u 50, u 51, u 52, u 53, u 54, u 55, u 56, u 57, u 58, u 59, u 60, u 61, u 62, u 63, u 64, u 65, u 66, u 67, u 68, u 69, u 70, u 71, u 72, u 73], []⟩ w := by
  obtain ⟨x, hx⟩ : ∃ x, W.getD (t - 15).toNat 0 = x := ⟨_, rfl⟩
  obtain ⟨y, hy⟩ : ∃ x, W.getD (t - 2).toNat 0 = x := ⟨_, rfl⟩
  obtain ⟨x7, hx7⟩ : ∃ x, W.getD (t - 7).toNat 0 = x := ⟨_, rfl⟩
  obtain ⟨x16, hx16⟩ : ∃ x, W.getD (t - 16).toNat 0 = x := ⟨_, rfl⟩
  rw [show sch W t = (sig1 y + x7 + sig0 x + x16) % 4294967296 by rw [← hx, ← hy, ← hx7, ← hx16]; rfl] at hQ
  conv => arg 2; whnf
  have c0 := decide_eq_true ht
  go_wp2
  refine region_tail 17 (by kernel_rfl) (by kernel_rfl) ?_
  intro w3 e3
  have hw3 : w3.heap[gw]? = some (.cells (encs (Value.int .u32) W).toArray 121 (0, 0)) := by rw [e3]; exact hw
  have hf3 : Fr (fun k => k = gw) w0 w3 := by rw [e3]; exact hf.of_drew
  clear hw hf e3
  have k15 := cellV hw3 (t - 15) (by omega) (by omega)
  rw [hx] at k15
  have HW := Aside0.mk hw3
  have HF := Aside0.mk hf3
  clear hw3 hf3
  have f1 : 0 ≤ t - 15 := by omega
  have g1 : 15 ≤ t := by omega
  have f2 : t - 15 < 64 := by omega
  have e1 : IntKind.i64.wrap (t - 15) = t - 15 := IntWalk.i64_in _ (by omega)
  simp only [List.take_succ_cons, List.take_zero, List.drop_succ_cons, List.drop_zero]
  repeat (first | still_step | still_call (turn_same _ _ (by simp [turnable]) _))
  refine wpStill_nil ?_
  go_wp2
  refine region_tail 17 (by kernel_rfl) (by kernel_rfl) ?_
  intro w4 e3
  have hw3 : w4.heap[gw]? = some (.cells (encs (Value.int .u32) W).toArray 121 (0, 0)) := by rw [e3]; exact HW.out
  have hf3 : Fr (fun k => k = gw) w0 w4 := by rw [e3]; exact HF.out.of_drew
  clear HW HF e3 f1 g1 f2 e1 k15
  have k2 := cellV hw3 (t - 2) (by omega) (by omega)
  rw [hy] at k2
  have HW := Aside0.mk hw3
  have HF := Aside0.mk hf3
  clear hw3 hf3
  have f1 : 0 ≤ t - 2 := by omega
  have g1 : 2 ≤ t := by omega
  have f2 : t - 2 < 64 := by omega
  have e1 : IntKind.i64.wrap (t - 2) = t - 2 := IntWalk.i64_in _ (by omega)
  simp only [List.take_succ_cons, List.take_zero, List.drop_succ_cons, List.drop_zero]
  repeat (first | still_step | still_call (turn_same _ _ (by simp [turnable]) _))
  refine wpStill_nil ?_
  go_wp2
  refine region_tail 14 (by kernel_rfl) (by kernel_rfl) ?_
  intro w5 e3
  have hw3 : w5.heap[gw]? = some (.cells (encs (Value.int .u32) W).toArray 121 (0, 0)) := by rw [e3]; exact HW.out
  have hf3 : Fr (fun k => k = gw) w0 w5 := by rw [e3]; exact HF.out.of_drew
  clear HW HF e3 f1 g1 f2 e1 k2
  have k7 := cellV hw3 (t - 7) (by omega) (by omega)
  have k16 := cellV hw3 (t - 16) (by omega) (by omega)
  rw [hx7] at k7
  rw [hx16] at k16
  have HW := Aside0.mk hw3
  have HF := Aside0.mk hf3
  clear hw3 hf3
  have f1 : 0 ≤ t - 7 := by omega
  have g1 : 7 ≤ t := by omega
  have f2 : t - 7 < 64 := by omega
  have f3 : 0 ≤ t - 16 := by omega
  have f4 : t - 16 < 64 := by omega
  have e1 : IntKind.i64.wrap (t - 7) = t - 7 := IntWalk.i64_in _ (by omega)
  have e2 : IntKind.i64.wrap (t - 16) = t - 16 := IntWalk.i64_in _ (by omega)
  simp only [List.take_succ_cons, List.take_zero, List.drop_succ_cons, List.drop_zero]
  repeat still_step
  refine wpStill_nil ?_
  clear f1 g1 f2 f3 f4 e1 e2 k7 k16
  have f0 : 0 ≤ t := by omega
  have kt := cellV HW.out t (by omega) (by omega)
  have ft := frozenV HW.out t.toNat
  go_wp2
  refine hQ _ _ ⟨rfl, rfl⟩ rfl rfl rfl ?_ ?_
  · exact HF.out.setCell (.inl rfl) _
  · exact heap_putV HW.out _ (by omega) _
end Go.Proofs.Ytnabilhcmplhcaa.Sha

/-
  The document's schedule, whole.
-/
set_option linter.unusedVariables false
set_option linter.unusedSimpArgs false
namespace Go.Proofs.Ytnabilhcmplhcaa.Sha
open Go.RowKit Go.Proofs.YtnabilhcmplhcaaW.PrintWords Go.Proofs.YtnabilhcmplhcaaW.PrintLast Go.Proofs.YtnabilhcmplhcaaW.PrintMore Go.Proofs.Ytnabilhcmplhcaa.Q Go.Proofs.Ytnabilhcmplhcaa.Fr Go.Proofs.Ytnabilhcmplhcaa.Oct

set_option maxHeartbeats 8000000 in
set_option maxRecDepth 100000 in
theorem exitB (u : Nat → Value) (w : World) (Q : Exit → Act → World → Prop) (hQ : ∀ a', Fm 74 a' → sl a' 2 = u 2 → sl a' 3 = u 3 → Q (.exit 2) a' w) :
    Code.wp Try.prog (bodyN Try.f68 1) Q ⟨#[u 0, u 1, u 2, u 3, u 4, .int .i64 64, u 6, u 7, u 8, u 9, u 10, u 11, u 12, u 13, u 14, u 15, u 16, u 17, u 18, u 19, u 20, u 21, u 22, u 23, u 24, u 25, u 26, u 27, u 28, u 29, u 30, u 31, u 32, u 33, u 34, u 35, u 36, u 37, u 38, u 39, u 40, u 41, u 42, u 43, u 44, u 45, u 46, u 47, u 48, u 49, u 50, u 51, u 52, u 53, u 54, u 55, u 56, u 57, u 58, u 59, u 60, u 61, u 62, u 63, u 64, u 65, u 66, u 67, u 68, u 69, u 70, u 71, u 72, u 73], []⟩ w := by
  conv => arg 2; whnf
  go_wp2
  exact hQ _ ⟨rfl, rfl⟩ rfl rfl
theorem loopB (gr gw : Nat) (P : List Int) (w0 : World)
    (Q : Exit → Act → World → Prop) (hQ : ∀ a' w', Fm 74 a' → sl a' 2 = .pointer (some ⟨gr, 0, none⟩) → sl a' 3 = .pointer (some ⟨gw, 0, none⟩) → Fr (fun k => k = gw) w0 w' → w'.heap[gw]? = some (.cells (encs (Value.int .u32) (sched P 64)).toArray 121 (0, 0)) → Q (.exit 2) a' w')
    (a : Act) (w : World) (h : JB gr gw P w0 0 a w) : (Code.loop (bodyN Try.f68 1)).wp Try.prog Q a w := by
  refine wp_loop_up 48 (JB gr gw P w0) h ?_
  rintro t a w ht ⟨hF, h2, h3, h5, hf, hw⟩
  have ha := fm74 hF
  by_cases h64 : t = 48
  · subst h64
    rw [h5] at ha
    rw [ha]
    exact exitB (sl a) w _ fun a' b0 b1 b2 => hQ _ _ b0 (b1.trans h2) (b2.trans h3) hf hw
  · have e1 : ((t + 1 + 16 : Nat) : Int) = ((t + 16 : Nat) : Int) + 1 := by omega
    rw [h2, h3, h5] at ha
    rw [ha]
    refine roundB (sl a) gr gw ((t + 16 : Nat) : Int) (by omega) (by omega) w0 w _ (sched_len P _) hw hf _ ?_
    intro a' w' b0 b2 b3 b4 b5 b6
    refine ⟨by omega, b0, b2, b3, by rw [b4, e1], b5, ?_⟩
    have e2 : sched P ((t + 16) + 1) = (sched P (t + 16)).set (t + 16) (sch (sched P (t + 16)) ((t + 16 : Nat) : Int)) := by
      rw [sched, if_neg (by omega)]
    rw [b6, show t + 1 + 16 = (t + 16) + 1 by omega, e2, Int.toNat_natCast]

set_option maxHeartbeats 8000000 in
set_option maxRecDepth 100000 in
theorem schedule_calls (A : Option Addr) (c : Nat) (P : List Int) (hP : P.length = 64) (hB : Bys P) (hc : 64 ≤ c) (w : World) (hr : Kd.C (Kd.int .u8) w A P.length P) :
    Calls Try.prog 68 #[.slice A 64 c] w fun e w' => e = .returned (.agg (encs (Value.int .u32) (sched P 64)).toArray) ∧ Below w.heap.size w w' := by
  have HR := Aside0.mk hr
  clear hr
  have hlen : (encs (Value.int .u32) (sched P 64)).toArray.size = 64 := by simp [encs, sched_len]
  have hone : (encs (Value.int .u32) (sched P 64)).toArray.all (·.oneCell') = true := by simp [encs, Value.oneCell']
  obtain ⟨cs, hcs⟩ : ∃ cs, (encs (Value.int .u32) (sched P 64)).toArray = cs := ⟨_, rfl⟩
  rw [hcs] at hlen hone
  rw [hcs]
  have hi : (Try.prog.info? 121).map (·.size) = some cs.size := by rw [hlen]; kernel_rfl
  have HO := Aside0.mk hone
  have HI := Aside0.mk hi
  have HL := Aside0.mk hlen
  have HX := Aside0.mk hcs
  clear hone hcs hi hlen
  go_enter Try.func68, Try.ntmps68
  go_wp2_with (first | ((with_reducible refine gate_dst (N := 2) rfl ?_); refine wpList_alloc_abs (by rfl) 121 (by rfl) (.agg ZT) (by kernel_rfl) ?_; intro w1 hb1 hs1 hg1) | ((with_reducible refine gate_dst (N := 8) rfl ?_); refine wpList_build_abs (by rfl) 121 _ (by rfl) ZT (by kernel_rfl) ?_) | ((with_reducible refine gate_dst (N := 3) rfl ?_); refine wpList_alloc_abs (by rfl) 121 (by rfl) (.agg ZT) (by kernel_rfl) ?_; intro w2 hb2 hs2 hg2) | ((with_reducible refine gate_store (p := 3) rfl ?_); refine wpList_store_abs (by rfl) 121 _ _ (by rfl) w1.heap.size ZT (by rfl) (by rfl) 121 ZT hg2 (by kernel_rfl) (by rfl) (by decide +kernel) ?_; intro w3 hf3 hs3 hg3))
  have lr : w.heap.size < w2.heap.size := by omega
  have hr3 : w3.heap[w.heap.size]? = some (.cells ZT 121 (0, 0)) := hf3.blk ((Fr.of_below hb2 (fun _ => False)).blk hg1 (fun h => h)) (fun h => by omega)
  have F3 : Fr (fun _ => False) w w3 := ((Fr.of_below hb1 _).trans (Fr.of_below hb2 (fun _ => False)) (fun i h => h.elim)).trans hf3 (fun i h => .inr (by omega))
  have lA : ∀ w', Fr (fun k => k = w.heap.size + 1) w3 w' → Kd.C (Kd.int .u8) w' A P.length P := fun w' h => (F3.trans h (S := fun _ => False) (fun i h2 => .inr (by omega))).C HR.out (fun i h => h.elim)
  rw [hs1] at hg3
  clear hf3 hb2 hg2 hg1 hb1 HR
  refine loopA A c w.heap.size (w.heap.size + 1) P hP hB hc w3 lA _ ?_ _ _ ⟨⟨rfl, rfl⟩, rfl, rfl, rfl, rfl, Fr.refl _ _, hg3⟩
  clear lA hg3
  intro a' w4 hF j2 j3 jf jw
  rw [fm74 hF, j2, j3]
  have F4 : Fr (fun _ => False) w w4 := F3.trans jf (fun i h => .inr (by omega))
  have hr4 := jf.blk hr3 (fun h => by omega)
  clear hr3 F3 jf hF j2 j3
  have HW := Aside0.mk jw
  have HF := Aside0.mk F4
  have HR := Aside0.mk hr4
  clear jw F4 hr4
  go_wp2
  refine loopB w.heap.size (w.heap.size + 1) P w4 _ ?_ _ _ ⟨⟨rfl, rfl⟩, rfl, rfl, rfl, Fr.refl _ _, HW.out⟩
  intro a' w5 hF j2 j3 jf jw
  rw [fm74 hF, j2, j3]
  have hr5 := jf.blk HR.out (fun h => by omega)
  have F5 : Fr (fun _ => False) w w5 := HF.out.trans jf (fun i h => .inr (by omega))
  clear HR HF HW jf hF j2 j3
  rw [HX.out] at jw
  have HW := Aside0.mk jw
  have HF := Aside0.mk F5
  have HR := Aside0.mk hr5
  clear jw F5 hr5 HX
  go_wp2_with (first | ((with_reducible refine gate_dst (N := 73) rfl ?_); refine wpList_load_row (by rfl) 121 _ (by rfl) (w.heap.size + 1) (by rfl) _ cs _ _ HW.out Try.underlying121 (by rfl) HI.out ?_) | ((with_reducible refine gate_store (p := 2) rfl ?_); refine wpList_store_abs (by rfl) 121 _ _ (by rfl) w.heap.size cs (by rfl) (by rfl) 121 ZT HR.out HI.out (by rw [HL.out]; exact ZT_size) HO.out ?_; intro w6 hf6 hs6 hg6))
  refine bodyPost_ret (results_cell_row (by rfl) _ _ w.heap.size 121 cs (0, 0) _ (by rfl) hg6 Try.underlying121 (by rfl) HI.out) rfl ?_
  exact ⟨rfl, (HF.out.trans hf6 (S := fun _ => False) (fun i h => .inr (by omega))).below _ (Nat.le_refl _) (fun i h => h.elim)⟩
end Go.Proofs.Ytnabilhcmplhcaa.Sha

/-
  The document's block: a round.
-/
set_option linter.unusedVariables false
set_option linter.unusedSimpArgs false
namespace Go.Proofs.Ytnabilhcmplhcaa.Sha
open Go.RowKit Go.Proofs.YtnabilhcmplhcaaW.PrintWords Go.Proofs.YtnabilhcmplhcaaW.PrintLast Go.Proofs.YtnabilhcmplhcaaW.PrintMore Go.Proofs.Ytnabilhcmplhcaa.Q Go.Proofs.Ytnabilhcmplhcaa.Fr Go.Proofs.Ytnabilhcmplhcaa.Oct

theorem add_wrap (a b : Int) : (a + b) % 4294967296 = (a + IntKind.u32.wrap b) % 4294967296 := by rw [IntKind.wrap_u32]; omega
set_option maxHeartbeats 8000000 in
set_option maxRecDepth 100000 in
theorem roundR (u : Nat → Value) (gb gr gk gw gv : Nat) (t : Int) (ht0 : 0 ≤ t) (ht : t < 64) (w0 w : World) (va vb vc vd ve vf vg vh kt wt : Int)
   (hv : w.heap[gv]? = some (.cells (encs (Value.int .u32) [va, vb, vc, vd, ve, vf, vg, vh]).toArray 116 (0, 0)))
   (hk : w.cell? ⟨gk, t.toNat, none⟩ = some (.int .u32 kt)) (hw : w.cell? ⟨gw, t.toNat, none⟩ = some (.int .u32 wt)) (hf : Fr (fun k => k = gv) w0 w)
   (Q : Exit → Act → World → Prop) (hQ : ∀ a' w', Fm 113 a' → sl a' 2 = .pointer (some ⟨gb, 0, none⟩) → sl a' 4 = .pointer (some ⟨gr, 0, none⟩) → sl a' 5 = .pointer (some ⟨gw, 0, none⟩) → sl a' 6 = .pointer (some ⟨gk, 0, none⟩) → sl a' 7 = .pointer (some ⟨gv, 0, none⟩) → sl a' 8 = .int .i64 (t + 1) →
      Fr (fun k => k = gv) w0 w' → w'.heap[gv]? = some (.cells (encs (Value.int .u32) (rnd [va, vb, vc, vd, ve, vf, vg, vh] kt wt)).toArray 116 (0, 0)) → Q .normal a' w') :
    Code.wp Try.prog (bodyN Try.f63 0) Q ⟨#[u 0, u 1, .pointer (some ⟨gb, 0, none⟩), u 3, .pointer (some ⟨gr, 0, none⟩), .pointer (some ⟨gw, 0, none⟩), .pointer (some ⟨gk, 0, none⟩), .pointer (some ⟨gv, 0, none⟩), .int .i64 t, u 9, u 10, u 11, u 12, u 13, u 14, u 15, u 16, u 17, u 18, u 19, u 20, u 21, u 22, u 23, u 24, u 25, u 26, u 27, u 28, u 29, u 30, u 31, u 32, u 33, u 34, u 35, u 36, u 37, u 38, u 39, u 40, u 41, u 42, u 43, u 44, u 45, u 46, u 47, u 48, u 49, u 50, u 51, u 52, u 53, u 54, u 55, u 56, u 57, u 58, u 59, u 60, u 61, u 62, u 63, u 64, u 65, u 66, u 67, u 68, u 69, u 70, u 71, u 72, u 73, u 74, u 75, u 76, u 77, u 78, u 79, u 80, u 81, u 82, u 83, u 84, u 85, u 86, u 87, u 88, u 89, u 90, u 91, u 92, u 93, u 94, u 95, u 96, u 97, u 98, u 99, u 100, u 101, u 102, u 103, u 104, u 105, u 106, u 107, u 108, u 109, u 110, u 111, u 112], []⟩ w := by
  conv => arg 2; whnf
  have c0 := decide_eq_true ht
  go_wp2
  refine region_tail 17 (by kernel_rfl) (by kernel_rfl) ?_
  intro w3 e3
  have e4 : ∀ p, w3.cell? p = w.cell? p := fun p => by rw [e3]; simp
  rw [← e4] at hk hw
  have hv3 : w3.heap[gv]? = some (.cells (encs (Value.int .u32) [va, vb, vc, vd, ve, vf, vg, vh]).toArray 116 (0, 0)) := by rw [e3]; exact hv
  have hf3 : Fr (fun k => k = gv) w0 w3 := by rw [e3]; exact hf.of_drew
  clear hv hf e4 e3
  have HV := Aside0.mk hv3
  have HF := Aside0.mk hf3
  obtain ⟨v0, v1, v2, v3, v4, v5, v6, v7⟩ := cells8 hv3
  clear hv3 hf3
  simp only [List.take_succ_cons, List.take_zero, List.drop_succ_cons, List.drop_zero]
  repeat still_step
  refine wpStill_nil ?_
  go_wp2
  refine region_tail 28 (by kernel_rfl) (by kernel_rfl) ?_
  intro w4 e3
  have e4 : ∀ p, w4.cell? p = w3.cell? p := fun p => by rw [e3]; simp
  rw [← e4] at v0 v1 v2 v3 v4 v5 v6 v7 hk hw
  have hv : w4.heap[gv]? = some (.cells (encs (Value.int .u32) [va, vb, vc, vd, ve, vf, vg, vh]).toArray 116 (0, 0)) := by rw [e3]; exact HV.out
  have hf : Fr (fun k => k = gv) w0 w4 := by rw [e3]; exact (HF.out).of_drew
  clear HV HF e4 e3
  have HV := Aside0.mk hv
  have HF := Aside0.mk hf
  clear hv hf
  simp only [List.take_succ_cons, List.take_zero, List.drop_succ_cons, List.drop_zero]
  repeat (first | still_step | still_call (turn_same _ _ (by simp [turnable]) _))
  refine wpStill_nil ?_
  go_wp2_with (fail)
  generalize hT1 : IntKind.u32.wrap (IntKind.u32.wrap (IntKind.u32.wrap (IntKind.u32.wrap (vh + Go.bits .xor .u32 (Go.bits .xor .u32 (rotr ve 6) (rotr ve 11)) (rotr ve 25)) + Go.bits .or .u32 (Go.bits .and .u32 ve vf) (Go.bits .and .u32 (Go.bits .xor .u32 ve 4294967295) vg)) + kt) + wt) = T1
  refine (turn_same _ _ (by simp [turnable]) _).mono ?_
  rintro e w' ⟨rfl, rfl⟩
  go_wp2_with (fail)
  refine (turn_same _ _ (by simp [turnable]) _).mono ?_
  rintro e w' ⟨rfl, rfl⟩
  go_wp2_with (fail)
  refine (turn_same _ _ (by simp [turnable]) _).mono ?_
  rintro e w' ⟨rfl, rfl⟩
  have hv5 := HV.out
  go_wp2_with (first | ((with_reducible refine gate_store (p := 7) rfl ?_); refine Aside0.out ?_))
  refine ⟨?_⟩
  refine wpList_store_abs (by rfl) 116 _ _ (by rfl) gv _ (by rfl) (by rfl) 116 _ hv5 (by kernel_rfl) (by rfl) (by simp [Value.oneCell']) ?_
  intro w6 hf6 hs6 hg6
  go_wp2
  refine hQ _ _ ⟨rfl, rfl⟩ rfl rfl rfl rfl rfl rfl ?_ ?_
  · exact HF.out.trans hf6 (fun i h => .inl h)
  · rw [hg6, ← hT1, ch32, maj32, add_wrap _ (Go.bits .xor .u32 (Go.bits .xor .u32 (rotr va 2) (rotr va 13)) (rotr va 22) + _)]
    rfl
end Go.Proofs.Ytnabilhcmplhcaa.Sha

/-
  The document's block, whole: the same as the program's.
-/
set_option linter.unusedVariables false
set_option linter.unusedSimpArgs false
namespace Go.Proofs.Ytnabilhcmplhcaa.Sha
open Go.RowKit Go.Proofs.YtnabilhcmplhcaaW.PrintWords Go.Proofs.YtnabilhcmplhcaaW.PrintLast Go.Proofs.YtnabilhcmplhcaaW.PrintMore Go.Proofs.Ytnabilhcmplhcaa.Q Go.Proofs.Ytnabilhcmplhcaa.Fr Go.Proofs.Ytnabilhcmplhcaa.Oct

set_option maxHeartbeats 8000000 in
set_option maxRecDepth 100000 in
theorem exitR (u : Nat → Value) (w : World) (Q : Exit → Act → World → Prop) (hQ : ∀ a', Fm 113 a' → sl a' 2 = u 2 → sl a' 4 = u 4 → sl a' 7 = u 7 → Q (.exit 0) a' w) :
    Code.wp Try.prog (bodyN Try.f63 0) Q ⟨#[u 0, u 1, u 2, u 3, u 4, u 5, u 6, u 7, .int .i64 64, u 9, u 10, u 11, u 12, u 13, u 14, u 15, u 16, u 17, u 18, u 19, u 20, u 21, u 22, u 23, u 24, u 25, u 26, u 27, u 28, u 29, u 30, u 31, u 32, u 33, u 34, u 35, u 36, u 37, u 38, u 39, u 40, u 41, u 42, u 43, u 44, u 45, u 46, u 47, u 48, u 49, u 50, u 51, u 52, u 53, u 54, u 55, u 56, u 57, u 58, u 59, u 60, u 61, u 62, u 63, u 64, u 65, u 66, u 67, u 68, u 69, u 70, u 71, u 72, u 73, u 74, u 75, u 76, u 77, u 78, u 79, u 80, u 81, u 82, u 83, u 84, u 85, u 86, u 87, u 88, u 89, u 90, u 91, u 92, u 93, u 94, u 95, u 96, u 97, u 98, u 99, u 100, u 101, u 102, u 103, u 104, u 105, u 106, u 107, u 108, u 109, u 110, u 111, u 112], []⟩ w := by
  conv => arg 2; whnf
  go_wp2
  exact hQ _ ⟨rfl, rfl⟩ rfl rfl rfl
def JR (gb gr gk gw gv : Nat) (K W V : List Int) (w0 : World) (t : Nat) (a : Act) (w : World) : Prop :=
  Fm 113 a ∧ sl a 2 = .pointer (some ⟨gb, 0, none⟩) ∧ sl a 4 = .pointer (some ⟨gr, 0, none⟩) ∧ sl a 5 = .pointer (some ⟨gw, 0, none⟩) ∧ sl a 6 = .pointer (some ⟨gk, 0, none⟩) ∧ sl a 7 = .pointer (some ⟨gv, 0, none⟩) ∧ sl a 8 = .int .i64 (t : Int) ∧
    Fr (fun k => k = gv) w0 w ∧ w.heap[gv]? = some (.cells (encs (Value.int .u32) (rnds K W V t)).toArray 116 (0, 0))
theorem loopR (gb gr gk gw gv : Nat) (K W V : List Int) (tk tw : TypeId) (w0 : World) (hV : V.length = 8) (hK : K.length = 64) (hW : W.length = 64) (hk : w0.heap[gk]? = some (.cells (encs (Value.int .u32) K).toArray tk (0, 0)))
    (hw : w0.heap[gw]? = some (.cells (encs (Value.int .u32) W).toArray tw (0, 0))) (hnk : gk ≠ gv) (hnw : gw ≠ gv)
    (Q : Exit → Act → World → Prop) (hQ : ∀ a' w', Fm 113 a' → sl a' 2 = .pointer (some ⟨gb, 0, none⟩) → sl a' 4 = .pointer (some ⟨gr, 0, none⟩) → sl a' 7 = .pointer (some ⟨gv, 0, none⟩) → Fr (fun k => k = gv) w0 w' → w'.heap[gv]? = some (.cells (encs (Value.int .u32) (rnds K W V 64)).toArray 116 (0, 0)) → Q (.exit 0) a' w')
    (a : Act) (w : World) (h : JR gb gr gk gw gv K W V w0 0 a w) : (Code.loop (bodyN Try.f63 0)).wp Try.prog Q a w := by
  refine wp_loop_up 64 (JR gb gr gk gw gv K W V w0) h ?_
  rintro t a w ht ⟨hF, h2, h4, h5, h6, h7, h8, hf, hv⟩
  have ha := fm113 hF
  by_cases h64 : t = 64
  · subst h64
    rw [h8] at ha
    rw [ha]
    exact exitR (sl a) w _ fun a' b0 b1 b2 b3 => hQ _ _ b0 (b1.trans h2) (b2.trans h4) (b3.trans h7) hf hv
  · have e1 : ((t + 1 : Nat) : Int) = (t : Int) + 1 := by omega
    obtain ⟨va, vb, vc, vd, ve, vf, vg, vh, hx⟩ := eight ((rnds_len K W V t).trans hV)
    rw [hx] at hv
    have ck := cellV (hf.blk hk hnk) (t : Int) (by omega) (by omega)
    have cw := cellV (hf.blk hw hnw) (t : Int) (by omega) (by omega)
    rw [h2, h4, h5, h6, h7, h8] at ha
    rw [ha]
    refine roundR (sl a) gb gr gk gw gv t (by omega) (by omega) w0 w va vb vc vd ve vf vg vh (K.getD t 0) (W.getD t 0) hv ck cw hf _ ?_
    intro a' w' b0 b2 b4 b5 b6 b7 b8 b9 b10
    refine ⟨by omega, b0, b2, b4, b5, b6, b7, by rw [b8, e1], b9, ?_⟩
    rw [b10, rnds, hx]

set_option maxHeartbeats 8000000 in
set_option maxRecDepth 100000 in
theorem roundT (u : Nat → Value) (gs gr gv : Nat) (t : Int) (ht0 : 0 ≤ t) (ht : t < 8) (w0 w : World) (S : List Int) (hS : S.length = 8) (st vt : Int)
   (hs : w.heap[gs]? = some (.cells (encs (Value.int .u32) S).toArray 116 (0, 0))) (hst : S.getD t.toNat 0 = st)
   (hv : w.cell? ⟨gv, t.toNat, none⟩ = some (.int .u32 vt)) (hf : Fr (fun k => k = gs) w0 w)
   (Q : Exit → Act → World → Prop) (hQ : ∀ a' w', Fm 113 a' → sl a' 2 = .pointer (some ⟨gs, 0, none⟩) → sl a' 4 = .pointer (some ⟨gr, 0, none⟩) → sl a' 7 = .pointer (some ⟨gv, 0, none⟩) → sl a' 17 = .int .i64 (t + 1) →
      Fr (fun k => k = gs) w0 w' → w'.heap[gs]? = some (.cells (encs (Value.int .u32) (S.set t.toNat ((st + vt) % 4294967296))).toArray 116 (0, 0)) → Q .normal a' w') :
    Code.wp Try.prog (bodyN Try.f63 1) Q ⟨#[u 0, u 1, .pointer (some ⟨gs, 0, none⟩), u 3, .pointer (some ⟨gr, 0, none⟩), u 5, u 6, .pointer (some ⟨gv, 0, none⟩), u 8, u 9, u 10, u 11, u 12, u 13, u 14, u 15, u 16, .int .i64 t, u 18, u 19, u 20, u 21, u 22, u 23, u 24, u 25, u 26, u 27, u 28, u 29, u 30, u 31, u 32, u 33, u 34, u 35, u 36, u 37, u 38, u 39, u 40, u 41, u 42, u 43, u 44, u 45, u 46, u 47, u 48, u 49, u 50, u 51, u 52, u 53, u 54, u 55, u 56, u 57, u 58, u 59, u 60, u 61, u 62, u 63, u 64, u 65, u 66, u 67, u 68, u 69, u 70, u 71, u 72, u 73, u 74, u 75, u 76, u 77, u 78, u 79, u 80, u 81, u 82, u 83, u 84, u 85, u 86, u 87, u 88, u 89, u 90, u 91, u 92, u 93, u 94, u 95, u 96, u 97, u 98, u 99, u 100, u 101, u 102, u 103, u 104, u 105, u 106, u 107, u 108, u 109, u 110, u 111, u 112], []⟩ w := by
  conv => arg 2; whnf
  have c0 := decide_eq_true ht
  have hc := cellV hs t (by omega) (by omega)
  rw [hst] at hc
  go_wp2
  refine region_tail 7 (by kernel_rfl) (by kernel_rfl) ?_
  intro w3 e3
  have e4 : ∀ p, w3.cell? p = w.cell? p := fun p => by rw [e3]; simp
  rw [← e4] at hc hv
  have hs3 : w3.heap[gs]? = some (.cells (encs (Value.int .u32) S).toArray 116 (0, 0)) := by rw [e3]; exact hs
  have hf3 : Fr (fun k => k = gs) w0 w3 := by rw [e3]; exact hf.of_drew
  clear hs hf e3 e4
  have HS := Aside0.mk hs3
  have HF := Aside0.mk hf3
  clear hs3 hf3
  simp only [List.take_succ_cons, List.take_zero, List.drop_succ_cons, List.drop_zero]
  repeat still_step
  refine wpStill_nil ?_
  have fz := frozenV HS.out t.toNat
  go_wp2
  refine hQ _ _ ⟨rfl, rfl⟩ rfl rfl rfl rfl ?_ ?_
  · exact HF.out.setCell (.inl rfl) _
  · exact heap_putV HS.out _ (by omega) _
set_option maxHeartbeats 8000000 in
set_option maxRecDepth 100000 in
theorem exitT (u : Nat → Value) (w : World) (Q : Exit → Act → World → Prop) (hQ : ∀ a', Fm 113 a' → sl a' 2 = u 2 → sl a' 4 = u 4 → Q (.exit 2) a' w) :
    Code.wp Try.prog (bodyN Try.f63 1) Q ⟨#[u 0, u 1, u 2, u 3, u 4, u 5, u 6, u 7, u 8, u 9, u 10, u 11, u 12, u 13, u 14, u 15, u 16, .int .i64 8, u 18, u 19, u 20, u 21, u 22, u 23, u 24, u 25, u 26, u 27, u 28, u 29, u 30, u 31, u 32, u 33, u 34, u 35, u 36, u 37, u 38, u 39, u 40, u 41, u 42, u 43, u 44, u 45, u 46, u 47, u 48, u 49, u 50, u 51, u 52, u 53, u 54, u 55, u 56, u 57, u 58, u 59, u 60, u 61, u 62, u 63, u 64, u 65, u 66, u 67, u 68, u 69, u 70, u 71, u 72, u 73, u 74, u 75, u 76, u 77, u 78, u 79, u 80, u 81, u 82, u 83, u 84, u 85, u 86, u 87, u 88, u 89, u 90, u 91, u 92, u 93, u 94, u 95, u 96, u 97, u 98, u 99, u 100, u 101, u 102, u 103, u 104, u 105, u 106, u 107, u 108, u 109, u 110, u 111, u 112], []⟩ w := by
  conv => arg 2; whnf
  go_wp2
  exact hQ _ ⟨rfl, rfl⟩ rfl rfl
def JT (gs gr gv : Nat) (S V : List Int) (w0 : World) (t : Nat) (a : Act) (w : World) : Prop :=
  Fm 113 a ∧ sl a 2 = .pointer (some ⟨gs, 0, none⟩) ∧ sl a 4 = .pointer (some ⟨gr, 0, none⟩) ∧ sl a 7 = .pointer (some ⟨gv, 0, none⟩) ∧ sl a 17 = .int .i64 (t : Int) ∧
    Fr (fun k => k = gs) w0 w ∧ w.heap[gs]? = some (.cells (encs (Value.int .u32) (adds S V t)).toArray 116 (0, 0))
theorem loopT (gs gr gv : Nat) (S V : List Int) (tv : TypeId) (w0 : World) (hS : S.length = 8) (hV : V.length = 8) (hv : w0.heap[gv]? = some (.cells (encs (Value.int .u32) V).toArray tv (0, 0))) (hn : gv ≠ gs)
    (Q : Exit → Act → World → Prop) (hQ : ∀ a' w', Fm 113 a' → sl a' 2 = .pointer (some ⟨gs, 0, none⟩) → sl a' 4 = .pointer (some ⟨gr, 0, none⟩) → Fr (fun k => k = gs) w0 w' → w'.heap[gs]? = some (.cells (encs (Value.int .u32) (adds S V 8)).toArray 116 (0, 0)) → Q (.exit 2) a' w')
    (a : Act) (w : World) (h : JT gs gr gv S V w0 0 a w) : (Code.loop (bodyN Try.f63 1)).wp Try.prog Q a w := by
  refine wp_loop_up 8 (JT gs gr gv S V w0) h ?_
  rintro t a w ht ⟨hF, h2, h4, h7, h17, hf, hs⟩
  have ha := fm113 hF
  by_cases h64 : t = 8
  · subst h64
    rw [h17] at ha
    rw [ha]
    exact exitT (sl a) w _ fun a' b0 b1 b2 => hQ _ _ b0 (b1.trans h2) (b2.trans h4) hf hs
  · have e1 : ((t + 1 : Nat) : Int) = (t : Int) + 1 := by omega
    rw [h2, h4, h7, h17] at ha
    have cv := cellV (hf.blk hv hn) (t : Int) (by omega) (by omega)
    rw [ha]
    refine roundT (sl a) gs gr gv t (by omega) (by omega) w0 w _ ((adds_len S V t).trans hS) _ (V.getD t 0) hs rfl cv hf _ ?_
    intro a' w' b0 b1 b2 b3 b4 b5 b6
    refine ⟨by omega, b0, b1, b2, b3, by rw [b4, e1], b5, ?_⟩
    rw [b6, adds, Int.toNat_natCast]

set_option maxHeartbeats 8000000 in
set_option maxRecDepth 100000 in
theorem Block_calls (S : List Int) (hS : S.length = 8) (A : Option Addr) (c : Nat) (P : List Int) (hP : P.length = 64) (hB : Bys P) (hc : 64 ≤ c) (w : World) (hr : Kd.C (Kd.int .u8) w A P.length P) :
    Calls Try.prog 63 #[.agg (encs (Value.int .u32) S).toArray, .slice A 64 c] w fun e w' => e = .returned (.agg (encs (Value.int .u32) (compress S P)).toArray) ∧ Below w.heap.size w w' := by
  have HR := Aside0.mk hr
  clear hr
  have hi8 : (Try.prog.info? 116).map (·.size) = some 8 := by kernel_rfl
  have hl1 : (encs (Value.int .u32) S).toArray.size = 8 := by simp [encs, hS]
  have ho1 : (encs (Value.int .u32) S).toArray.all (·.oneCell') = true := by simp [encs, Value.oneCell']
  have hl2 : (encs (Value.int .u32) (compress S P)).toArray.size = 8 := by simp [encs, compress_len, hS]
  have ho2 : (encs (Value.int .u32) (compress S P)).toArray.all (·.oneCell') = true := by simp [encs, Value.oneCell']
  have hl3 : (encs (Value.int .u32) (sched P 64)).toArray.size = 64 := by simp [encs, sched_len]
  have ho3 : (encs (Value.int .u32) (sched P 64)).toArray.all (·.oneCell') = true := by simp [encs, Value.oneCell']
  have hi64 : (Try.prog.info? 121).map (·.size) = some 64 := by kernel_rfl
  obtain ⟨c1, e1⟩ : ∃ cs, (encs (Value.int .u32) S).toArray = cs := ⟨_, rfl⟩
  obtain ⟨c2, e2⟩ : ∃ cs, (encs (Value.int .u32) (compress S P)).toArray = cs := ⟨_, rfl⟩
  obtain ⟨c3, e3⟩ : ∃ cs, (encs (Value.int .u32) (sched P 64)).toArray = cs := ⟨_, rfl⟩
  rw [e1, e2]
  rw [e1] at hl1 ho1
  rw [e2] at hl2 ho2
  rw [e3] at hl3 ho3
  have H1 := Aside0.mk (And.intro hl1 (And.intro ho1 e1))
  have H2 := Aside0.mk (And.intro hl2 (And.intro ho2 e2))
  have H3 := Aside0.mk (And.intro hl3 (And.intro ho3 e3))
  have H8 := Aside0.mk (And.intro hi8 hi64)
  clear hl1 ho1 e1 hl2 ho2 e2 hl3 ho3 e3 hi8 hi64
  go_enter Try.func63, Try.ntmps63
  go_wp2_with (first | ((with_reducible refine gate_dst (N := 2) rfl ?_); refine wpList_box_abs (by rfl) 116 _ (by rfl) c1 (by rfl) ?_; intro w1 hb1 hs1 hg1) | ((with_reducible refine gate_dst (N := 4) rfl ?_); refine wpList_alloc_abs (by rfl) 116 (by rfl) (.agg Z8) (by kernel_rfl) ?_; intro w2 hb2 hs2 hg2) | fail)
  have hl1 := H1.out.1
  have FA : Fr (fun _ => False) w w2 := (Fr.of_below hb1 _).trans (Fr.of_below hb2 (fun _ => False)) (fun i h => h.elim)
  have HB := Aside0.mk ((Fr.of_below hb2 (fun _ => False)).blk hg1 (fun h => h))
  have HG := Aside0.mk hg2
  have HF := Aside0.mk FA
  clear hb1 hg1 hb2 hg2 FA hl1
  refine (schedule_calls A c P hP hB hc w2 (HF.out.C HR.out (fun i h => h.elim))).mono ?_
  rintro e w3 ⟨rfl, hb3⟩
  rw [H3.out.2.2]
  have lt3 := hb3.size
  have hB3 := (Fr.of_below hb3 (fun _ => False)).blk HB.out (fun h => h)
  have hG3 := (Fr.of_below hb3 (fun _ => False)).blk HG.out (fun h => h)
  have F3 := HF.out.trans (Fr.of_below hb3 (fun _ => False)) (fun i h => h.elim)
  clear HF HB HG hb3
  have HB := Aside0.mk hB3
  have HG := Aside0.mk hG3
  have HF := Aside0.mk F3
  clear hB3 hG3 F3
  go_wp2_with (first | ((with_reducible refine gate_dst (N := 5) rfl ?_); refine wpList_alloc_abs (by rfl) 121 (by rfl) (.agg ZT) (by kernel_rfl) ?_; intro w4 hb4 hs4 hg4) | ((with_reducible refine gate_store (p := 5) rfl ?_); refine wpList_store_abs (by rfl) 121 _ _ (by rfl) w3.heap.size c3 (by rfl) (by rfl) 121 ZT hg4 (by rw [H3.out.1]; exact H8.out.2) (by rw [H3.out.1]; exact ZT_size) H3.out.2.1 ?_; intro w5 hf5 hs5 hg5) | fail)
  have F5 := (HF.out.trans (Fr.of_below hb4 (fun _ => False)) (fun i h => h.elim)).trans hf5 (S := fun _ => False) (fun i h => .inr (by omega))
  have hB5 := hf5.blk ((Fr.of_below hb4 (fun _ => False)).blk HB.out (fun h => h)) (fun h => by omega)
  have hG5 := hf5.blk ((Fr.of_below hb4 (fun _ => False)).blk HG.out (fun h => h)) (fun h => by omega)
  clear HF HB HG hb4 hg4 hf5
  refine (K_calls w5).mono ?_
  rintro e w6 ⟨rfl, hb6⟩
  have lt6 := hb6.size
  have HB := Aside0.mk ((Fr.of_below hb6 (fun _ => False)).blk hB5 (fun h => h))
  have HG := Aside0.mk ((Fr.of_below hb6 (fun _ => False)).blk hG5 (fun h => h))
  have HW := Aside0.mk ((Fr.of_below hb6 (fun _ => False)).blk hg5 (fun h => h))
  have HF := Aside0.mk (F5.trans (Fr.of_below hb6 (fun _ => False)) (fun i h => h.elim))
  clear hB5 hG5 hg5 F5 hb6
  go_wp2_with (first | ((with_reducible refine gate_dst (N := 6) rfl ?_); refine wpList_alloc_abs (by rfl) 121 (by rfl) (.agg ZT) (by kernel_rfl) ?_; intro w7 hb7 hs7 hg7) | ((with_reducible refine gate_store (p := 6) rfl ?_); refine wpList_store_abs (by rfl) 121 _ _ (by rfl) w6.heap.size KT (by rfl) (by rfl) 121 ZT hg7 (by rw [KT_size]; exact H8.out.2) (by rw [ZT_size, KT_size]) KT_one ?_; intro w8 hf8 hs8 hg8; have HB8 := Aside0.mk (hf8.blk ((Fr.of_below hb7 (fun _ => False)).blk HB.out (fun h => h)) (fun h => by omega))) | ((with_reducible refine gate_dst (N := 21) rfl ?_); refine wpList_load_row (by rfl) 116 _ (by rfl) w.heap.size (by rfl) _ c1 _ _ HB8.out Try.underlying116 (by rfl) (by rw [H1.out.1]; exact H8.out.1) ?_) | ((with_reducible refine gate_dst (N := 7) rfl ?_); refine wpList_alloc_abs (by rfl) 116 (by rfl) (.agg Z8) (by kernel_rfl) ?_; intro w9 hb9 hs9 hg9) | ((with_reducible refine gate_store (p := 7) rfl ?_); refine wpList_store_abs (by rfl) 116 _ _ (by rfl) w8.heap.size c1 (by rfl) (by rfl) 116 Z8 hg9 (by rw [H1.out.1]; exact H8.out.1) (by rw [H1.out.1]; exact Z8_size) H1.out.2.1 ?_; intro w10 hf10 hs10 hg10) | fail)
  have F8 := (HF.out.trans (Fr.of_below hb7 (fun _ => False)) (fun i h => h.elim)).trans hf8 (S := fun _ => False) (fun i h => .inr (by omega))
  have F10 := (F8.trans (Fr.of_below hb9 (fun _ => False)) (fun i h => h.elim)).trans hf10 (S := fun _ => False) (fun i h => .inr (by omega))
  have hG8 := hf8.blk ((Fr.of_below hb7 (fun _ => False)).blk HG.out (fun h => h)) (fun h => by omega)
  have hW8 := hf8.blk ((Fr.of_below hb7 (fun _ => False)).blk HW.out (fun h => h)) (fun h => by omega)
  have hB10 := hf10.blk ((Fr.of_below hb9 (fun _ => False)).blk HB8.out (fun h => h)) (fun h => by omega)
  have hG10 := hf10.blk ((Fr.of_below hb9 (fun _ => False)).blk hG8 (fun h => h)) (fun h => by omega)
  have hW10 := hf10.blk ((Fr.of_below hb9 (fun _ => False)).blk hW8 (fun h => h)) (fun h => by omega)
  have hK10 := hf10.blk ((Fr.of_below hb9 (fun _ => False)).blk hg8 (fun h => h)) (fun h => by omega)
  rw [← H3.out.2.2] at hW10
  rw [← H1.out.2.2] at hg10 hB10
  clear HF F8 hG8 hW8 HB HG HW HB8 hb7 hg7 hf8 hg8 hb9 hg9 hf10
  have e8 : w8.heap.size = w6.heap.size + 1 := by omega
  rw [hs1] at hG10
  rw [e8] at hg10
  refine loopR w.heap.size (w.heap.size + 1) w6.heap.size w3.heap.size (w6.heap.size + 1) Ktab (sched P 64) S 121 121 w10 hS (by decide +kernel) (sched_len _ _) hK10 hW10 (by omega) (by omega) _ ?_ _ _ ⟨⟨rfl, rfl⟩, rfl, rfl, rfl, rfl, rfl, rfl, Fr.refl _ _, hg10⟩
  intro a' w11 hF j2 j4 j7 jf jv
  rw [fm113 hF, j2, j4, j7]
  have HB := Aside0.mk (jf.blk hB10 (fun h => by omega))
  have HG := Aside0.mk (jf.blk hG10 (fun h => by omega))
  have HV := Aside0.mk jv
  have HF := Aside0.mk (F10.trans jf (S := fun _ => False) (fun i h => .inr (by omega)))
  clear hB10 hG10 jv F10 jf hF j2 j4 j7 hg10 hK10 hW10
  go_wp2
  refine loopT w.heap.size (w.heap.size + 1) (w6.heap.size + 1) S (rnds Ktab (sched P 64) S 64) 116 w11 hS ((rnds_len _ _ _ _).trans hS) HV.out (by omega) _ ?_ _ _ ⟨⟨rfl, rfl⟩, rfl, rfl, rfl, rfl, Fr.refl _ _, HB.out⟩
  intro a' w12 hF j2 j4 jf js
  rw [fm113 hF, j2, j4]
  have js2 : w12.heap[w.heap.size]? = some (.cells c2 116 (0, 0)) := by rw [← H2.out.2.2]; exact js
  have HR2 := Aside0.mk js2
  have HG2 := Aside0.mk (jf.blk HG.out (fun h => by omega))
  have HF2 := Aside0.mk (HF.out.trans jf (S := fun _ => False) (fun i h => .inr (by omega)))
  clear js js2 HB HG HV HF jf hF j2 j4
  go_wp2_with (first | ((with_reducible refine gate_dst (N := 112) rfl ?_); refine wpList_load_row (by rfl) 116 _ (by rfl) w.heap.size (by rfl) _ c2 _ _ HR2.out Try.underlying116 (by rfl) (by rw [H2.out.1]; exact H8.out.1) ?_) | ((with_reducible refine gate_store (p := 4) rfl ?_); refine wpList_store_abs (by rfl) 116 _ _ (by rfl) (w.heap.size + 1) c2 (by rfl) (by rfl) 116 Z8 HG2.out (by rw [H2.out.1]; exact H8.out.1) (by rw [H2.out.1]; exact Z8_size) H2.out.2.1 ?_; intro w13 hf13 hs13 hg13) | fail)
  refine bodyPost_ret (results_cell_row (by rfl) _ _ (w.heap.size + 1) 116 c2 (0, 0) _ (by rfl) hg13 Try.underlying116 (by rfl) (by rw [H2.out.1]; exact H8.out.1)) rfl ?_
  exact ⟨rfl, (HF2.out.trans hf13 (S := fun _ => False) (fun i h => .inr (by omega))).below _ (Nat.le_refl _) (fun i h => h.elim)⟩
end Go.Proofs.Ytnabilhcmplhcaa.Sha

/-
  The document's hash: the blocks.
-/
set_option linter.unusedVariables false
set_option linter.unusedSimpArgs false
namespace Go.Proofs.Ytnabilhcmplhcaa.Sha
open Go.RowKit Go.Proofs.YtnabilhcmplhcaaW.PrintWords Go.Proofs.YtnabilhcmplhcaaW.PrintLast Go.Proofs.YtnabilhcmplhcaaW.PrintMore Go.Proofs.Ytnabilhcmplhcaa.Q Go.Proofs.Ytnabilhcmplhcaa.Fr Go.Proofs.Ytnabilhcmplhcaa.Oct

section
variable {P : Program} {ops : Array Oper} {rest : List Oper} {o : Oper} {a : Act} {Q : Act → Prop} {w : World}
/-- A whole array is read, in a region that draws. -/
theorem wpStill_load_mid (hg : o.guard = none) (ty : TypeId) (x : Operand) (ho : o.op = .load ty x) (b off : Nat) (hx : a.eval x = .pointer (some ⟨b, off, none⟩)) (cs : List Value) (d : TypeDesc) (hc : w.rangeAt b off cs)
    (hu : P.underlying ty = some d) (hd : d.isRow = true) (hi : (P.info? ty).map (·.size) = some cs.length) (h : wpStill P ops w Q rest (a.put o.dst (.agg cs.toArray))) : wpStill P ops w Q (o :: rest) a := by
  refine wpStill_step (fun K hK => ?_)
  have hw : Region.wanted o (yielded ops a.tmps) = true := by simp [Region.wanted, hg]
  rw [if_pos hw]
  unfold Oper.still execOp
  simp only [ho, hx, Instr.loadAt, Instr.sureAddr, Sem.run_bind, Sem.run_pure, Result.andThen_ok, run_loadVar_mid w b off ty cs d hc hu hd hi, Oper.stillUpon]
  exact ⟨trivial, hK _ h⟩
end
set_option maxHeartbeats 8000000 in
set_option maxRecDepth 100000 in
theorem roundM (u : Nat → Value) (gs : Nat) (A : Option Addr) (c : Nat) (m : List Int) (t n : Nat) (hn : m.length = 64 * n) (ht : t < n) (hl : m.length ≤ 140737488355328) (hc : m.length ≤ c) (hB : Bys m) (S : List Int) (hS : S.length = 8) (w0 w : World)
    (hs : w.heap[gs]? = some (.cells (encs (Value.int .u32) S).toArray 116 (0, 0))) (hr : Rd w A m) (hf : Fr (fun k => k = gs) w0 w) (hg0 : gs < w0.heap.size)
    (Q : Exit → Act → World → Prop) (hQ : ∀ a' w', Fm 46 a' → sl a' 3 = .pointer (some ⟨gs, 0, none⟩) → sl a' 4 = .slice A m.length c → sl a' 5 = .int .i64 (64 * (t : Int) + 64) → Fr (fun k => k = gs) w0 w' → w'.heap[gs]? = some (.cells (encs (Value.int .u32) (compress S ((m.drop (64 * t)).take 64))).toArray 116 (0, 0)) → Q .normal a' w') :
    Code.wp Try.prog (bodyN Try.f58 0) Q ⟨#[u 0, u 1, u 2, .pointer (some ⟨gs, 0, none⟩), .slice A m.length c, .int .i64 (64 * (t : Int)), u 6, u 7, u 8, u 9, u 10, u 11, u 12, u 13, u 14, u 15, u 16, u 17, u 18, u 19, u 20, u 21, u 22, u 23, u 24, u 25, u 26, u 27, u 28, u 29, u 30, u 31, u 32, u 33, u 34, u 35, u 36, u 37, u 38, u 39, u 40, u 41, u 42, u 43, u 44, u 45], []⟩ w := by
  have hi8 : (Try.prog.info? 116).map (·.size) = some 8 := by kernel_rfl
  have hlP : ((m.drop (64 * t)).take 64).length = 64 := by rw [List.length_take, List.length_drop]; omega
  have hl2 : (encs (Value.int .u32) (compress S ((m.drop (64 * t)).take 64))).toArray.size = 8 := by simp [encs, compress_len, hS]
  have ho2 : (encs (Value.int .u32) (compress S ((m.drop (64 * t)).take 64))).toArray.all (·.oneCell') = true := by simp [encs, Value.oneCell']
  have hl1 : (encs (Value.int .u32) S).toArray.size = 8 := by simp [encs, hS]
  have hbl := fun (w3 : World) (h3 : Rd w3 A m) => Block_calls S hS (A.map (·.add (64 * t))) (c - 64 * t) ((m.drop (64 * t)).take 64) hlP ((hB.drop _).take _) (by omega) w3 ((h3.mid (64 * t) 64).C (by omega))
  obtain ⟨i0, hi0, _, hsz, _⟩ := info_parts info5
  have hcut := cut_mid (P := Try.prog) 29 5 .i64 .i64 Try.underlying29 hi0 1 hsz A m.length c (64 * (t : Int)) (64 * (t : Int) + 64) (by omega) (by omega) (by omega) hc
  rw [show (64 * (t : Int)).toNat = 64 * t by omega, if_neg (by omega), Nat.mul_one, show (64 * (t : Int) + 64).toNat - 64 * t = 64 by omega] at hcut
  obtain ⟨c1, e1⟩ : ∃ cs, (encs (Value.int .u32) S).toArray = cs := ⟨_, rfl⟩
  obtain ⟨c2, e2⟩ : ∃ cs, (encs (Value.int .u32) (compress S ((m.drop (64 * t)).take 64))).toArray = cs := ⟨_, rfl⟩
  have hrg : ∀ w3 : World, w3.heap[gs]? = some (.cells c1 116 (0, 0)) → w3.rangeAt gs 0 (encs (Value.int .u32) S) := fun w3 h3 => rangeS (tl := []) (by rw [List.append_nil, e1]; exact h3)
  have hlS : (encs (Value.int .u32) S).length = 8 := by rw [encs_len, hS]
  rw [e1] at hs hbl hl1
  rw [e2] at hQ hl2 ho2 hbl
  have HX := Aside0.mk (And.intro hl2 (And.intro ho2 (And.intro hi8 (And.intro hbl (And.intro hl1 (And.intro e1 (And.intro hrg (And.intro hlS hn))))))))
  clear hl2 ho2 hi8 hbl hl1 hrg hlS e1 e2
  have c0 : decide (64 * (t : Int) < (m.length : Int)) = true := decide_eq_true (by omega)
  have e5 : IntKind.i64.wrap (64 * (t : Int) + 64) = 64 * (t : Int) + 64 := IntWalk.i64_in _ (by omega)
  clear hn
  conv => arg 2; whnf
  go_wp2
  refine region_tail 6 (by kernel_rfl) (by kernel_rfl) ?_
  intro w3 e3
  have hs3 : w3.heap[gs]? = some (.cells c1 116 (0, 0)) := by rw [e3]; exact hs
  have hf3 : Fr (fun k => k = gs) w0 w3 := by rw [e3]; exact hf.of_drew
  have hr3 : Rd w3 A m := by rw [e3]; exact hr
  clear hs hf hr e3
  have HS := Aside0.mk (And.intro hs3 (And.intro hf3 hr3))
  clear hs3 hf3 hr3
  simp only [List.take_succ_cons, List.take_zero, List.drop_succ_cons, List.drop_zero]
  refine wpStill_load_mid (by rfl) 116 _ (by rfl) gs 0 (by rfl) (encs (Value.int .u32) S) _ (HX.out.2.2.2.2.2.2.1 w3 HS.out.1) Try.underlying116 (by rfl) (by rw [HX.out.2.2.2.2.2.2.2.1]; exact HX.out.2.2.1) ?_
  rw [HX.out.2.2.2.2.2.1]
  repeat still_step
  refine wpStill_nil ?_
  clear hcut
  go_wp2_with (fail)
  refine (HX.out.2.2.2.1 w3 HS.out.2.2).mono ?_
  rintro e w4 ⟨rfl, hb4⟩
  have hs4 := (Fr.of_below hb4 (fun _ => False)).blk HS.out.1 (fun h => h)
  have hf4 := HS.out.2.1.trans (Fr.of_below hb4 (fun _ => False)) (fun i h => h.elim)
  clear HS hb4
  have HF := Aside0.mk hf4
  clear hf4
  go_wp2_with (first | ((with_reducible refine gate_store (p := 3) rfl ?_); refine wpList_store_abs (by rfl) 116 _ _ (by rfl) gs c2 (by rfl) (by rfl) 116 c1 hs4 (by rw [HX.out.1]; exact HX.out.2.2.1) (by rw [HX.out.1]; exact HX.out.2.2.2.2.1) HX.out.2.1 ?_; intro w5 hf5 hs5 hg5) | fail)
  refine hQ _ _ ⟨rfl, rfl⟩ rfl rfl rfl ?_ hg5
  exact HF.out.trans hf5 (fun i h => .inl h)
set_option maxHeartbeats 8000000 in
set_option maxRecDepth 100000 in
theorem exitM (u : Nat → Value) (A : Option Addr) (c k : Nat) (w : World) (Q : Exit → Act → World → Prop) (hQ : ∀ a', Fm 46 a' → sl a' 3 = u 3 → Q (.exit 0) a' w) :
    Code.wp Try.prog (bodyN Try.f58 0) Q ⟨#[u 0, u 1, u 2, u 3, .slice A k c, .int .i64 (k : Int), u 6, u 7, u 8, u 9, u 10, u 11, u 12, u 13, u 14, u 15, u 16, u 17, u 18, u 19, u 20, u 21, u 22, u 23, u 24, u 25, u 26, u 27, u 28, u 29, u 30, u 31, u 32, u 33, u 34, u 35, u 36, u 37, u 38, u 39, u 40, u 41, u 42, u 43, u 44, u 45], []⟩ w := by
  conv => arg 2; whnf
  have c0 : decide ((k : Int) < (k : Int)) = false := by simp
  go_wp2
  exact hQ _ ⟨rfl, rfl⟩ rfl
def JM (gs : Nat) (A : Option Addr) (c : Nat) (m : List Int) (w0 : World) (t : Nat) (a : Act) (w : World) : Prop :=
  Fm 46 a ∧ sl a 3 = .pointer (some ⟨gs, 0, none⟩) ∧ sl a 4 = .slice A m.length c ∧ sl a 5 = .int .i64 ((64 * t : Nat) : Int) ∧
    Fr (fun k => k = gs) w0 w ∧ w.heap[gs]? = some (.cells (encs (Value.int .u32) (run t S0 m)).toArray 116 (0, 0))
theorem loopM (gs : Nat) (A : Option Addr) (c : Nat) (m : List Int) (n : Nat) (hn : m.length = 64 * n) (hl : m.length ≤ 140737488355328) (hc : m.length ≤ c) (hB : Bys m) (w0 : World) (hr : ∀ w, Fr (fun k => k = gs) w0 w → Rd w A m) (hg0 : gs < w0.heap.size)
    (Q : Exit → Act → World → Prop) (hQ : ∀ a' w', Fm 46 a' → sl a' 3 = .pointer (some ⟨gs, 0, none⟩) → Fr (fun k => k = gs) w0 w' → w'.heap[gs]? = some (.cells (encs (Value.int .u32) (run n S0 m)).toArray 116 (0, 0)) → Q (.exit 0) a' w')
    (a : Act) (w : World) (h : JM gs A c m w0 0 a w) : (Code.loop (bodyN Try.f58 0)).wp Try.prog Q a w := by
  refine wp_loop_up n (JM gs A c m w0) h ?_
  rintro t a w ht ⟨hF, h3, h4, h5, hf, hs⟩
  have ha := fm46 hF
  by_cases h64 : t = n
  · subst h64
    rw [h4, h5, ← hn] at ha
    rw [ha]
    exact exitM (sl a) A c m.length w _ fun a' b0 b1 => hQ _ _ b0 (b1.trans h3) hf hs
  · have e1 : ((64 * t : Nat) : Int) = 64 * (t : Int) := by omega
    have e2 : ((64 * (t + 1) : Nat) : Int) = 64 * (t : Int) + 64 := by omega
    rw [h3, h4, h5, e1] at ha
    rw [ha]
    refine roundM (sl a) gs A c m t n hn (by omega) hl hc hB _ ((run_len t S0 m).trans rfl) w0 w hs (hr w hf) hf hg0 _ ?_
    intro a' w' b0 b1 b2 b3 b4 b5
    refine ⟨by omega, b0, b1, b2, by rw [b3, e2], b4, ?_⟩
    rw [b5, run_succ]

/-! ### the words written out -/
theorem idx8 (S : List Int) (hS : S.length = 8) (t : Nat) (ht : t < 8) (w : World) : (Instr.index 116 (.agg (encs (Value.int .u32) S).toArray) (.int .i64 (t : Int))).run Try.prog w = .ok (.int .u32 (S.getD t 0)) w := by
  obtain ⟨va, vb, vc, vd, ve, vf, vg, vh, rfl⟩ := eight hS
  rcases (show t = 0 ∨ t = 1 ∨ t = 2 ∨ t = 3 ∨ t = 4 ∨ t = 5 ∨ t = 6 ∨ t = 7 by omega) with rfl|rfl|rfl|rfl|rfl|rfl|rfl|rfl <;> kernel_rfl
end Go.Proofs.Ytnabilhcmplhcaa.Sha

/-
  The document's hash: the words written out.
-/
set_option linter.unusedVariables false
set_option linter.unusedSimpArgs false
namespace Go.Proofs.Ytnabilhcmplhcaa.Sha
open Go.RowKit Go.Proofs.YtnabilhcmplhcaaW.PrintWords Go.Proofs.YtnabilhcmplhcaaW.PrintLast Go.Proofs.YtnabilhcmplhcaaW.PrintMore Go.Proofs.Ytnabilhcmplhcaa.Q Go.Proofs.Ytnabilhcmplhcaa.Fr Go.Proofs.Ytnabilhcmplhcaa.Oct

/-- The byte of a word from 8 i on. -/
def byteAt (x : Int) (i : Nat) : Int := x / 2 ^ (8 * i) % 256
theorem bytes4_at (x : Int) : bytes4 x = [byteAt x 3, byteAt x 2, byteAt x 1, byteAt x 0] := by
  simp [bytes4, byteAt]
set_option maxHeartbeats 8000000 in
set_option maxRecDepth 100000 in
theorem roundP (u : Nat → Value) (v : Value) (x : Int) (i : Nat) (hi : i = 3 ∨ i = 2 ∨ i = 1 ∨ i = 0) (xs : List Int) (base : Nat) (w0 w : World) (hb0 : w0.heap.size ≤ base) (hb : base ≤ w.heap.size) (hl : xs.length < 1000) (hq : OB w base v xs) (hf : Fr (fun _ => False) w0 w)
    (Q : Exit → Act → World → Prop) (hQ : ∀ a' w' v', Fm 46 a' → sl a' 6 = v' → sl a' 8 = .int .u32 x → sl a' 9 = .int .i64 ((i : Int) - 1) → sl a' 27 = u 27 → sl a' 28 = u 28 → OB w' base v' (xs ++ [byteAt x i]) → Fr (fun _ => False) w0 w' → base ≤ w'.heap.size → Q .normal a' w') :
    Code.wp Try.prog (bodyIn Try.f58 1 0) Q ⟨#[u 0, u 1, u 2, u 3, u 4, u 5, v, u 7, .int .u32 x, .int .i64 (i : Int), u 10, u 11, u 12, u 13, u 14, u 15, u 16, u 17, u 18, u 19, u 20, u 21, u 22, u 23, u 24, u 25, u 26, u 27, u 28, u 29, u 30, u 31, u 32, u 33, u 34, u 35, u 36, u 37, u 38, u 39, u 40, u 41, u 42, u 43, u 44, u 45], []⟩ w := by
  have HQ := Aside0.mk hq
  have HF := Aside0.mk hf
  obtain ⟨A, c, rfl, _⟩ := hq.slice
  clear hq hf
  rcases hi with rfl | rfl | rfl | rfl
  · have hbt : byteAt x 3 = x / 16777216 % 256 := by simp [byteAt]
    rw [hbt] at hQ
    conv => arg 2; whnf
    go_wp2_with (first | ((with_reducible refine gate_builtin (b := .append) (xs := #[.tmp 35, .tmp 42]) rfl ?_); at_builtin; refine Aside0.out ?_))
    refine ⟨?_⟩
    refine wpList_appo rfl (by rfl) base _ _ (by rfl) info5 (.slice A xs.length c) xs (by rfl) (HQ.out.fr ((Fr.refl (fun _ => False) w).alloc _) (fun k hk h => h)) _ _ _ [x / 16777216 % 256] (by rfl) (by rfl) (Rd.blk (heap_alloc_new _ _)) (by simp) (by simp only [List.length_cons, List.length_nil]; omega) (by rw [World.size_alloc]; omega) ?_
    intro v1 w1 hq1 hf1 hat1
    have hF1 := (HF.out.alloc (.cells #[Value.int .u8 (x / 16777216 % 256)] 5)).trans hf1 (S := fun _ => False) (fun k hk => .inr (by have := HQ.out.base k hk.symm; omega))
    have hs1 := hf1.size
    rw [World.size_alloc] at hs1
    clear hf1 HF HQ
    go_wp2
    exact hQ _ _ _ ⟨rfl, rfl⟩ rfl rfl rfl rfl rfl hq1 hF1 (by omega)
  · have hbt : byteAt x 2 = x / 65536 % 256 := by simp [byteAt]
    rw [hbt] at hQ
    conv => arg 2; whnf
    go_wp2_with (first | ((with_reducible refine gate_builtin (b := .append) (xs := #[.tmp 35, .tmp 42]) rfl ?_); at_builtin; refine Aside0.out ?_))
    refine ⟨?_⟩
    refine wpList_appo rfl (by rfl) base _ _ (by rfl) info5 (.slice A xs.length c) xs (by rfl) (HQ.out.fr ((Fr.refl (fun _ => False) w).alloc _) (fun k hk h => h)) _ _ _ [x / 65536 % 256] (by rfl) (by rfl) (Rd.blk (heap_alloc_new _ _)) (by simp) (by simp only [List.length_cons, List.length_nil]; omega) (by rw [World.size_alloc]; omega) ?_
    intro v1 w1 hq1 hf1 hat1
    have hF1 := (HF.out.alloc (.cells #[Value.int .u8 (x / 65536 % 256)] 5)).trans hf1 (S := fun _ => False) (fun k hk => .inr (by have := HQ.out.base k hk.symm; omega))
    have hs1 := hf1.size
    rw [World.size_alloc] at hs1
    clear hf1 HF HQ
    go_wp2
    exact hQ _ _ _ ⟨rfl, rfl⟩ rfl rfl rfl rfl rfl hq1 hF1 (by omega)
  · have hbt : byteAt x 1 = x / 256 % 256 := by simp [byteAt]
    rw [hbt] at hQ
    conv => arg 2; whnf
    go_wp2_with (first | ((with_reducible refine gate_builtin (b := .append) (xs := #[.tmp 35, .tmp 42]) rfl ?_); at_builtin; refine Aside0.out ?_))
    refine ⟨?_⟩
    refine wpList_appo rfl (by rfl) base _ _ (by rfl) info5 (.slice A xs.length c) xs (by rfl) (HQ.out.fr ((Fr.refl (fun _ => False) w).alloc _) (fun k hk h => h)) _ _ _ [x / 256 % 256] (by rfl) (by rfl) (Rd.blk (heap_alloc_new _ _)) (by simp) (by simp only [List.length_cons, List.length_nil]; omega) (by rw [World.size_alloc]; omega) ?_
    intro v1 w1 hq1 hf1 hat1
    have hF1 := (HF.out.alloc (.cells #[Value.int .u8 (x / 256 % 256)] 5)).trans hf1 (S := fun _ => False) (fun k hk => .inr (by have := HQ.out.base k hk.symm; omega))
    have hs1 := hf1.size
    rw [World.size_alloc] at hs1
    clear hf1 HF HQ
    go_wp2
    exact hQ _ _ _ ⟨rfl, rfl⟩ rfl rfl rfl rfl rfl hq1 hF1 (by omega)
  · have hbt : byteAt x 0 = x % 256 := by simp [byteAt]
    rw [hbt] at hQ
    conv => arg 2; whnf
    go_wp2_with (first | ((with_reducible refine gate_builtin (b := .append) (xs := #[.tmp 35, .tmp 42]) rfl ?_); at_builtin; refine Aside0.out ?_))
    refine ⟨?_⟩
    refine wpList_appo rfl (by rfl) base _ _ (by rfl) info5 (.slice A xs.length c) xs (by rfl) (HQ.out.fr ((Fr.refl (fun _ => False) w).alloc _) (fun k hk h => h)) _ _ _ [x % 256] (by rfl) (by rfl) (Rd.blk (heap_alloc_new _ _)) (by simp) (by simp only [List.length_cons, List.length_nil]; omega) (by rw [World.size_alloc]; omega) ?_
    intro v1 w1 hq1 hf1 hat1
    have hF1 := (HF.out.alloc (.cells #[Value.int .u8 (x % 256)] 5)).trans hf1 (S := fun _ => False) (fun k hk => .inr (by have := HQ.out.base k hk.symm; omega))
    have hs1 := hf1.size
    rw [World.size_alloc] at hs1
    clear hf1 HF HQ
    go_wp2
    exact hQ _ _ _ ⟨rfl, rfl⟩ rfl rfl rfl rfl rfl hq1 hF1 (by omega)
end Go.Proofs.Ytnabilhcmplhcaa.Sha

/-
  The document's hash, whole.
-/
set_option linter.unusedVariables false
set_option linter.unusedSimpArgs false
namespace Go.Proofs.Ytnabilhcmplhcaa.Sha
open Go.RowKit Go.Proofs.YtnabilhcmplhcaaW.PrintWords Go.Proofs.YtnabilhcmplhcaaW.PrintLast Go.Proofs.YtnabilhcmplhcaaW.PrintMore Go.Proofs.Ytnabilhcmplhcaa.Q Go.Proofs.Ytnabilhcmplhcaa.Fr Go.Proofs.Ytnabilhcmplhcaa.Oct

set_option maxHeartbeats 8000000 in
set_option maxRecDepth 100000 in
theorem exitP (u : Nat → Value) (w : World) (Q : Exit → Act → World → Prop) (hQ : ∀ a', Fm 46 a' → sl a' 6 = u 6 → sl a' 27 = u 27 → sl a' 28 = u 28 → Q (.exit 4) a' w) :
    Code.wp Try.prog (bodyIn Try.f58 1 0) Q ⟨#[u 0, u 1, u 2, u 3, u 4, u 5, u 6, u 7, u 8, .int .i64 (-1), u 10, u 11, u 12, u 13, u 14, u 15, u 16, u 17, u 18, u 19, u 20, u 21, u 22, u 23, u 24, u 25, u 26, u 27, u 28, u 29, u 30, u 31, u 32, u 33, u 34, u 35, u 36, u 37, u 38, u 39, u 40, u 41, u 42, u 43, u 44, u 45], []⟩ w := by
  conv => arg 2; whnf
  go_wp2
  exact hQ _ ⟨rfl, rfl⟩ rfl rfl rfl
def JP (S27 S28 : Value) (x : Int) (xs : List Int) (base : Nat) (w0 : World) (t : Nat) (a : Act) (w : World) : Prop :=
  Fm 46 a ∧ sl a 8 = .int .u32 x ∧ sl a 9 = .int .i64 (3 - (t : Int)) ∧ sl a 27 = S27 ∧ sl a 28 = S28 ∧ OB w base (sl a 6) (xs ++ (bytes4 x).take t) ∧ Fr (fun _ => False) w0 w ∧ base ≤ w.heap.size
theorem loopP (S27 S28 : Value) (x : Int) (xs : List Int) (base : Nat) (w0 : World) (hb0 : w0.heap.size ≤ base) (hl : xs.length < 900)
    (Q : Exit → Act → World → Prop) (hQ : ∀ a' w', Fm 46 a' → sl a' 27 = S27 → sl a' 28 = S28 → OB w' base (sl a' 6) (xs ++ bytes4 x) → Fr (fun _ => False) w0 w' → base ≤ w'.heap.size → Q (.exit 4) a' w')
    (a : Act) (w : World) (h : JP S27 S28 x xs base w0 0 a w) : (Code.loop (bodyIn Try.f58 1 0)).wp Try.prog Q a w := by
  refine wp_loop_up 4 (JP S27 S28 x xs base w0) h ?_
  rintro t a w ht ⟨hF, h8, h9, h27, h28, hq, hf, hb⟩
  have ha := fm46 hF
  by_cases h64 : t = 4
  · subst h64
    rw [h9] at ha
    rw [ha]
    exact exitP (sl a) w _ fun a' b0 b1 b2 b3 => hQ _ _ b0 (b2.trans h27) (b3.trans h28) (by rw [b1]; exact hq) hf hb
  · have e1 : (3 - (t : Int)) = ((3 - t : Nat) : Int) := by omega
    rw [h8, h9, e1] at ha
    rw [ha]
    have hx : (xs ++ (bytes4 x).take t) ++ [byteAt x (3 - t)] = xs ++ (bytes4 x).take (t + 1) := by
      rw [bytes4_at, List.append_assoc]
      congr 1
      rcases (show t = 0 ∨ t = 1 ∨ t = 2 ∨ t = 3 by omega) with rfl|rfl|rfl|rfl <;> rfl
    have hlt : (xs ++ (bytes4 x).take t).length < 1000 := by rw [List.length_append, List.length_take, bytes4]; simp only [List.length_cons, List.length_nil]; omega
    refine roundP (sl a) (sl a 6) x (3 - t) (by omega) _ base w0 w hb0 hb hlt hq hf _ ?_
    intro a' w' v' b0 b1 b2 b3 b4 b5 b6 b7 b8
    refine ⟨by omega, b0, b2, by rw [b3]; congr 1; omega, b4.trans h27, b5.trans h28, ?_, b7, b8⟩
    rw [b1, ← hx]
    exact b6

set_option maxHeartbeats 8000000 in
set_option maxRecDepth 100000 in
theorem roundO (u : Nat → Value) (v : Value) (S : List Int) (hS : S.length = 8) (t : Nat) (ht : t < 8) (xs : List Int) (base : Nat) (w0 w : World) (hb0 : w0.heap.size ≤ base) (hb : base ≤ w.heap.size) (hl : xs.length < 900) (hq : OB w base v xs) (hf : Fr (fun _ => False) w0 w)
    (Q : Exit → Act → World → Prop) (hQ : ∀ a' w', Fm 46 a' → sl a' 27 = .agg (encs (Value.int .u32) S).toArray → sl a' 28 = .int .i64 ((t : Int) + 1) → OB w' base (sl a' 6) (xs ++ bytes4 (S.getD t 0)) → Fr (fun _ => False) w0 w' → base ≤ w'.heap.size → Q .normal a' w') :
    Code.wp Try.prog (bodyN Try.f58 1) Q ⟨#[u 0, u 1, u 2, u 3, u 4, u 5, v, u 7, u 8, u 9, u 10, u 11, u 12, u 13, u 14, u 15, u 16, u 17, u 18, u 19, u 20, u 21, u 22, u 23, u 24, u 25, u 26, .agg (encs (Value.int .u32) S).toArray, .int .i64 (t : Int), u 29, u 30, u 31, u 32, u 33, u 34, u 35, u 36, u 37, u 38, u 39, u 40, u 41, u 42, u 43, u 44, u 45], []⟩ w := by
  have hix := idx8 S hS t ht
  obtain ⟨c1, e1⟩ : ∃ cs, (encs (Value.int .u32) S).toArray = cs := ⟨_, rfl⟩
  rw [e1] at hix hQ
  rw [e1]
  obtain ⟨x, hx⟩ : ∃ x, S.getD t 0 = x := ⟨_, rfl⟩
  rw [hx] at hix hQ
  have HQ := Aside0.mk hq
  have HF := Aside0.mk hf
  clear hq hf e1 hx
  have c0 : decide ((t : Int) < 8) = true := decide_eq_true (by omega)
  conv => arg 2; whnf
  go_wp2
  refine loopP (.agg c1) (.int .i64 (t : Int)) x xs base w0 hb0 hl _ ?_ _ _ ⟨⟨rfl, rfl⟩, rfl, rfl, rfl, rfl, by rw [List.take_zero, List.append_nil]; exact HQ.out, HF.out, hb⟩
  intro a' w' hFm j27 j28 jq jf jb
  have hv : ∃ v', sl a' 6 = v' := ⟨_, rfl⟩
  obtain ⟨v', hv⟩ := hv
  rw [hv] at jq
  rw [fm46 hFm, j27, j28, hv]
  clear HQ HF hFm j27 j28 hv hix
  go_wp2
  exact hQ _ _ ⟨rfl, rfl⟩ rfl rfl jq jf jb
set_option maxHeartbeats 8000000 in
set_option maxRecDepth 100000 in
theorem exitO (u : Nat → Value) (w : World) (Q : Exit → Act → World → Prop) (hQ : ∀ a', Fm 46 a' → sl a' 6 = u 6 → Q (.exit 2) a' w) :
    Code.wp Try.prog (bodyN Try.f58 1) Q ⟨#[u 0, u 1, u 2, u 3, u 4, u 5, u 6, u 7, u 8, u 9, u 10, u 11, u 12, u 13, u 14, u 15, u 16, u 17, u 18, u 19, u 20, u 21, u 22, u 23, u 24, u 25, u 26, u 27, .int .i64 8, u 29, u 30, u 31, u 32, u 33, u 34, u 35, u 36, u 37, u 38, u 39, u 40, u 41, u 42, u 43, u 44, u 45], []⟩ w := by
  conv => arg 2; whnf
  go_wp2
  exact hQ _ ⟨rfl, rfl⟩ rfl
def JO (S : List Int) (base : Nat) (w0 : World) (t : Nat) (a : Act) (w : World) : Prop :=
  Fm 46 a ∧ sl a 27 = .agg (encs (Value.int .u32) S).toArray ∧ sl a 28 = .int .i64 (t : Int) ∧ OB w base (sl a 6) (outB (S.take t)) ∧ Fr (fun _ => False) w0 w ∧ base ≤ w.heap.size
theorem loopO (S : List Int) (hS : S.length = 8) (base : Nat) (w0 : World) (hb0 : w0.heap.size ≤ base)
    (Q : Exit → Act → World → Prop) (hQ : ∀ a' w', Fm 46 a' → OB w' base (sl a' 6) (outB S) → Fr (fun _ => False) w0 w' → Q (.exit 2) a' w')
    (a : Act) (w : World) (h : JO S base w0 0 a w) : (Code.loop (bodyN Try.f58 1)).wp Try.prog Q a w := by
  refine wp_loop_up 8 (JO S base w0) h ?_
  rintro t a w ht ⟨hF, h27, h28, hq, hf, hb⟩
  have ha := fm46 hF
  by_cases h64 : t = 8
  · subst h64
    rw [h28] at ha
    rw [List.take_of_length_le (by omega)] at hq
    rw [ha]
    exact exitO (sl a) w _ fun a' b0 b1 => hQ _ _ b0 (by rw [b1]; exact hq) hf
  · rw [h27, h28] at ha
    rw [ha]
    refine roundO (sl a) (sl a 6) S hS t (by omega) _ base w0 w hb0 hb (by rw [outB_len, List.length_take]; omega) hq hf _ ?_
    intro a' w' b0 b1 b2 b3 b4 b5
    refine ⟨by omega, b0, b1, by rw [b2]; congr 1, ?_, b4, b5⟩
    rw [outB_take S t (by omega)]
    exact b3

/-! ### the padding -/
theorem pad_zeros (x0 : List Int) : ∀ (z k : Nat) (x3 : List Int), (x3.length + z) % 64 = 56 → z < 64 → x3.length + z < 140737488355328 →
    catenaryref02_Pad.l0 (k + z + 1) x0 x3 = catenaryref02_Pad.l1 k (x3 ++ List.replicate z 0) (IntKind.u64.wrap (IntKind.u64.wrap (x0.length : Int) * 8)) 7
  | 0, k, x3, h, _, hl => by
    rw [Nat.add_zero, catenaryref02_Pad.l0, if_pos (by omega), List.replicate_zero, List.append_nil]
  | z + 1, k, x3, h, hz, hl => by
    rw [catenaryref02_Pad.l0, if_neg (by omega), if_pos (by omega), show k + (z + 1) = k + z + 1 by omega, pad_zeros x0 z k (x3 ++ [0]) (by rw [List.length_append, List.length_singleton]; omega) (by omega) (by rw [List.length_append, List.length_singleton]; omega), List.append_assoc]
    rfl
theorem pad_step (k : Nat) (x3 : List Int) (n i : Int) (hi : 0 ≤ i ∧ i ≤ 7) (hl : x3.length < 140737488355328) : catenaryref02_Pad.l1 (k + 1) x3 n i = catenaryref02_Pad.l1 k (x3 ++ [n / 2 ^ (8 * i).toNat % 256]) n (i - 1) := by
  have e : ∀ i : Int, i = 0 ∨ i = 1 ∨ i = 2 ∨ i = 3 ∨ i = 4 ∨ i = 5 ∨ i = 6 ∨ i = 7 → IntKind.u64.wrap (wrap64 (8 * i)) = 8 * i ∧ wrap64 (i - 1) = i - 1 := by
    rintro i (rfl|rfl|rfl|rfl|rfl|rfl|rfl|rfl) <;> exact ⟨by decide +kernel, by decide +kernel⟩
  obtain ⟨e1, e2⟩ := e i (by omega)
  rw [catenaryref02_Pad.l1, if_pos (by omega), e1, if_pos (by omega), if_pos hl, e2]
  unfold shr
  rw [show min (8 * i).toNat IntKind.u64.bits = (8 * i).toNat from Nat.min_eq_left (show (8 * i).toNat ≤ 64 by omega)]
theorem pad_bytes (x3 : List Int) (n : Int) (hl : x3.length < 140737488355300) : catenaryref02_Pad.l1 9 x3 n 7 = some (x3 ++ be8 n) := by
  have l : ∀ (ys : List Int), ys.length ≤ 10 → (x3 ++ ys).length < 140737488355328 := fun ys h => by rw [List.length_append]; omega
  rw [pad_step 8 _ n 7 (by decide) (by omega)]
  rw [pad_step 7 _ n _ (by decide) (l _ (by simp))]
  rw [List.append_assoc, pad_step 6 _ n _ (by decide) (l _ (by simp))]
  rw [List.append_assoc, pad_step 5 _ n _ (by decide) (l _ (by simp))]
  rw [List.append_assoc, pad_step 4 _ n _ (by decide) (l _ (by simp))]
  rw [List.append_assoc, pad_step 3 _ n _ (by decide) (l _ (by simp))]
  rw [List.append_assoc, pad_step 2 _ n _ (by decide) (l _ (by simp))]
  rw [List.append_assoc, pad_step 1 _ n _ (by decide) (l _ (by simp))]
  rw [catenaryref02_Pad.l1, if_neg (by decide), List.append_assoc]
  simp [be8]
theorem pad_f (l : List Int) (hl : l.length < 140737488355000) : ∃ k, catenaryref02_Pad.f k l = some (padded l) := by
  refine ⟨9 + zpad l.length + 1, ?_⟩
  have e : IntKind.u64.wrap (IntKind.u64.wrap (l.length : Int) * 8) = (l.length : Int) * 8 := by simp only [IntKind.wrap_u64]; omega
  unfold catenaryref02_Pad.f
  simp only [Option.bind_some, List.nil_append, List.length_nil]
  rw [if_pos (by omega), if_pos (by omega), pad_zeros l (zpad l.length) 9 (l ++ [128]) (by rw [List.length_append, List.length_singleton, zpad]; omega) (by rw [zpad]; omega) (by rw [List.length_append, List.length_singleton, zpad]; omega), e]
  rw [pad_bytes _ _ (by rw [List.length_append, List.length_append, List.length_replicate, List.length_singleton, zpad]; omega)]
  rw [padded, tailB, List.append_assoc, List.append_assoc]
  rfl
theorem padded_len (l : List Int) : (padded l).length = 64 * ((padded l).length / 64) ∧ (padded l).length ≤ l.length + 73 := by
  have := tail_len l.length
  have h2 : (padded l).length = l.length + (tailB l.length).length := by rw [padded, List.length_append]
  have h3 : (tailB l.length).length ≤ 73 := by simp only [tailB, List.length_cons, List.length_append, List.length_replicate, be8, List.length_nil, zpad]; omega
  omega

set_option maxHeartbeats 8000000 in
set_option maxRecDepth 100000 in
theorem rsum_calls (A : Option Addr) (c : Nat) (l : List Int) (w : World) (hr : Kd.C (Kd.int .u8) w A l.length l) (hc : l.length ≤ c) (hB : Bys l) (hl : l.length < 140737488355000) :
    Calls Try.prog 58 #[.slice A l.length c] w fun e w' => ∃ v : Value, e = .returned v ∧ OB w' w.heap.size v (sha l) ∧ Below w.heap.size w w' := by
  obtain ⟨k, hk⟩ := pad_f l hl
  have HR := Aside0.mk (And.intro hr (And.intro hc hk))
  clear hr hc hk
  have hi8 : (Try.prog.info? 116).map (·.size) = some 8 := by kernel_rfl
  go_enter Try.func58, Try.ntmps58
  go_wp2_with (first | ((with_reducible refine gate_dst (N := 10) rfl ?_); refine wpList_build_abs (by rfl) 116 _ (by rfl) (encs (Value.int .u32) S0).toArray (by kernel_rfl) ?_) | ((with_reducible refine gate_dst (N := 3) rfl ?_); refine wpList_alloc_abs (by rfl) 116 (by rfl) (.agg Z8) (by kernel_rfl) ?_; intro w1 hb1 hs1 hg1) | ((with_reducible refine gate_store (p := 3) rfl ?_); refine wpList_store_abs (by rfl) 116 _ _ (by rfl) w.heap.size (encs (Value.int .u32) S0).toArray (by rfl) (by rfl) 116 Z8 hg1 (by kernel_rfl) (by decide +kernel) (by decide +kernel) ?_; intro w2 hf2 hs2 hg2) | fail)
  have F2 : Fr (fun _ => False) w w2 := (Fr.of_below hb1 _).trans hf2 (fun i h => .inr (by omega))
  have HG := Aside0.mk hg2
  have HF := Aside0.mk F2
  clear hb1 hg1 hf2 hg2 F2
  refine (catenaryref02_Pad.calls k A c l _ w2 (HF.out.C HR.out.1 (fun i h => h.elim)) HR.out.2.1 HR.out.2.2).mono ?_
  rintro e w3 ⟨v, rfl, hR, hb3⟩
  have hq : QB w3 w2.heap.size v (padded l) := q_of_own (Kd.own_of_R hR)
  obtain ⟨Am, cm, rfl, hcm⟩ := hq.slice
  have hrm : Rd w3 Am (padded l) := hq.rd
  have ham : ∀ ad, Am = some ad → ad.block ≠ w.heap.size := fun ad h => by
    have := hq.base ad.block (by rw [h]; rfl)
    omega
  have lt3 := hb3.size
  have HG3 := Aside0.mk ((Fr.of_below hb3 (fun _ => False)).blk HG.out (fun h => h))
  have HF3 := Aside0.mk (HF.out.trans (Fr.of_below hb3 (fun _ => False)) (fun i h => h.elim))
  have HM := Aside0.mk (And.intro hrm (And.intro ham hcm))
  clear HG HF hR hq hb3 hrm ham hcm
  have hpl := padded_len l
  have HP := Aside0.mk hpl
  clear hpl
  go_wp2
  refine loopM w.heap.size Am cm (padded l) ((padded l).length / 64) HP.out.1 (by have := HP.out.2; omega) HM.out.2.2 (hB.append (Bys_tail _)) w3 (fun w' h => HM.out.1.fr h (fun ad e => HM.out.2.1 ad e)) (by omega) _ ?_ _ _ ⟨⟨rfl, rfl⟩, rfl, rfl, rfl, Fr.refl _ _, HG3.out⟩
  intro a' w4 hFm j3 jf js
  rw [fm46 hFm, j3]
  have HS := Aside0.mk js
  have HF4 := Aside0.mk (HF3.out.trans jf (S := fun _ => False) (fun i h => .inr (by omega)))
  have lt4 := jf.size
  clear js jf hFm j3 HG3 HF3 HM
  have hS : (run ((padded l).length / 64) S0 (padded l)).length = 8 := run_len _ _ _
  obtain ⟨S, eS⟩ : ∃ S, run ((padded l).length / 64) S0 (padded l) = S := ⟨_, rfl⟩
  rw [eS] at hS
  have e8 : (encs (Value.int .u32) S).toArray.size = 8 := by simp [encs, hS]
  have HE := Aside0.mk (And.intro eS (And.intro e8 hi8))
  clear eS e8 hi8
  go_wp2_with (first | ((with_reducible refine gate_dst (N := 26) rfl ?_); refine Kd.R_lit (Kd.int .u8) _ 5 (by rfl) (N := 26) (by rfl) (xs := ([] : List Int)) (inner := []) (ok := fun _ => True) (okp := fun _ => True) (by first | (go_simp; done) | (go_simp; rfl)) (Reps.none _ _) (fun _ hk => hk) trivial (Below.refl _ _) (Nat.le_refl _) (by simp) ?_; intro v5 w5 ho5 hb5 hg5 hn5) | ((with_reducible refine gate_dst (N := 27) rfl ?_); refine wpList_load_row (by rfl) 116 _ (by rfl) w.heap.size (by rfl) _ (encs (Value.int .u32) S).toArray _ _ ((Fr.of_below hb5 (fun _ => False)).blk (by rw [← HE.out.1]; exact HS.out) (fun h => h)) Try.underlying116 (by rfl) (by rw [HE.out.2.1]; exact HE.out.2.2) ?_) | fail)
  have hq5 : OB w5 w.heap.size v5 [] := OB.lower (Kd.own_of_R ho5) (by omega)
  have hf5 : Fr (fun _ => False) w w5 := HF4.out.trans (Fr.of_below hb5 (fun _ => False)) (fun i h => h.elim)
  have lt5 := hb5.size
  clear ho5 hb5 hg5 hn5 HF4 HS
  refine loopO S hS w.heap.size w (Nat.le_refl _) _ ?_ _ _ ⟨⟨rfl, rfl⟩, rfl, rfl, hq5, hf5, by omega⟩
  intro a'' w6 hFm jq jf
  have e9 : sha l = outB S := by rw [sha, HE.out.1]
  obtain ⟨v6, ev⟩ : ∃ v, sl a'' 6 = v := ⟨_, rfl⟩
  rw [ev] at jq
  rw [fm46 hFm, ev]
  have HJ := Aside0.mk (And.intro jq (And.intro jf e9))
  clear jq jf e9 ev hFm hq5 hf5
  go_wp2
  go_ret
  exact ⟨_, rfl, by rw [HJ.out.2.2]; exact HJ.out.1, HJ.out.2.1.below _ (Nat.le_refl _) (fun i h => h.elim)⟩
end Go.Proofs.Ytnabilhcmplhcaa.Sha
end
