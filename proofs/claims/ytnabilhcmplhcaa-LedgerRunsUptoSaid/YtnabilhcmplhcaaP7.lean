/- Parts of the proof of LedgerRunsUptoSaid: laid together and cut down to what LedgerRuns' proof uses (parts: Qx18, LrA, LrB, LdF). -/
import Derived.Test.YtnabilhcmplhcaaP1
import Derived.Test.YtnabilhcmplhcaaP5
import Derived.Test.YtnabilhcmplhcaaP6
import Derived.Deep.RegionHeld3
import Derived.Test.YtnabilhcmplhcaaP2
section
/- Written by a program of this session out of the translation; Lean checks it. -/
namespace Go.Proofs.Ytnabilhcmplhcaa.Q
open Go.RowKit Go.Proofs.YtnabilhcmplhcaaW.PrintWords Go.Proofs.YtnabilhcmplhcaaW.PrintLast Go.Proofs.YtnabilhcmplhcaaW.PrintMore
attribute [local go_sem] max2_int min2_int max_two min_two max_three min_three max_four min_four   -- for this text's walks alone
set_option linter.unusedVariables false
set_option linter.unusedSimpArgs false

/-! ### catenaryref06_Nums: function 52 -/
mutual
def catenaryref06_Nums.l0 : Nat → List Int → List Int → Int → Int → Option (List Int)
  | 0, _, _, _, _ => none
  | k + 1, x3, x9, x10, x11 => if x11 < x10 then (if 0 ≤ x11 then (if x11 < (x9.length : Int) then (catenaryref06_Nums.l1 k x3 (IntKind.u64.wrap (rd x9 x11)) 0 x9 x10 x11) else (none)) else (none)) else (some x3)
def catenaryref06_Nums.l1 : Nat → List Int → Int → Int → List Int → Int → Int → Option (List Int)
  | 0, _, _, _, _, _, _ => none
  | k + 1, x3, x6, x7, x9, x10, x11 => if x7 < 8 then (if x3.length < 140737488355328 then (catenaryref06_Nums.l1 k (x3 ++ [(Int.tmod x6 256) % 256]) (IntKind.u64.wrap (Int.tdiv x6 256)) (wrap64 (x7 + 1)) x9 x10 x11) else (none)) else (catenaryref06_Nums.l0 k x3 x9 x10 (wrap64 (x11 + 1)))
end
def catenaryref06_Nums.f (k : Nat) (l0 : List Int) : Option (List Int) := catenaryref06_Nums.l0 k (([] : List Int)) l0 (l0.length : Int) 0
set_option maxHeartbeats 8000000 in
set_option maxRecDepth 100000 in
theorem catenaryref06_Nums.calls (k : Nat) (A0 : Option Addr) (c0 : Nat) (l0 : List Int) (r : List Int) (w : World) (hr0 : Kd.C (Kd.int .i64) w A0 l0.length l0) (hc0 : l0.length ≤ c0) (h : catenaryref06_Nums.f k l0 = some r) :
    Calls Try.prog 52 #[.slice A0 l0.length c0] w fun e w' => ∃ v0_ : Value, e = .returned (v0_) ∧ Kd.R (Kd.int .u8) 5 w' w.heap.size (fun _ => True) v0_ r ∧ Below w.heap.size w w' := by
  have HR0 := Aside0.mk hr0
  have HC0 := Aside0.mk hc0
  clear hr0 hc0
  have HB := Aside0.mk (Below.refl w.heap.size w)
  have H : (catenaryref06_Nums.l0 k (([] : List Int)) l0 (l0.length : Int) 0) = some r := h
  clear h
  obtain ⟨y308, hy308⟩ : ∃ y_ : List Int, y_ = (([] : List Int)) := ⟨_, rfl⟩
  replace H : (catenaryref06_Nums.l0 k y308 l0 (l0.length : Int) 0) = some r := by first | (rw [hy308]; with_reducible exact H) | (have H2_ := (Option.bind_some _ _).symm.trans H; rw [hy308]; with_reducible exact H2_) | (have H2_ := (Option.bind_some _ _).symm.trans H; with_reducible exact H2_) | with_reducible exact H | (rw [hy308]; exact H) | exact H
  have Ny308 := Aside0.mk hy308
  clear hy308
  have H' := Aside0.mk H
  clear H
  go_enter Try.func52, Try.ntmps52
  go_wp2_with (first | ((with_reducible refine gate_dst (N := 8) rfl ?_); refine Kd.R_lit (Kd.int .u8) _ 5 ?hg (N := 8) ?hd (xs := ([] : List Int)) (inner := []) (ok := fun _ => True) (okp := fun _ => True) ?hr ?hp (fun _ hk => hk) trivial (Below.refl _ _) (Nat.le_refl _) (by simp) ?_; (case hd => rfl); (case hg => rfl); (case hr => first | (go_simp; done) | (go_simp; rfl)); (case hp => exact (Reps.none _ _)); intro v309 w2 ho3 hb hg_ hnew_; clear hg_ hnew_; (first | rw [← Ny308.out] at ho3 | (simp only [Int.reduceToNat] at ho3; rw [← Ny308.out] at ho3)); have n0_ := Aside0.mk (Kd.R_lower ho3 (below_size (by repeat (first | (with_reducible first | exact HB.out | apply below_alloc | apply pw_below_drewN | apply below_drew1) | exact HB.out)))); have n1_ := Aside0.mk (below_step (by repeat (first | (with_reducible first | exact HB.out | apply below_alloc | apply pw_below_drewN | apply below_drew1) | exact HB.out)) hb); clear HB; have HO310 := n0_; have HB := n1_; clear n0_ n1_; clear hb ho3))
  go_loopg [3, 11] k (fun kq v3 v11 w' => ∃ (x3_1 : List Int) (x11_1 : Int), v11 = .int .i64 x11_1 ∧ Aside0 (catenaryref06_Nums.l0 kq x3_1 l0 (l0.length : Int) x11_1 = some r) ∧ Aside0 (kq ≤ k) ∧ Aside0 (Kd.R (Kd.int .u8) 5 w' w.heap.size (fun _ => True) v3 x3_1) ∧ Aside0 (Below w.heap.size w w'))
  case atStart => exact ⟨(y308), (0), (by first | rfl | (simp; done) | (simp [*]; done)), H', ⟨Nat.le_refl _⟩, ⟨by (with_reducible repeat (first | apply Kd.R_alloc | apply Kd.R_drewN | apply Kd.R_drew)); exact HO310.out⟩, ⟨by repeat (first | (with_reducible first | exact HB.out | apply below_alloc | apply pw_below_drewN | apply below_drew1) | exact HB.out)⟩⟩
  case round =>
    clear H'
    try clear p2
    obtain ⟨x3_1, x11_1, rfl, HA, HK1, HO_3, HB⟩ := hrel
    cases gk with
    | zero => exact absurd HA.out (by simp [catenaryref06_Nums.l0])
    | succ k1 =>
      have H := HA.out
      clear HA
      simp only [catenaryref06_Nums.l0] at H
      by_cases c4 : x11_1 < (l0.length : Int)
      · rw [if_pos c4] at H
        have c4b0 : decide (x11_1 < (l0.length : Int)) = true := decide_eq_true c4
        clear c4
        by_cases c5 : 0 ≤ x11_1
        · rw [if_pos c5] at H
          have c5b0 : decide (0 ≤ x11_1) = true := decide_eq_true c5
          clear c5
          by_cases c6 : x11_1 < (l0.length : Int)
          · rw [if_pos c6] at H
            have c6b0 : decide (x11_1 < (l0.length : Int)) = true := decide_eq_true c6
            clear c6
            have H' := Aside0.mk H
            clear H
            have p311 : 0 ≤ (x11_1 : Int) := of_decide_eq_true (by first | (with_reducible assumption) | assumption)
            have q311 : x11_1 < (l0.length : Int) := of_decide_eq_true (by first | (with_reducible assumption) | assumption)
            obtain ⟨ad311, e311, hx311_0⟩ := Kd.at_int HR0.out x11_1 p311 q311
            cases e311
            replace hx311_0 := (HB.out.cell (World.block_lt_of_cell? w _ hx311_0)).trans hx311_0
            replace p311 := eq_true p311
            replace q311 := eq_true q311
            go_wp2
            go_loopg [3, 6, 7] k1 (fun kq v3 v6 v7 w' => ∃ (x3_2 : List Int) (x6_2 : Int) (x7_2 : Int), v6 = .int .u64 x6_2 ∧ v7 = .int .i64 x7_2 ∧ Aside0 (catenaryref06_Nums.l1 kq x3_2 x6_2 x7_2 l0 (l0.length : Int) x11_1 = some r) ∧ Aside0 (kq ≤ k1) ∧ Aside0 (Kd.R (Kd.int .u8) 5 w' w.heap.size (fun _ => True) v3 x3_2) ∧ Aside0 (Below w.heap.size w w'))
            case atStart => exact ⟨(x3_1), (IntKind.u64.wrap (rd l0 x11_1)), (0), (by first | rfl | (simp; done) | (simp [*]; done)), (by first | rfl | (simp; done) | (simp [*]; done)), H', ⟨Nat.le_refl _⟩, ⟨by (with_reducible repeat (first | apply Kd.R_alloc | apply Kd.R_drewN | apply Kd.R_drew)); exact HO_3.out⟩, ⟨by repeat (first | (with_reducible first | exact HB.out | apply below_alloc | apply pw_below_drewN | apply below_drew1) | exact HB.out)⟩⟩
            case round =>
              clear H'
              try clear p2
              try clear p3
              try clear q3
              try clear hx3
              try clear c4
              try clear c4b0
              try clear c5
              try clear c5b0
              try clear c6
              try clear c6b0
              try clear hx311_0
              try clear p2
              try clear p311
              try clear q311
              obtain ⟨x3_2, x6_2, x7_2, rfl, rfl, HA, HK2, HO_3, HB⟩ := hrel
              cases gk with
              | zero => exact absurd HA.out (by simp [catenaryref06_Nums.l1])
              | succ k2 =>
                have H := HA.out
                clear HA
                simp only [catenaryref06_Nums.l1] at H
                by_cases c7 : x7_2 < 8
                · rw [if_pos c7] at H
                  have c7b0 : decide (x7_2 < 8) = true := decide_eq_true c7
                  clear c7
                  by_cases c8 : x3_2.length < 140737488355328
                  · rw [if_pos c8] at H
                    have LMc8 := Aside0.mk c8
                    clear c8
                    obtain ⟨y312, hy312⟩ : ∃ y_ : List Int, y_ = (x3_2 ++ [(Int.tmod x6_2 256) % 256]) := ⟨_, rfl⟩
                    replace H : (catenaryref06_Nums.l1 k2 y312 (IntKind.u64.wrap (Int.tdiv x6_2 256)) (wrap64 (x7_2 + 1)) l0 (l0.length : Int) x11_1) = some r := by first | (rw [hy312]; with_reducible exact H) | (have H2_ := (Option.bind_some _ _).symm.trans H; rw [hy312]; with_reducible exact H2_) | (have H2_ := (Option.bind_some _ _).symm.trans H; with_reducible exact H2_) | with_reducible exact H | (rw [hy312]; exact H) | exact H
                    have Ny312 := Aside0.mk hy312
                    clear hy312
                    have H' := Aside0.mk H
                    clear H
                    go_wp2_with (first | ((with_reducible refine gate_builtin (b := .append) (xs := #[.tmp 21, .tmp 25]) rfl ?_); at_builtin; refine Kd.R_append (Kd.int .u8) (w0 := w) w.heap.size rfl (.tmp 21) (.tmp 25) 29 5 (.int .u8 0) 1 rfl Try.underlying29 info5 rfl (by decide) (by omega) u3 x3_2 ((Int.tmod x6_2 256) % 256) [.int .u8 ((Int.tmod x6_2 256) % 256)] (fun _ => True) (fun _ => False) rfl rfl ?aP (fun _ hk => hk.elim) ?aF ?aO ?aB ?aS ?aL ?_; (case aP => exact rfl); (case aB => exact (by repeat (first | (with_reducible first | exact HB.out | apply below_alloc | apply pw_below_drewN | apply below_drew1) | exact HB.out))); (case aF => exact (fun _ _ => trivial)); (case aO => exact (by (with_reducible repeat (first | apply Kd.R_alloc | apply Kd.R_drewN | apply Kd.R_drew)); exact HO_3.out)); (case aS => exact (below_size (by repeat (first | (with_reducible first | exact HB.out | apply below_alloc | apply pw_below_drewN | apply below_drew1) | exact HB.out)))); (case aL => have := LMc8.out; omega); intro v313 w9 ho hb hg hat; rw [← Ny312.out] at ho; have n0_ := Aside0.mk (hb); have n1_ := Aside0.mk (ho); clear HB; clear HO_3; have HB := n0_; have HO314 := n1_; clear n0_ n1_; clear ho hb hg hat))
                    go_roundg k2
                    case measure => have := HK1.out; have := HK2.out; omega
                    case rel => exact ⟨(y312), (IntKind.u64.wrap (Int.tdiv x6_2 256)), (wrap64 (x7_2 + 1)), (by first | rfl | (simp; done) | (simp [*]; done)), (by first | rfl | (simp; done) | (simp [*]; done)), H', ⟨by have := HK1.out; have := HK2.out; omega⟩, ⟨by (with_reducible repeat (first | apply Kd.R_alloc | apply Kd.R_drewN | apply Kd.R_drew)); exact HO314.out⟩, ⟨by repeat (first | (with_reducible first | exact HB.out | apply below_alloc | apply pw_below_drewN | apply below_drew1) | exact HB.out)⟩⟩
                  · rw [if_neg c8] at H
                    exact absurd H (by simp)
                · rw [if_neg c7] at H
                  have c7b0 : decide (x7_2 < 8) = false := decide_eq_false c7
                  clear c7
                  have H' := Aside0.mk H
                  clear H
                  go_wp2
                  go_roundg k2
                  case measure => have := HK1.out; have := HK2.out; omega
                  case rel => exact ⟨(x3_2), (wrap64 (x11_1 + 1)), (by first | rfl | (simp; done) | (simp [*]; done)), H', ⟨by have := HK1.out; have := HK2.out; omega⟩, ⟨by (with_reducible repeat (first | apply Kd.R_alloc | apply Kd.R_drewN | apply Kd.R_drew)); exact HO_3.out⟩, ⟨by repeat (first | (with_reducible first | exact HB.out | apply below_alloc | apply pw_below_drewN | apply below_drew1) | exact HB.out)⟩⟩
          · rw [if_neg c6] at H
            exact absurd H (by simp)
        · rw [if_neg c5] at H
          exact absurd H (by simp)
      · rw [if_neg c4] at H
        have c4b0 : decide (x11_1 < (l0.length : Int)) = false := decide_eq_false c4
        clear c4
        obtain rfl := Option.some.inj H
        go_wp2
        go_ret
        exact ⟨_, by first | rfl | (simp [errW_none, errW_some] <;> rfl) | (simp [*, errW_none, errW_some] <;> rfl), by (with_reducible repeat (first | apply Kd.R_alloc | apply Kd.R_drewN | apply Kd.R_drew)); exact HO_3.out, by repeat (first | (with_reducible first | exact HB.out | apply below_alloc | apply pw_below_drewN | apply below_drew1) | exact HB.out)⟩

/-! ### catenaryref06_parts: function 42 -/
def catenaryref06_parts.f (k : Nat) (a0 : Int) (a1_0 : Int) (a1_1 : Int) (a2 : Int) (l3 : List Int) : Option ((List (List Int))) := (catenaryref06_Nums.f k (([a0, a1_0, a1_1, a2] : List Int))).bind fun t319 => (some (([t319, l3] : List (List Int))))
set_option maxHeartbeats 8000000 in
set_option maxRecDepth 100000 in
theorem catenaryref06_parts.calls (k : Nat) (a0 : Int) (a1_0 : Int) (a1_1 : Int) (a2 : Int) (P3_ : Nat → Prop) (A3 : Option Addr) (c3 : Nat) (l3 : List Int) (r : List (List Int)) (w : World) (hs3 : Kd.V (Kd.int .u8) 5 w w.heap.size (fun k_ => P3_ k_) (.slice A3 l3.length c3) l3) (h : catenaryref06_parts.f k a0 a1_0 a1_1 a2 l3 = some r) :
    Calls Try.prog 42 #[.int .i64 a0, .agg #[.int .i64 a1_0, .int .i64 a1_1], .int .i64 a2, .slice A3 l3.length c3] w fun e w' => ∃ v0_ : Value, e = .returned (v0_) ∧ Kd.N (Kd.slice 5 (Kd.int .u8)) 29 w' w.heap.size (fun k_ => (P3_ k_ ∨ w.heap.size ≤ k_)) v0_ r ∧ Below w.heap.size w w' := by
  have hu28 := Try.underlying28
  have HO3 := Aside0.mk (show Kd.V (Kd.int .u8) 5 w w.heap.size (fun k_ => (P3_ k_ ∨ w.heap.size ≤ k_)) (.slice A3 l3.length c3) l3 from Kd.V_mono hs3 (fun k_ hk => .inl hk))
  have HB := Aside0.mk (Below.refl w.heap.size w)
  have H : ((catenaryref06_Nums.f k (([a0, a1_0, a1_1, a2] : List Int))).bind fun t319 => (some (([t319, l3] : List (List Int))))) = some r := h
  clear h
  obtain ⟨y316, hy316⟩ : ∃ y_ : List Int, y_ = (([a0, a1_0, a1_1, a2] : List Int)) := ⟨_, rfl⟩
  replace H : ((catenaryref06_Nums.f k y316).bind fun t319 => (some (([t319, l3] : List (List Int))))) = some r := by first | (rw [hy316]; with_reducible exact H) | (have H2_ := (Option.bind_some _ _).symm.trans H; rw [hy316]; with_reducible exact H2_) | (have H2_ := (Option.bind_some _ _).symm.trans H; with_reducible exact H2_) | with_reducible exact H | (rw [hy316]; exact H) | exact H
  have Ny316 := Aside0.mk hy316
  clear hy316
  replace H := Option.bind_eq_some_iff.mp H
  obtain ⟨t319, A50, H⟩ := H
  replace H : (some (([t319, l3] : List (List Int)))) = some r := H
  have A5 := Aside0.mk A50
  clear A50
  obtain ⟨y322, hy322⟩ : ∃ y_ : List (List Int), y_ = (([t319, l3] : List (List Int))) := ⟨_, rfl⟩
  replace H : (some y322) = some r := by first | (rw [hy322]; with_reducible exact H) | (have H2_ := (Option.bind_some _ _).symm.trans H; rw [hy322]; with_reducible exact H2_) | (have H2_ := (Option.bind_some _ _).symm.trans H; with_reducible exact H2_) | with_reducible exact H | (rw [hy322]; exact H) | exact H
  have Ny322 := Aside0.mk hy322
  clear hy322
  obtain rfl := Option.some.inj H
  go_enter Try.func42, Try.ntmps42
  go_wp2_with (first | ((with_reducible refine gate_dst (N := 5) rfl ?_); refine box_event ?hg (N := 5) ?hd (cs := #[.int .i64 a1_0, .int .i64 a1_1]) (t := 28) ?hr ?_; (case hd => rfl); (case hg => rfl); (case hr => first | (go_simp; done) | (go_simp; rfl)); intro gb315 hg w6 hbox hb; have n0_ := Aside0.mk (Kd.V_below (Kd.V_elderB (by (with_reducible repeat (first | apply Kd.V_alloc | apply Kd.V_drewN | apply Kd.V_drew)); exact HO3.out) gb315 (Nat.le_of_eq hg.symm)) hb); have n1_ := Aside0.mk (below_step (by repeat (first | (with_reducible first | exact HB.out | apply below_alloc | apply pw_below_drewN | apply below_drew1) | exact HB.out)) hb); have n2_ := Aside0.mk (hbox); have n3_ := Aside0.mk ((by rw [hg]; exact (below_size (by repeat (first | (with_reducible first | exact HB.out | apply below_alloc | apply pw_below_drewN | apply below_drew1) | exact HB.out))) : w.heap.size ≤ gb315)); have n4_ := Aside0.mk ((by rw [hg]; exact (below_size (by repeat (first | (with_reducible first | exact HB.out | apply below_alloc | apply pw_below_drewN | apply below_drew1) | exact HB.out))) : w.heap.size ≤ gb315)); clear HO3; clear HB; have HO3 := n0_; have HB := n1_; have BK315 := n2_; have GW315 := n3_; have GE315 := n4_; clear n0_ n1_ n2_ n3_ n4_; clear hb hbox hg; have hcz7_0 : w6.cell? ⟨gb315, 0, none⟩ = some (.int .i64 a1_0) := (blk_cell BK315.out 0).trans rfl; have hcz7_1 : w6.cell? ⟨gb315, 1, none⟩ = some (.int .i64 a1_1) := (blk_cell BK315.out 1).trans rfl; have hfz7_0 := blk_frozen BK315.out 0; have hfz7_1 := blk_frozen BK315.out 1) | ((with_reducible refine gate_dst (N := 15) rfl ?_); refine Kd.R_lit (Kd.int .i64) _ 3 ?hg (N := 15) ?hd (xs := ([a0, a1_0, a1_1, a2] : List Int)) (inner := [.int .i64 a0, .int .i64 a1_0, .int .i64 a1_1, .int .i64 a2]) (ok := fun _ => True) (okp := fun _ => True) ?hr ?hp (fun _ hk => hk) trivial (Below.refl _ _) (Nat.le_refl _) (by simp) ?_; (case hd => rfl); (case hg => rfl); (case hr => first | (go_simp; done) | (go_simp; rfl)); (case hp => exact (Reps.one (show Kd.M (Kd.int .i64) _ _ _ a0 [.int .i64 a0] from rfl) (Reps.one (show Kd.M (Kd.int .i64) _ _ _ a1_0 [.int .i64 a1_0] from rfl) (Reps.one (show Kd.M (Kd.int .i64) _ _ _ a1_1 [.int .i64 a1_1] from rfl) (Reps.one (show Kd.M (Kd.int .i64) _ _ _ a2 [.int .i64 a2] from rfl) (Reps.none _ _)))))); intro v317 w8 ho9 hb hg_ hnew_; clear hg_ hnew_; (first | rw [← Ny316.out] at ho9 | (simp only [Int.reduceToNat] at ho9; rw [← Ny316.out] at ho9)); have n0_ := Aside0.mk (Kd.V_elder' (by (with_reducible repeat (first | apply Kd.V_alloc | apply Kd.V_drewN | apply Kd.V_drew)); exact HO3.out) (Kd.R_base ho9) hb); have n1_ := Aside0.mk (Kd.R_lower (Kd.R_newM (M := fun k_ => (w.heap.size ≤ k_)) ho9 (below_size (by repeat (first | (with_reducible first | exact HB.out | apply below_alloc | apply pw_below_drewN | apply below_drew1 | refine below_set ?_ GE315.out) | exact HB.out))) (fun k_ h_ => h_)) (below_size (by repeat (first | (with_reducible first | exact HB.out | apply below_alloc | apply pw_below_drewN | apply below_drew1 | refine below_set ?_ GE315.out) | exact HB.out)))); have n2_ := Aside0.mk (blk_below (g := gb315) (o := .cells #[.int .i64 a1_0, .int .i64 a1_1] 28 (0, 0)) (by (with_reducible repeat (first | refine blk_drewN ?_ _ | refine blk_drew ?_ | refine blk_alloc ?_ _)); exact BK315.out) hb); have n3_ := Aside0.mk (below_step (by repeat (first | (with_reducible first | exact HB.out | apply below_alloc | apply pw_below_drewN | apply below_drew1 | refine below_set ?_ GE315.out) | exact HB.out)) hb); clear HO3; clear BK315; clear HB; have HO3 := n0_; have HO318 := n1_; have BK315 := n2_; have HB := n3_; clear n0_ n1_ n2_ n3_; clear hb ho9; obtain ⟨Ao10, co10, eo10⟩ := Kd.R_slice HO318.out; subst eo10) | ((with_reducible refine gate_callee (f := 52) rfl ?_); refine goesL_ (some 16) rfl rfl Try.func52 (by kernel_rfl) rfl #[.slice Ao10 y316.length co10] rfl (by (try simp only [List.map_toArray, List.map_cons, List.map_nil]); first | done | rfl | (simp only [List.length_drop, List.length_take]; rfl)) ?_; (with_reducible refine (catenaryref06_Nums.calls k _ _ y316 t319 _ ?side1 ?side2 A5.out).mono ?_); (case side1 => repeat (first | exact (Kd.R_reads' HO318.out).2.2 | (with_reducible refine Kd.C_alloc ?_ _) | (with_reducible refine Kd.C_drewN ?_ _) | (with_reducible refine Kd.C_drew ?_))); (case side2 => exact (Kd.R_reads' HO318.out).2.1); rintro e w11 ⟨v320, rfl, ho0, hb⟩; refine ⟨_, rfl, ?_⟩; have n0_ := Aside0.mk (Kd.V_elder' (by (with_reducible repeat (first | apply Kd.V_alloc | apply Kd.V_drewN | apply Kd.V_drew)); exact HO3.out) (Kd.R_base ho0) hb); have n1_ := Aside0.mk (Kd.R_below (by (with_reducible repeat (first | apply Kd.R_alloc | apply Kd.R_drewN | apply Kd.R_drew)); exact HO318.out) hb); have n2_ := Aside0.mk (Kd.R_lower (Kd.R_newM (M := fun k_ => (w.heap.size ≤ k_)) ho0 (below_size (by repeat (first | (with_reducible first | exact HB.out | apply below_alloc | apply pw_below_drewN | apply below_drew1 | refine below_set ?_ GE315.out) | exact HB.out))) (fun k_ h_ => h_)) (below_size (by repeat (first | (with_reducible first | exact HB.out | apply below_alloc | apply pw_below_drewN | apply below_drew1 | refine below_set ?_ GE315.out) | exact HB.out)))); have n3_ := Aside0.mk (blk_below (g := gb315) (o := .cells #[.int .i64 a1_0, .int .i64 a1_1] 28 (0, 0)) (by (with_reducible repeat (first | refine blk_drewN ?_ _ | refine blk_drew ?_ | refine blk_alloc ?_ _)); exact BK315.out) hb); have n4_ := Aside0.mk (below_step (by repeat (first | (with_reducible first | exact HB.out | apply below_alloc | apply pw_below_drewN | apply below_drew1 | refine below_set ?_ GE315.out) | exact HB.out)) hb); clear HO3; clear HO318; clear BK315; clear HB; have HO3 := n0_; have HO318 := n1_; have HO321 := n2_; have BK315 := n3_; have HB := n4_; clear n0_ n1_ n2_ n3_ n4_; (try clear hb); (try clear hb2); (try clear hk); (try clear hi); (try clear ho0); obtain ⟨Ao12, co12, eo12⟩ := Kd.R_slice HO321.out; subst eo12) | ((with_reducible refine gate_dst (N := 18) rfl ?_); refine Kd.N_lit (Kd.slice 5 (Kd.int .u8)) _ 29 ?hg (N' := 18) ?hd (xs := ([t319, l3] : List (List Int))) (inner := [.slice Ao12 t319.length co12, .slice A3 l3.length c3]) (ok := (fun k_ => (P3_ k_ ∨ w.heap.size ≤ k_) ∧ some k_ ≠ (.slice Ao10 y316.length co10 : Value).ownBlock ∧ k_ ≠ gb315)) (okp := (fun k_ => (P3_ k_ ∨ w.heap.size ≤ k_) ∧ some k_ ≠ (.slice Ao10 y316.length co10 : Value).ownBlock ∧ k_ ≠ gb315)) ?hr ?hp (fun _ hk => hk) ((show ∀ k_, w11.heap.size ≤ k_ → (fun k_ => (P3_ k_ ∨ w.heap.size ≤ k_) ∧ some k_ ≠ (.slice Ao10 y316.length co10 : Value).ownBlock ∧ k_ ≠ gb315) k_ from fun k_ hk => ⟨(.inr (Nat.le_trans (below_size (by repeat (first | (with_reducible first | exact HB.out | apply below_alloc | apply pw_below_drewN | apply below_drew1 | refine below_set ?_ GE315.out) | exact HB.out))) hk)), Kd.fresh' (Kd.R_lt (by (with_reducible repeat (first | apply Kd.R_alloc | apply Kd.R_drewN | apply Kd.R_drew)); exact HO318.out)) k_ hk, Kd.freshB (g := gb315) (o := .cells #[.int .i64 a1_0, .int .i64 a1_1] 28 (0, 0)) (by (with_reducible repeat (first | refine blk_drewN ?_ _ | refine blk_drew ?_ | refine blk_alloc ?_ _)); exact BK315.out) k_ hk⟩) _ (Nat.le_refl _)) (Below.refl _ _) (Nat.le_refl _) (by simp) ?_; (case hd => rfl); (case hg => rfl); (case hr => first | (go_simp; done) | (go_simp; rfl)); (case hp => exact (Reps.one (show Kd.FK (Kd.slice 5 (Kd.int .u8)) _ _ t319 [.slice Ao12 t319.length co12] from (Kd.FK_slice_mk (Kd.R_reads' (Kd.R_mono (ok' := (fun k_ => (P3_ k_ ∨ w.heap.size ≤ k_) ∧ some k_ ≠ (.slice Ao10 y316.length co10 : Value).ownBlock ∧ k_ ≠ gb315)) (Kd.R_types (Kd.R_apart' (HO321.out) (Kd.R_typed HO318.out) (by decide)) BK315.out (by decide)) (fun k_ hk => ⟨(.inr (hk.1.1.1)), ⟨hk.1.2, hk.2⟩⟩))).2.1 (Kd.R_F (Kd.R_mono (ok' := (fun k_ => (P3_ k_ ∨ w.heap.size ≤ k_) ∧ some k_ ≠ (.slice Ao10 y316.length co10 : Value).ownBlock ∧ k_ ≠ gb315)) (Kd.R_types (Kd.R_apart' (HO321.out) (Kd.R_typed HO318.out) (by decide)) BK315.out (by decide)) (fun k_ hk => ⟨(.inr (hk.1.1.1)), ⟨hk.1.2, hk.2⟩⟩))))) (Reps.one (show Kd.FK (Kd.slice 5 (Kd.int .u8)) _ _ l3 [.slice A3 l3.length c3] from (Kd.FK_slice_mk (Kd.V_reads' (Kd.V_mono (ok' := (fun k_ => (P3_ k_ ∨ w.heap.size ≤ k_) ∧ some k_ ≠ (.slice Ao10 y316.length co10 : Value).ownBlock ∧ k_ ≠ gb315)) (HO3.out) (fun k_ hk => ⟨hk.1.1.1, ⟨hk.1.2, hk.1.1.2⟩⟩))).2.1 (Kd.V_F (Kd.V_mono (ok' := (fun k_ => (P3_ k_ ∨ w.heap.size ≤ k_) ∧ some k_ ≠ (.slice Ao10 y316.length co10 : Value).ownBlock ∧ k_ ≠ gb315)) (HO3.out) (fun k_ hk => ⟨hk.1.1.1, ⟨hk.1.2, hk.1.1.2⟩⟩))))) (Reps.none _ _)))); intro v323 w13 ho14 hb hg_ hnew_; clear hg_ hnew_; (first | rw [← Ny322.out] at ho14 | (simp only [Int.reduceToNat] at ho14; rw [← Ny322.out] at ho14)); have n0_ := Aside0.mk (Kd.V_elder' (by (with_reducible repeat (first | apply Kd.V_alloc | apply Kd.V_drewN | apply Kd.V_drew)); exact HO3.out) (Kd.N_base ho14) hb); have n1_ := Aside0.mk (Kd.R_below (by (with_reducible repeat (first | apply Kd.R_alloc | apply Kd.R_drewN | apply Kd.R_drew)); exact HO318.out) hb); have n2_ := Aside0.mk (Kd.N_lower ho14 (below_size (by repeat (first | (with_reducible first | exact HB.out | apply below_alloc | apply pw_below_drewN | apply below_drew1 | refine below_set ?_ GE315.out) | exact HB.out)))); have n3_ := Aside0.mk (blk_below (g := gb315) (o := .cells #[.int .i64 a1_0, .int .i64 a1_1] 28 (0, 0)) (by (with_reducible repeat (first | refine blk_drewN ?_ _ | refine blk_drew ?_ | refine blk_alloc ?_ _)); exact BK315.out) hb); have n4_ := Aside0.mk (below_step (by repeat (first | (with_reducible first | exact HB.out | apply below_alloc | apply pw_below_drewN | apply below_drew1 | refine below_set ?_ GE315.out) | exact HB.out)) hb); clear HO3; clear HO318; clear BK315; clear HB; clear HO321; have HO3 := n0_; have HO318 := n1_; have HO324 := n2_; have BK315 := n3_; have HB := n4_; clear n0_ n1_ n2_ n3_ n4_; clear hb ho14))
  go_ret
  exact ⟨_, by first | rfl | (simp [errW_none, errW_some] <;> rfl) | (simp [*, errW_none, errW_some] <;> rfl), by (with_reducible repeat (first | apply Kd.N_alloc | apply Kd.N_drewN | apply Kd.N_drew)); exact Kd.N_mono HO324.out (fun _ hk => hk.1), by repeat (first | (with_reducible first | exact HB.out | apply below_alloc | apply pw_below_drewN | apply below_drew1 | refine below_set ?_ GE315.out) | exact HB.out)⟩

-- NOT PRINTED: function 28 (catenaryref06_Right)

-- NOT PRINTED: function 29 (catenaryref05_Body)

end Go.Proofs.Ytnabilhcmplhcaa.Q
end
section
/-
  The document's keys and votes: Text, Sign, Verify, Right.
-/
set_option linter.unusedVariables false
set_option linter.unusedSimpArgs false
namespace Go.Proofs.Ytnabilhcmplhcaa.Sha
open Go.RowKit Go.Proofs.YtnabilhcmplhcaaW.PrintWords Go.Proofs.YtnabilhcmplhcaaW.PrintLast Go.Proofs.YtnabilhcmplhcaaW.PrintMore Go.Proofs.Ytnabilhcmplhcaa.Q Go.Proofs.Ytnabilhcmplhcaa.Fr Go.Proofs.Ytnabilhcmplhcaa.Oct

theorem txtA_bys (k : Int) (dom : ByteArray) (l : List (List Int)) (hb : ∀ x ∈ l, Bys x) : Bys (txtA k dom l) := by
  unfold txtA
  split
  · refine packA_bys fun x hx => ?_
    simp only [List.mem_cons] at hx
    rcases hx with rfl | rfl | rfl | hx
    · exact sgnB_bys
    · exact intA_bys k
    · exact strI_bys dom
    · exact hb x hx
  · exact Bys.nil
theorem txtA_pos (k : Int) (dom : ByteArray) (l : List (List Int)) (h : 0 ≤ k ∧ k ≤ 127) : 0 < (txtA k dom l).length := by
  rw [txtA, if_pos h, packA_cons, List.length_append]
  have := bytesA_pos sgnB
  omega
set_option maxHeartbeats 8000000 in
set_option maxRecDepth 100000 in
theorem rtext_calls (k : Int) (dom : ByteArray) (A : Option Addr) (c : Nat) (l : List (List Int)) (w : World) (hC : CC w A l) (hc : l.length ≤ c) (hs : szL l + dom.size ≤ 2097000) :
    Calls Try.prog 57 #[.int .i64 k, .string dom, .slice A l.length c] w fun e w' => ∃ v : Value, e = .returned v ∧ OB w' w.heap.size v (txtA k dom l) ∧ Below w.heap.size w w' := by
  have HC := Aside0.mk (And.intro hC (And.intro hc hs))
  clear hC hc hs
  by_cases hk0 : k < 0
  · rw [txtA, if_neg (by omega)]
    have d0 : decide (k < 0) = true := decide_eq_true hk0
    clear hk0
    go_enter Try.func57, Try.ntmps57
    go_wp2
    go_ret
    exact ⟨_, rfl, OB.nil _ _, Below.refl _ _⟩
  have d0 : decide (k < 0) = false := decide_eq_false hk0
  by_cases hk1 : 127 < k
  · rw [txtA, if_neg (by omega)]
    have d1 : decide (127 < k) = true := decide_eq_true hk1
    clear hk0 hk1
    go_enter Try.func57, Try.ntmps57
    go_wp2
    go_ret
    exact ⟨_, rfl, OB.nil _ _, Below.refl _ _⟩
  have d1 : decide (127 < k) = false := decide_eq_false hk1
  rw [txtA, if_pos (by omega)]
  clear hk0 hk1
  go_enter Try.func57, Try.ntmps57
  go_wp2_with (fail)
  refine (catenaryref01_Int.calls 14 k (intA k).1 (intA k).2 w (rintA_f k 14 (Nat.le_refl _))).mono ?_
  rintro e w2 ⟨v2, rfl, hR2, hb2⟩
  have hO2 : OB w2 w.heap.size v2 (intA k).1 := Kd.own_of_R hR2
  obtain ⟨A2, c2, rfl, hc2⟩ := hO2.slice
  have hl2 := intA_len k
  obtain ⟨n2, hn2⟩ : ∃ n2, (intA k).1.length = n2 := ⟨_, rfl⟩
  rw [hn2] at hO2 hc2 hl2 ⊢
  have H2 := Aside0.mk (And.intro (Fr.of_below hb2 (fun _ => False)) (And.intro (QB.rd (q_of_own hO2)) hn2))
  clear hR2 hb2 hO2 hn2
  go_wp2_with (first | ((with_reducible refine gate_dst (N := 21) rfl ?_); refine wpList_constb rfl sgnB (by rfl) (fun _ => by rfl) (by first | (go_simp; done) | (go_simp; rfl) | (go_simp; exact ⟨rfl, rfl⟩)) _ (by rfl) (fun _ => rfl) ?_; intro g3 v3 w3 hr3 hb3 hg3 hg3') | ((with_reducible refine gate_dst (N := 25) rfl ?_); refine wpList_strb rfl (by rfl) dom _ (by rfl) (by rfl) ?_; intro g4 c4 w4 hr4 hc4 hb4 hg4 hg4') | ((with_reducible refine gate_builtin (b := .append) (xs := #[.tmp 27, .tmp 28]) rfl ?_); at_builtin; refine Aside0.out ?_))
  refine ⟨?_⟩
  have f3 := Fr.of_below hb3 (fun _ => False)
  have f4 := Fr.of_below hb4 (fun _ => False)
  have hq5 := World.ownsRow_lit (base := w4.heap.size) (e := 29) (size := 1) w4 #[.slice (some ⟨g3, 0, none⟩) sgnB.length sgnB.length, .slice A2 n2 c2, .slice (some ⟨g4, 0, none⟩) dom.size c4] 3 (Nat.le_refl _) (by decide) (by simp)
  have hb5 := below_alloc (Below.refl w4.heap.size w4) (.cells #[.slice (some ⟨g3, 0, none⟩) sgnB.length sgnB.length, .slice A2 n2 c2, .slice (some ⟨g4, 0, none⟩) dom.size c4] 29)
  generalize w4.alloc (.cells #[.slice (some ⟨g3, 0, none⟩) sgnB.length sgnB.length, .slice A2 n2 c2, .slice (some ⟨g4, 0, none⟩) dom.size c4] 29) = w5 at *
  have f5 := Fr.of_below hb5 (fun _ => False)
  have f24 := f3.trans f4 (fun _ h => h.elim)
  have F4 := H2.out.1.trans f24 (fun _ h => h.elim)
  obtain ⟨vs, hvs, hread⟩ := (HC.out.1.fr F4).vals
  have hV : Vals w4 ([.slice (some ⟨g3, 0, none⟩) sgnB.length sgnB.length, .slice A2 n2 c2, .slice (some ⟨g4, 0, none⟩) dom.size c4] ++ vs) ([sgnB, (intA k).1, strI dom] ++ l) :=
    (Vals.cons rfl (Nat.le_refl _) (by decide) (hr3.fr f4 (fun _ _ h => h)) (Vals.cons H2.out.2.2.symm hc2 (by omega) (H2.out.2.1.fr f24 (fun _ _ h => h)) (Vals.cons (strI_len dom).symm hc4 (by have := HC.out; omega) hr4 (Vals.nil _)))).append hvs
  have hll : l.length ≤ 2097000 := by have := szL_len l; have := HC.out; omega
  refine wpList_apps rfl (by rfl) w4.heap.size _ _ (by rfl) _ [.slice (some ⟨g3, 0, none⟩) sgnB.length sgnB.length, .slice A2 n2 c2, .slice (some ⟨g4, 0, none⟩) dom.size c4] (by rfl) hq5 A l.length c vs (by rfl) hvs.1.symm (fun j u hu => by
    obtain ⟨ad, e, h⟩ := hread j u hu
    exact ⟨ad, e, f5.cell h (fun h => h)⟩) hvs.one (by rw [hvs.1]; simp only [List.length_cons, List.length_nil]; omega) f5.size ?_
  intro v6 w6 hq6 hf6
  have F46 : Fr (fun _ => False) w4 w6 := f5.trans hf6 (fun k hk => .inr (by
    have : k = w4.heap.size := by simpa [Value.ownBlock] using hk
    omega))
  obtain ⟨A6, c6, e6, hc6, hC6⟩ := own_CC (hV.fr F46) hq6 (by simp only [List.length_append, List.length_cons, List.length_nil]; omega)
  obtain ⟨L, hL⟩ : ∃ L, [sgnB, (intA k).1, strI dom] ++ l = L := ⟨_, rfl⟩
  have hsz : szL L ≤ 2097152 := by
    rw [← hL]
    have : sgnB.length = 4 := rfl
    have := H2.out.2.2
    have := HC.out
    simp only [List.cons_append, List.nil_append, szL_cons, strI_len]
    omega
  rw [hL] at e6 hc6 hC6
  subst e6
  have H6 := Aside0.mk (And.intro (F4.trans F46 (fun _ h => h.elim)) (And.intro hC6 (And.intro hsz hL)))
  clear H2 hr3 hb3 hr4 hb4 f3 f4 f5 f24 F4 hq5 hb5 hV hvs hread hll hq6 hf6 F46 hC6 hsz hL hc4 hc2
  go_wp2_with (fail)
  refine (catenaryref01_Pack.calls (L.length + 15) A6 c6 L (packA L) w6 H6.out.2.1 hc6 (rpack_f _ H6.out.2.2.1 _ (Nat.le_refl _))).mono ?_
  rintro e w7 ⟨v7, rfl, hR7, hb7⟩
  have hO7 : OB w7 w6.heap.size v7 (packA L) := Kd.own_of_R hR7
  have e7 : packA L = packA (sgnB :: (intA k).1 :: strI dom :: l) := by rw [← H6.out.2.2.2]; rfl
  rw [e7] at hO7
  have H7 := Aside0.mk (And.intro (hO7.lower H6.out.1.size) (H6.out.1.trans (Fr.of_below hb7 (fun _ => False)) (fun _ h => h.elim)))
  clear H6 hR7 hb7 hO7 hc6 e7
  go_wp2
  go_ret
  exact ⟨_, rfl, H7.out.1, H7.out.2.below _ (Nat.le_refl _) (fun i h => h.elim)⟩
set_option maxHeartbeats 8000000 in
set_option maxRecDepth 100000 in
theorem rsign_calls (k : Int) (dom : ByteArray) (A : Option Addr) (c : Nat) (l : List (List Int)) (w : World) (hC : CC w A l) (hc : l.length ≤ c) (hs : szL l + dom.size ≤ 2097000) (hb : ∀ x ∈ l, Bys x) :
    Calls Try.prog 51 #[.int .i64 k, .string dom, .slice A l.length c] w fun e w' => ∃ v : Value, e = .returned v ∧ OB w' w.heap.size v (sgA k dom l) ∧ Below w.heap.size w w' := by
  have HC := Aside0.mk (And.intro hC (And.intro hc (And.intro hs hb)))
  clear hC hc hs hb
  unfold sgA
  by_cases hk : 0 ≤ k ∧ k ≤ 127
  · rw [if_pos hk]
    have hp := txtA_pos k dom l hk
    have c0 : (((txtA k dom l).length : Int) == 0) = false := beq_eq_false_iff_ne.2 (by omega)
    clear hk hp
    go_enter Try.func51, Try.ntmps51
    go_wp2_with (fail)
    refine (rtext_calls k dom A c l w HC.out.1 HC.out.2.1 HC.out.2.2.1).mono ?_
    rintro e w2 ⟨v2, rfl, hO2, hb2⟩
    obtain ⟨A2, c2, rfl, hc2⟩ := hO2.slice
    have H2 := Aside0.mk (And.intro (Fr.of_below hb2 (fun _ => False)) (And.intro (QB.rd (q_of_own hO2)) (txtA_len k dom l HC.out.2.2.1)))
    clear hO2 hb2
    go_wp2_with (fail)
    refine (rsum_calls A2 c2 (txtA k dom l) w2 (H2.out.2.1.C (by have := H2.out.2.2; omega)) hc2 (txtA_bys k dom l HC.out.2.2.2) (by have := H2.out.2.2; omega)).mono ?_
    rintro e w3 ⟨v3, rfl, hO3, hb3⟩
    have H3 := Aside0.mk (And.intro (hO3.lower H2.out.1.size) (H2.out.1.trans (Fr.of_below hb3 (fun _ => False)) (fun _ h => h.elim)))
    clear H2 hO3 hb3
    go_wp2
    go_ret
    exact ⟨_, rfl, H3.out.1, H3.out.2.below _ (Nat.le_refl _) (fun i h => h.elim)⟩
  · rw [if_neg hk]
    have e0 : txtA k dom l = [] := if_neg hk
    clear hk
    go_enter Try.func51, Try.ntmps51
    go_wp2_with (fail)
    refine (rtext_calls k dom A c l w HC.out.1 HC.out.2.1 HC.out.2.2.1).mono ?_
    rintro e w2 ⟨v2, rfl, hO2, hb2⟩
    rw [e0] at hO2
    obtain ⟨A2, c2, rfl, hc2⟩ := hO2.slice
    have H2 := Aside0.mk (Fr.of_below hb2 (fun _ => False))
    clear hO2 hb2 e0
    simp only [List.length_nil]
    go_wp2
    go_ret
    exact ⟨_, rfl, OB.nil _ _, frB H2.out⟩
set_option maxHeartbeats 8000000 in
set_option maxRecDepth 100000 in
theorem rverify_calls (k : Int) (dom : ByteArray) (As : Option Addr) (cs : Nat) (s : List Int) (A : Option Addr) (c : Nat) (l : List (List Int)) (w : World) (hS : Rd w As s) (hcs : s.length ≤ cs) (hsl : s.length ≤ 9223372036854775807) (hsb : Bys s) (hC : CC w A l) (hc : l.length ≤ c) (hs : szL l + dom.size ≤ 2097000) (hb : ∀ x ∈ l, Bys x) :
    Calls Try.prog 40 #[.int .i64 k, .slice As s.length cs, .string dom, .slice A l.length c] w fun e w' => e = .returned (.bool (decide (0 ≤ k ∧ k ≤ 127) && decide (s = sgA k dom l))) ∧ Below w.heap.size w w' := by
  have HC := Aside0.mk (And.intro hC (And.intro hc (And.intro hs (And.intro hS (And.intro hsl (And.intro hsb hb))))))
  clear hC hc hs hS hsl hsb hb
  by_cases hk : 0 ≤ k ∧ k ≤ 127
  · rw [decide_eq_true hk, Bool.true_and]
    have d0 : decide (0 ≤ k) = true := decide_eq_true hk.1
    have d1 : decide (k ≤ 127) = true := decide_eq_true hk.2
    clear hk
    obtain ⟨b, hb⟩ : ∃ b, decide (s = sgA k dom l) = b := ⟨_, rfl⟩
    have HB := Aside0.mk hb
    rw [hb]
    clear hb
    go_enter Try.func40, Try.ntmps40
    go_wp2_with (fail)
    refine (rsign_calls k dom A c l w HC.out.1 HC.out.2.1 HC.out.2.2.1 HC.out.2.2.2.2.2.2).mono ?_
    rintro e w2 ⟨v2, rfl, hO2, hb2⟩
    obtain ⟨A2, c2, rfl, hc2⟩ := hO2.slice
    have H2 := Aside0.mk (And.intro (Fr.of_below hb2 (fun _ => False)) (And.intro (QB.rd (q_of_own hO2)) (sgA_len k dom l)))
    clear hO2 hb2
    go_wp2_with (fail)
    refine (catenaryref01_Same.calls As cs s A2 c2 (sgA k dom l) b w2 ((HC.out.2.2.2.1.lies H2.out.1).C HC.out.2.2.2.2.1) hcs (H2.out.2.1.C (by have := H2.out.2.2; omega)) hc2 (by rw [same_f HC.out.2.2.2.2.2.1 (sgA_bys _ _ _), HB.out])).mono ?_
    rintro e w3 ⟨rfl, hd3⟩
    have H3 := Aside0.mk (H2.out.1.trans (Fr.of_below hd3.below (fun _ => False)) (fun _ h => h.elim))
    clear H2 hd3
    go_wp2
    go_ret
    exact ⟨by first | rfl | simp, frB H3.out⟩
  · rw [decide_eq_false hk, Bool.false_and]
    by_cases h0 : 0 ≤ k
    · have d0 : decide (0 ≤ k) = true := decide_eq_true h0
      have d1 : decide (k ≤ 127) = false := decide_eq_false (by omega)
      clear hk h0
      go_enter Try.func40, Try.ntmps40
      go_wp2
      go_ret
      exact ⟨rfl, Below.refl _ _⟩
    · have d0 : decide (0 ≤ k) = false := decide_eq_false h0
      clear hk h0
      go_enter Try.func40, Try.ntmps40
      go_wp2
      go_ret
      exact ⟨rfl, Below.refl _ _⟩
/-- A number's digits, the low one first. -/
def digs : Nat → Int → List Int
  | 0, _ => []
  | d + 1, u => u % 256 :: digs d (u / 256)
theorem u64_wrap (n : Int) : IntKind.u64.wrap n = n % 18446744073709551616 := by
  simp [IntKind.wrap, IntKind.signed, IntKind.bits]
theorem digs_le8 (n : Int) : digs 8 (IntKind.u64.wrap n) = le8 n := by
  rw [u64_wrap]
  simp only [digs, le8, shr, IntKind.bits]
  simp only [show min (Int.toNat 0) 64 = 0 from rfl, show min (Int.toNat 8) 64 = 8 from rfl, show min (Int.toNat 16) 64 = 16 from rfl, show min (Int.toNat 24) 64 = 24 from rfl, show min (Int.toNat 32) 64 = 32 from rfl, show min (Int.toNat 40) 64 = 40 from rfl, show min (Int.toNat 48) 64 = 48 from rfl, show min (Int.toNat 56) 64 = 56 from rfl, show (2 : Int) ^ 0 = 1 from rfl, show (2 : Int) ^ 8 = 256 from rfl, show (2 : Int) ^ 16 = 65536 from rfl, show (2 : Int) ^ 24 = 16777216 from rfl, show (2 : Int) ^ 32 = 4294967296 from rfl, show (2 : Int) ^ 40 = 1099511627776 from rfl, show (2 : Int) ^ 48 = 281474976710656 from rfl, show (2 : Int) ^ 56 = 72057594037927936 from rfl]
  simp only [List.cons.injEq, and_true]
  refine ⟨?_, ?_, ?_, ?_, ?_, ?_, ?_, ?_⟩ <;> omega
theorem dig_div {u : Int} (h : 0 ≤ u ∧ u < 18446744073709551616) : IntKind.u64.wrap (Int.tdiv u 256) = u / 256 ∧ (0 ≤ u / 256 ∧ u / 256 < 18446744073709551616) ∧ Int.tmod u 256 % 256 = u % 256 := by
  rw [u64_wrap, Int.tdiv_eq_ediv_of_nonneg h.1, Int.tmod_eq_emod_of_nonneg h.1]
  omega
theorem u64_in (n : Int) : 0 ≤ IntKind.u64.wrap n ∧ IntKind.u64.wrap n < 18446744073709551616 := by
  rw [u64_wrap]
  omega
theorem rnums_one (d : Nat) : ∀ (k : Nat) (acc : List Int) (u : Int) (l : List Int) (m i : Int) (j : Nat), j + d = 8 → 0 ≤ u ∧ u < 18446744073709551616 → acc.length + d ≤ 140737488355327 →
    catenaryref06_Nums.l1 (k + d + 1) acc u (j : Int) l m i = catenaryref06_Nums.l0 k (acc ++ digs d u) l m (wrap64 (i + 1)) := by
  induction d with
  | zero =>
    intro k acc u l m i j hj hu hl
    rw [catenaryref06_Nums.l1, if_neg (by omega), digs, List.append_nil]
  | succ d ih =>
    intro k acc u l m i j hj hu hl
    obtain ⟨e1, e2, e3⟩ := dig_div hu
    rw [show k + (d + 1) + 1 = (k + d + 1) + 1 by omega, catenaryref06_Nums.l1, if_pos (by omega), if_pos (by omega), e1, e3]
    rw [show wrap64 ((j : Int) + 1) = ((j + 1 : Nat) : Int) by unfold wrap64; omega]
    rw [ih k _ _ _ _ _ _ (by omega) e2 (by rw [List.length_append, List.length_singleton]; omega), digs, List.append_assoc, List.singleton_append]
theorem rnums_loop (l : List Int) (hl : l.length ≤ 1000) (d : Nat) : ∀ (k i : Nat) (acc : List Int), i + d = l.length → 10 * d < k → acc.length ≤ 8 * i →
    catenaryref06_Nums.l0 k acc l (l.length : Int) (i : Int) = some (acc ++ (l.drop i).flatMap le8) := by
  induction d with
  | zero =>
    intro k i acc h1 h2 h3
    obtain ⟨k, rfl⟩ : ∃ k', k = k' + 1 := ⟨k - 1, by omega⟩
    rw [catenaryref06_Nums.l0, if_neg (by omega), List.drop_of_length_le (by omega)]
    simp
  | succ d ih =>
    intro k i acc h1 h2 h3
    obtain ⟨k, rfl⟩ : ∃ k', k = k' + 8 + 1 + 1 := ⟨k - 10, by omega⟩
    have h0 := rnums_one 8 k acc (IntKind.u64.wrap (rd l (i : Int))) l (l.length : Int) (i : Int) 0 (by omega) (u64_in _) (by omega)
    rw [catenaryref06_Nums.l0, if_pos (by omega), if_pos (by omega), if_pos (by omega)]
    rw [show (0 : Int) = ((0 : Nat) : Int) from rfl, h0, digs_le8]
    rw [show wrap64 ((i : Int) + 1) = ((i + 1 : Nat) : Int) by unfold wrap64; omega]
    rw [ih k (i + 1) _ (by omega) (by omega) (by rw [List.length_append, le8_len]; omega)]
    rw [List.append_assoc, List.drop_eq_getElem_cons (show i < l.length by omega), List.flatMap_cons]
    congr 3
    simp [rd, List.getD_eq_getElem?_getD, List.getElem?_eq_getElem (show i < l.length by omega)]
theorem rparts_f (kind view turn slot : Int) (body : List Int) (k : Nat) (hk : 41 ≤ k) : catenaryref06_parts.f k kind view turn slot body = some (partsA kind view turn slot body) := by
  unfold catenaryref06_parts.f catenaryref06_Nums.f
  have := rnums_loop [kind, view, turn, slot] (by simp) 4 k 0 [] rfl (by omega) (by simp)
  rw [show (0 : Int) = ((0 : Nat) : Int) from rfl, this]
  rfl
theorem rrep_f (i : Int) : catenaryref03_Replica.f i = some (repK i) := by
  unfold catenaryref03_Replica.f repK
  by_cases h0 : i < 0
  · rw [if_neg (by omega), if_pos h0]
  · by_cases h1 : i > 15
    · rw [if_pos (by omega), if_neg (by omega), if_neg h0, if_pos h1]
    · rw [if_pos (by omega), if_pos (by omega), if_neg h0, if_neg h1]
theorem rparts_calls (kind view turn slot : Int) (A : Option Addr) (c : Nat) (body : List Int) (w : World) (hr : Rd w A body) (hc : body.length ≤ c) (hl : body.length ≤ 9223372036854775807) :
    Calls Try.prog 42 #[.int .i64 kind, .agg #[.int .i64 view, .int .i64 turn], .int .i64 slot, .slice A body.length c] w fun e w' => ∃ A c, e = .returned (.slice A (partsA kind view turn slot body).length c) ∧ (partsA kind view turn slot body).length ≤ c ∧ CC w' A (partsA kind view turn slot body) ∧ Below w.heap.size w w' := by
  refine (catenaryref06_parts.calls 41 kind view turn slot (fun _ => True) A c body _ w (hr.V hc hl) (rparts_f kind view turn slot body 41 (Nat.le_refl _))).mono ?_
  rintro e w' ⟨v, rfl, hN, hb⟩
  obtain ⟨A2, c2, rfl, hc2, hF⟩ := Kd.N_V (base' := w.heap.size) hN
  exact ⟨A2, c2, rfl, hc2, (Kd.V_reads' (Kd.N_V (base' := w.heap.size) hN)).2.2, hb⟩
set_option maxHeartbeats 8000000 in
set_option maxRecDepth 100000 in
theorem rright_calls (kind view turn slot : Int) (A : Option Addr) (c : Nat) (body : List Int) (signer : Int) (As : Option Addr) (cs : Nat) (sig : List Int) (w : World) (hr : Rd w A body) (hc : body.length ≤ c) (hl : body.length ≤ 2000000) (hbb : Bys body) (hS : Rd w As sig) (hcs : sig.length ≤ cs) (hsl : sig.length ≤ 9223372036854775807) (hsb : Bys sig) :
    Calls Try.prog 28 #[.int .i64 kind, .agg #[.int .i64 view, .int .i64 turn], .int .i64 slot, .slice A body.length c, .agg #[.int .i64 signer, .slice As sig.length cs]] w fun e w' => e = .returned (.bool (vrA kind view turn slot body signer sig)) ∧ Below w.heap.size w w' := by
  have HR := Aside0.mk (And.intro hr (And.intro hl (And.intro hS (And.intro hsl (And.intro hsb hbb)))))
  clear hr hl hS hsl hsb hbb
  obtain ⟨bb, hbb⟩ : ∃ bb, vrA kind view turn slot body signer sig = bb := ⟨_, rfl⟩
  rw [hbb]
  go_enter Try.func28, Try.ntmps28
  go_wp2
  have hb2 : Below w.heap.size w ((w.alloc (.cells #[.int .i64 view, .int .i64 turn] 28)).alloc (.cells #[.int .i64 signer, .slice As sig.length cs] 55)) := below_alloc (below_alloc (Below.refl _ _) _) _
  have hS2 : ∀ w', Fr (fun _ => False) ((w.alloc (.cells #[.int .i64 view, .int .i64 turn] 28)).alloc (.cells #[.int .i64 signer, .slice As sig.length cs] 55)) w' → w'.cell? ⟨w.heap.size, 0, none⟩ = some (.int .i64 view) ∧ w'.cell? ⟨w.heap.size, 1, none⟩ = some (.int .i64 turn) ∧ w'.cell? ⟨w.heap.size + 1, 0, none⟩ = some (.int .i64 signer) ∧ w'.cell? ⟨w.heap.size + 1, 1, none⟩ = some (.slice As sig.length cs) := fun w' hf => by
    have hga := hf.blk (heap_alloc_new (w.alloc (.cells #[.int .i64 view, .int .i64 turn] 28)) (.cells #[.int .i64 signer, .slice As sig.length cs] 55)) (fun h => h)
    rw [World.size_alloc] at hga
    have hgb := hf.blk ((Fr.of_below (below_alloc (Below.refl _ (w.alloc (.cells #[.int .i64 view, .int .i64 turn] 28))) (.cells #[.int .i64 signer, .slice As sig.length cs] 55)) (fun _ => False)).blk (heap_alloc_new w (.cells #[.int .i64 view, .int .i64 turn] 28)) (fun h => h)) (fun h => h)
    simp [World.cell?, hga, hgb]
  generalize (w.alloc (.cells #[.int .i64 view, .int .i64 turn] 28)).alloc (.cells #[.int .i64 signer, .slice As sig.length cs] 55) = w2 at *
  have F2 := Fr.of_below hb2 (fun _ => False)
  have HP : ∀ w1, Below w2.heap.size w2 w1 → Calls Try.prog 41 #[.int .i64 signer] w1 fun e w3 => e = .returned (.int .i64 (repK signer)) ∧ (w3.cell? ⟨w.heap.size, 0, none⟩ = some (.int .i64 view) ∧ w3.cell? ⟨w.heap.size, 1, none⟩ = some (.int .i64 turn) ∧ w3.cell? ⟨w.heap.size + 1, 0, none⟩ = some (.int .i64 signer) ∧ w3.cell? ⟨w.heap.size + 1, 1, none⟩ = some (.slice As sig.length cs)) ∧ Aside0 (Fr (fun _ => False) w2 w3) := by
    intro w1 hb1
    refine (catenaryref03_Replica.calls signer _ w1 (rrep_f signer)).mono ?_
    rintro e w3 ⟨rfl, hd⟩
    have f3 := (Fr.of_below hb1 (fun _ => False)).trans (Fr.of_below hd.below (fun _ => False)) (fun _ h => h.elim)
    exact ⟨rfl, hS2 _ f3, ⟨f3⟩⟩
  have HA : ∀ w1, Aside0 (Fr (fun _ => False) w2 w1) → Calls Try.prog 42 #[.int .i64 kind, .agg #[.int .i64 view, .int .i64 turn], .int .i64 slot, .slice A body.length c] w1 fun e w3 => ∃ A3 c3, e = .returned (.slice A3 (partsA kind view turn slot body).length c3) ∧ (w3.cell? ⟨w.heap.size, 0, none⟩ = some (.int .i64 view) ∧ w3.cell? ⟨w.heap.size, 1, none⟩ = some (.int .i64 turn) ∧ w3.cell? ⟨w.heap.size + 1, 0, none⟩ = some (.int .i64 signer) ∧ w3.cell? ⟨w.heap.size + 1, 1, none⟩ = some (.slice As sig.length cs)) ∧ Aside0 (Fr (fun _ => False) w2 w3 ∧ CC w3 A3 (partsA kind view turn slot body) ∧ (partsA kind view turn slot body).length ≤ c3) := by
    intro w1 f1
    refine (rparts_calls kind view turn slot A c body w1 ((HR.out.1.lies F2).lies f1.out) hc (by have := HR.out.2.1; omega)).mono ?_
    rintro e w3 ⟨A3, c3, rfl, hc3, hC3, hb3⟩
    have f3 := f1.out.trans (Fr.of_below hb3 (fun _ => False)) (fun _ h => h.elim)
    exact ⟨A3, c3, rfl, hS2 _ f3, ⟨f3, hC3, hc3⟩⟩
  have HB : ∀ w3 A3 c3, Aside0 (Fr (fun _ => False) w2 w3 ∧ CC w3 A3 (partsA kind view turn slot body) ∧ (partsA kind view turn slot body).length ≤ c3) → Calls Try.prog 40 #[.int .i64 (repK signer), .slice As sig.length cs, .string voteS, .slice A3 (partsA kind view turn slot body).length c3] w3 fun e w4 => e = .returned (.bool bb) ∧ (w4.cell? ⟨w.heap.size, 0, none⟩ = some (.int .i64 view) ∧ w4.cell? ⟨w.heap.size, 1, none⟩ = some (.int .i64 turn) ∧ w4.cell? ⟨w.heap.size + 1, 0, none⟩ = some (.int .i64 signer) ∧ w4.cell? ⟨w.heap.size + 1, 1, none⟩ = some (.slice As sig.length cs)) ∧ Aside0 (Fr (fun _ => False) w2 w4) := by
    intro w3 A3 c3 H
    have hv := rverify_calls (repK signer) voteS As cs sig A3 c3 (partsA kind view turn slot body) w3 ((HR.out.2.2.1.lies F2).lies H.out.1) hcs HR.out.2.2.2.1 HR.out.2.2.2.2.1 H.out.2.1 H.out.2.2 (by rw [partsA_sz]; have := HR.out.2.1; show _ + 4 ≤ _; omega) (partsA_bys HR.out.2.2.2.2.2)
    rw [show (decide (0 ≤ repK signer ∧ repK signer ≤ 127) && decide (sig = sgA (repK signer) voteS (partsA kind view turn slot body))) = bb from hbb] at hv
    refine hv.mono ?_
    rintro e w4 ⟨rfl, hb4⟩
    have f4 := H.out.1.trans (Fr.of_below hb4 (fun _ => False)) (fun _ h => h.elim)
    exact ⟨rfl, hS2 _ f4, ⟨f4⟩⟩
  have hs2 := hS2 _ (Fr.refl _ _)
  have HP := Aside0.mk HP
  have HA := Aside0.mk HA
  have HB := Aside0.mk HB
  have HF := Aside0.mk F2
  clear hS2 hb2 F2 hbb
  go_region_held3 (fun w' => w'.cell? ⟨w.heap.size, 0, none⟩ = some (.int .i64 view) ∧ w'.cell? ⟨w.heap.size, 1, none⟩ = some (.int .i64 turn) ∧ w'.cell? ⟨w.heap.size + 1, 0, none⟩ = some (.int .i64 signer) ∧ w'.cell? ⟨w.heap.size + 1, 1, none⟩ = some (.slice As sig.length cs)) (first | exact hs2 | exact hs1 | exact hs3 | exact hs4)
    (first | (go_at_call 41; refine (HP.out _ (below_drew (Below.refl _ _))).mono ?_; rintro e w1 ⟨rfl, hs1, H1⟩) | (go_at_call 42; refine (HA.out _ H1).mono ?_; rintro e w3 ⟨A3, c3, rfl, hs3, H3⟩) | (go_at_call 40; refine (HB.out _ _ _ H3).mono ?_; rintro e w4 ⟨rfl, hs4, H4⟩))
  go_wp2
  go_ret
  exact ⟨rfl, frB (HF.out.trans H4.out (fun _ h => h.elim))⟩
end Go.Proofs.Ytnabilhcmplhcaa.Sha
end
section
/-
  The document's bytes of a request.
-/
set_option linter.unusedVariables false
set_option linter.unusedSimpArgs false
namespace Go.Proofs.Ytnabilhcmplhcaa.Sha
open Go.RowKit Go.Proofs.YtnabilhcmplhcaaW.PrintWords Go.Proofs.YtnabilhcmplhcaaW.PrintLast Go.Proofs.YtnabilhcmplhcaaW.PrintMore Go.Proofs.Ytnabilhcmplhcaa.Q Go.Proofs.Ytnabilhcmplhcaa.Fr Go.Proofs.Ytnabilhcmplhcaa.Oct

set_option maxRecDepth 100000 in
theorem fm41 {a : Act} (h : Fm 41 a) : a = ⟨#[sl a 0, sl a 1, sl a 2, sl a 3, sl a 4, sl a 5, sl a 6, sl a 7, sl a 8, sl a 9, sl a 10, sl a 11, sl a 12, sl a 13, sl a 14, sl a 15, sl a 16, sl a 17, sl a 18, sl a 19, sl a 20, sl a 21, sl a 22, sl a 23, sl a 24, sl a 25, sl a 26, sl a 27, sl a 28, sl a 29, sl a 30, sl a 31, sl a 32, sl a 33, sl a 34, sl a 35, sl a 36, sl a 37, sl a 38, sl a 39, sl a 40], []⟩ := by
  obtain ⟨T, D⟩ := a
  obtain ⟨h1, h2⟩ := h
  obtain rfl : D = [] := h2
  obtain ⟨l⟩ := T
  have h1 : l.length = 41 := h1
  congr 2
  refine List.ext_getElem? fun i => ?_
  by_cases hi : i < 41
  · have hx : ∀ j, j < 41 → l[j]? = some (sl ⟨⟨l⟩, []⟩ j) := fun j hj => by
      have hl : j < l.length := by omega
      simp [sl, Array.getD_eq_getD_getElem?, List.getElem?_eq_getElem hl]
    rw [hx i hi]
    have : ∀ (s : Nat → Value) (i : Nat), i < 41 → ((List.range 41).map s)[i]? = some (s i) := fun s i hi => by simp [hi]
    exact (this _ i hi).symm
  · have h2 : ∀ (s : Nat → Value), ((List.range 41).map s)[i]? = none := fun s => by simp; omega
    exact (List.getElem?_eq_none (by omega)).trans (h2 _).symm
set_option maxHeartbeats 8000000 in
set_option maxRecDepth 100000 in
theorem roundBI (u : Nat → Value) (v : Value) (x : Int) (hx : 0 ≤ x ∧ x < 18446744073709551616) (j : Nat) (hj : j < 8) (xs : List Int) (base : Nat) (w0 w : World) (hb0 : w0.heap.size ≤ base) (hb : base ≤ w.heap.size) (hl : xs.length < 1000) (hq : OB w base v xs) (hf : Fr (fun _ => False) w0 w)
    (Q : Exit → Act → World → Prop) (hQ : ∀ a' w' v', Fm 41 a' → sl a' 3 = v' → sl a' 5 = .int .u64 (x / 256) → sl a' 6 = .int .i64 ((j : Int) + 1) → sl a' 1 = u 1 → sl a' 14 = u 14 → sl a' 15 = u 15 → OB w' base v' (xs ++ [x % 256]) → Fr (fun _ => False) w0 w' → base ≤ w'.heap.size → Q .normal a' w') :
    Code.wp Try.prog (bodyIn Try.f29 0 0) Q ⟨#[u 0, u 1, u 2, v, u 4, .int .u64 x, .int .i64 (j : Int), u 7, u 8, u 9, u 10, u 11, u 12, u 13, u 14, u 15, u 16, u 17, u 18, u 19, u 20, u 21, u 22, u 23, u 24, u 25, u 26, u 27, u 28, u 29, u 30, u 31, u 32, u 33, u 34, u 35, u 36, u 37, u 38, u 39, u 40], []⟩ w := by
  obtain ⟨e1, e2, e3⟩ := dig_div hx
  have HQ := Aside0.mk hq
  have HF := Aside0.mk hf
  obtain ⟨A, c, rfl, _⟩ := hq.slice
  clear hq hf
  have c0 : decide ((j : Int) < 8) = true := decide_eq_true (by omega)
  have ew : wrap64 ((j : Int) + 1) = (j : Int) + 1 := by unfold wrap64; omega
  have HX := Aside0.mk (And.intro e1 e3)
  clear e1 e2 e3 hx
  conv => arg 2; whnf
  go_wp2_with (first | ((with_reducible refine gate_builtin (b := .append) (xs := #[.tmp 22, .tmp 26]) rfl ?_); at_builtin; refine Aside0.out ?_))
  refine ⟨?_⟩
  refine wpList_appo rfl (by rfl) base _ _ (by rfl) info5 (.slice A xs.length c) xs (by rfl) (HQ.out.fr ((Fr.refl (fun _ => False) w).alloc _) (fun k hk h => h)) _ _ _ [Int.tmod x 256 % 256] (by rfl) (by rfl) (Rd.blk (heap_alloc_new _ _)) (by simp) (by simp only [List.length_cons, List.length_nil]; omega) (by rw [World.size_alloc]; omega) ?_
  intro v1 w1 hq1 hf1 hat1
  have hF1 := (HF.out.alloc (.cells #[Value.int .u8 (Int.tmod x 256 % 256)] 5)).trans hf1 (S := fun _ => False) (fun k hk => .inr (by have := HQ.out.base k hk.symm; omega))
  have hs1 := hf1.size
  rw [World.size_alloc] at hs1
  clear hf1 HF HQ
  rw [HX.out.2] at hq1
  go_wp2
  exact hQ _ _ _ ⟨rfl, rfl⟩ rfl (by show Value.int .u64 _ = _; rw [← HX.out.1]) rfl rfl rfl rfl hq1 hF1 (by omega)
set_option maxHeartbeats 8000000 in
set_option maxRecDepth 100000 in
theorem exitBI (u : Nat → Value) (w : World) (Q : Exit → Act → World → Prop) (hQ : ∀ a', Fm 41 a' → sl a' 3 = u 3 → sl a' 1 = u 1 → sl a' 14 = u 14 → sl a' 15 = u 15 → Q (.exit 2) a' w) :
    Code.wp Try.prog (bodyIn Try.f29 0 0) Q ⟨#[u 0, u 1, u 2, u 3, u 4, u 5, .int .i64 8, u 7, u 8, u 9, u 10, u 11, u 12, u 13, u 14, u 15, u 16, u 17, u 18, u 19, u 20, u 21, u 22, u 23, u 24, u 25, u 26, u 27, u 28, u 29, u 30, u 31, u 32, u 33, u 34, u 35, u 36, u 37, u 38, u 39, u 40], []⟩ w := by
  conv => arg 2; whnf
  go_wp2
  exact hQ _ ⟨rfl, rfl⟩ rfl rfl rfl rfl
def JBI (S1 S14 S15 : Value) (xs : List Int) (x0 : Int) (base : Nat) (w0 : World) (t : Nat) (a : Act) (w : World) : Prop :=
  Fm 41 a ∧ sl a 1 = S1 ∧ sl a 14 = S14 ∧ sl a 15 = S15 ∧ sl a 6 = .int .i64 (t : Int) ∧ ∃ x ys, sl a 5 = .int .u64 x ∧ (0 ≤ x ∧ x < 18446744073709551616) ∧ ys.length = t ∧ ys ++ digs (8 - t) x = digs 8 x0 ∧ OB w base (sl a 3) (xs ++ ys) ∧ Fr (fun _ => False) w0 w ∧ base ≤ w.heap.size
theorem loopBI (S1 S14 S15 : Value) (xs : List Int) (x0 : Int) (base : Nat) (w0 : World) (hb0 : w0.heap.size ≤ base) (hl : xs.length < 900)
    (Q : Exit → Act → World → Prop) (hQ : ∀ a' w', Fm 41 a' → sl a' 1 = S1 → sl a' 14 = S14 → sl a' 15 = S15 → OB w' base (sl a' 3) (xs ++ digs 8 x0) → Fr (fun _ => False) w0 w' → base ≤ w'.heap.size → Q (.exit 2) a' w')
    (a : Act) (w : World) (h : JBI S1 S14 S15 xs x0 base w0 0 a w) : (Code.loop (bodyIn Try.f29 0 0)).wp Try.prog Q a w := by
  refine wp_loop_up 8 (JBI S1 S14 S15 xs x0 base w0) h ?_
  rintro t a w ht ⟨hF, h1, h14, h15, h6, x, ys, h5, hx, hy, he, hq, hf, hb⟩
  have ha := fm41 hF
  by_cases h64 : t = 8
  · subst h64
    rw [h6] at ha
    rw [ha]
    simp only [Nat.sub_self, digs, List.append_nil] at he
    rw [he] at hq
    exact exitBI (sl a) w _ fun a' b0 b3 b1 b14 b15 => hQ _ _ b0 (b1.trans h1) (b14.trans h14) (b15.trans h15) (by rw [b3]; exact hq) hf hb
  · rw [h5, h6] at ha
    rw [ha]
    refine roundBI (sl a) (sl a 3) x hx t (by omega) (xs ++ ys) base w0 w hb0 hb (by rw [List.length_append]; omega) hq hf _ ?_
    intro a' w' v' b0 b3 b5 b6 b1 b14 b15 bq bf bb
    refine ⟨by omega, b0, b1.trans h1, b14.trans h14, b15.trans h15, by rw [b6]; rfl, _, ys ++ [x % 256], b5, by omega, by rw [List.length_append, List.length_singleton, hy], ?_, by rw [b3, ← List.append_assoc]; exact bq, bf, bb⟩
    rw [← he, show 8 - t = (8 - (t + 1)) + 1 by omega, digs, List.append_assoc, List.singleton_append]
set_option maxHeartbeats 8000000 in
set_option maxRecDepth 100000 in
theorem roundBO (u : Nat → Value) (v : Value) (c s : Int) (t : Nat) (ht : t = 0 ∨ t = 1) (xs : List Int) (base : Nat) (w0 w : World) (hb0 : w0.heap.size ≤ base) (hb : base ≤ w.heap.size) (hl : xs.length < 900) (hq : OB w base v xs) (hf : Fr (fun _ => False) w0 w)
    (Q : Exit → Act → World → Prop) (hQ : ∀ a' w', Fm 41 a' → sl a' 1 = u 1 → sl a' 14 = .agg #[.int .u64 (IntKind.u64.wrap c), .int .u64 (IntKind.u64.wrap s)] → sl a' 15 = .int .i64 ((t : Int) + 1) → OB w' base (sl a' 3) (xs ++ le8 (if t = 0 then c else s)) → Fr (fun _ => False) w0 w' → base ≤ w'.heap.size → Q .normal a' w') :
    Code.wp Try.prog (bodyN Try.f29 0) Q ⟨#[u 0, u 1, u 2, v, u 4, u 5, u 6, u 7, u 8, u 9, u 10, u 11, u 12, u 13, .agg #[.int .u64 (IntKind.u64.wrap c), .int .u64 (IntKind.u64.wrap s)], .int .i64 (t : Int), u 16, u 17, u 18, u 19, u 20, u 21, u 22, u 23, u 24, u 25, u 26, u 27, u 28, u 29, u 30, u 31, u 32, u 33, u 34, u 35, u 36, u 37, u 38, u 39, u 40], []⟩ w := by
  have HQ := Aside0.mk hq
  have HF := Aside0.mk hf
  clear hq hf
  obtain ⟨uc, huc⟩ : ∃ x, IntKind.u64.wrap c = x := ⟨_, rfl⟩
  obtain ⟨us, hus⟩ : ∃ x, IntKind.u64.wrap s = x := ⟨_, rfl⟩
  have hc := u64_in c
  have hs := u64_in s
  have dc := digs_le8 c
  have ds := digs_le8 s
  rw [huc] at hc dc hQ ⊢
  rw [hus] at hs ds hQ ⊢
  have HD := Aside0.mk (And.intro hc (And.intro hs (And.intro dc ds)))
  clear hc hs dc ds huc hus
  rcases ht with rfl | rfl
  · have hix : (Instr.index 96 (.agg #[.int .u64 uc, .int .u64 us]) (.int .i64 0)).run Try.prog w = .ok (.int .u64 uc) w := by kernel_rfl
    conv => arg 2; whnf
    go_wp2
    refine loopBI (u 1) (.agg #[.int .u64 uc, .int .u64 us]) (.int .i64 0) xs uc base w0 hb0 hl _ ?_ _ _ ?_
    rotate_left
    · exact ⟨⟨rfl, rfl⟩, rfl, rfl, rfl, rfl, uc, [], rfl, HD.out.1, rfl, rfl, by rw [List.append_nil]; exact HQ.out, HF.out, hb⟩
    intro a' w' hFm j1 j14 j15 jq jf jb
    rw [HD.out.2.2.1] at jq
    have hv : ∃ v', sl a' 3 = v' := ⟨_, rfl⟩
    obtain ⟨v', hv⟩ := hv
    rw [hv] at jq
    rw [fm41 hFm, j1, j14, j15, hv]
    clear HQ HF hFm j1 j14 j15 hv HD
    go_wp2
    exact hQ _ _ ⟨rfl, rfl⟩ rfl rfl rfl jq jf jb
  · have hix : (Instr.index 96 (.agg #[.int .u64 uc, .int .u64 us]) (.int .i64 1)).run Try.prog w = .ok (.int .u64 us) w := by kernel_rfl
    conv => arg 2; whnf
    go_wp2
    refine loopBI (u 1) (.agg #[.int .u64 uc, .int .u64 us]) (.int .i64 1) xs us base w0 hb0 hl _ ?_ _ _ ?_
    rotate_left
    · exact ⟨⟨rfl, rfl⟩, rfl, rfl, rfl, rfl, us, [], rfl, HD.out.2.1, rfl, rfl, by rw [List.append_nil]; exact HQ.out, HF.out, hb⟩
    intro a' w' hFm j1 j14 j15 jq jf jb
    rw [HD.out.2.2.2] at jq
    have hv : ∃ v', sl a' 3 = v' := ⟨_, rfl⟩
    obtain ⟨v', hv⟩ := hv
    rw [hv] at jq
    rw [fm41 hFm, j1, j14, j15, hv]
    clear HQ HF hFm j1 j14 j15 hv HD
    go_wp2
    exact hQ _ _ ⟨rfl, rfl⟩ rfl rfl rfl jq jf jb
set_option maxHeartbeats 8000000 in
set_option maxRecDepth 100000 in
theorem exitBO (u : Nat → Value) (w : World) (Q : Exit → Act → World → Prop) (hQ : ∀ a', Fm 41 a' → sl a' 3 = u 3 → sl a' 1 = u 1 → Q (.exit 0) a' w) :
    Code.wp Try.prog (bodyN Try.f29 0) Q ⟨#[u 0, u 1, u 2, u 3, u 4, u 5, u 6, u 7, u 8, u 9, u 10, u 11, u 12, u 13, u 14, .int .i64 2, u 16, u 17, u 18, u 19, u 20, u 21, u 22, u 23, u 24, u 25, u 26, u 27, u 28, u 29, u 30, u 31, u 32, u 33, u 34, u 35, u 36, u 37, u 38, u 39, u 40], []⟩ w := by
  conv => arg 2; whnf
  go_wp2
  exact hQ _ ⟨rfl, rfl⟩ rfl rfl
theorem loopBO (S1 : Value) (c s : Int) (base : Nat) (w0 : World) (hb0 : w0.heap.size ≤ base)
    (Q : Exit → Act → World → Prop) (hQ : ∀ a' w', Fm 41 a' → sl a' 1 = S1 → OB w' base (sl a' 3) (le8 c ++ le8 s) → Fr (fun _ => False) w0 w' → base ≤ w'.heap.size → Q (.exit 0) a' w')
    (a : Act) (w : World) (h : Fm 41 a ∧ sl a 1 = S1 ∧ sl a 14 = .agg #[.int .u64 (IntKind.u64.wrap c), .int .u64 (IntKind.u64.wrap s)] ∧ sl a 15 = .int .i64 0 ∧ OB w base (sl a 3) [] ∧ Fr (fun _ => False) w0 w ∧ base ≤ w.heap.size) : (Code.loop (bodyN Try.f29 0)).wp Try.prog Q a w := by
  refine wp_loop_up 2 (fun t a w => Fm 41 a ∧ sl a 1 = S1 ∧ sl a 14 = .agg #[.int .u64 (IntKind.u64.wrap c), .int .u64 (IntKind.u64.wrap s)] ∧ sl a 15 = .int .i64 (t : Int) ∧ OB w base (sl a 3) (([c, s].take t).flatMap le8) ∧ Fr (fun _ => False) w0 w ∧ base ≤ w.heap.size) h ?_
  rintro t a w ht ⟨hF, h1, h14, h15, hq, hf, hb⟩
  have ha := fm41 hF
  by_cases h64 : t = 2
  · subst h64
    rw [h15] at ha
    rw [ha]
    exact exitBO (sl a) w _ fun a' b0 b3 b1 => hQ _ _ b0 (b1.trans h1) (by rw [b3]; simpa using hq) hf hb
  · rw [h14, h15] at ha
    rw [ha]
    refine roundBO (sl a) (sl a 3) c s t (by omega) _ base w0 w hb0 hb (by rcases (show t = 0 ∨ t = 1 by omega) with rfl | rfl <;> simp [le8_len]) hq hf _ ?_
    intro a' w' b0 b1 b14 b15 bq bf bb
    refine ⟨by omega, b0, b1.trans h1, b14, by rw [b15]; rfl, ?_, bf, bb⟩
    rcases (show t = 0 ∨ t = 1 by omega) with rfl | rfl
    · simpa using bq
    · simpa using bq
set_option maxHeartbeats 8000000 in
set_option maxRecDepth 100000 in
theorem rbody_calls (c s : Int) (Ao : Option Addr) (co : Nat) (op : List Int) (As : Option Addr) (cs : Nat) (sg : List Int) (w : World) (ho : Rd w Ao op) (hco : op.length ≤ co) (hg : Rd w As sg) (hcs : sg.length ≤ cs) (lo : op.length + sg.length ≤ 1048576) :
    Calls Try.prog 29 #[.agg #[.int .i64 c, .int .i64 s, .slice Ao op.length co, .slice As sg.length cs]] w fun e w' => ∃ v : Value, e = .returned v ∧ OB w' w.heap.size v (bodyA c s op sg) ∧ Below w.heap.size w w' := by
  have HR := Aside0.mk (And.intro ho (And.intro hg lo))
  clear ho hg lo
  have hg1 := heap_alloc_new w (.cells #[.int .i64 c, .int .i64 s, .slice Ao op.length co, .slice As sg.length cs] 31)
  have hb1 := below_alloc (Below.refl w.heap.size w) (.cells #[.int .i64 c, .int .i64 s, .slice Ao op.length co, .slice As sg.length cs] 31)
  have hz1 : (w.alloc (.cells #[.int .i64 c, .int .i64 s, .slice Ao op.length co, .slice As sg.length cs] 31)).heap.size = w.heap.size + 1 := by rw [World.size_alloc]
  go_enter Try.func29, Try.ntmps29
  go_wp2_with (fail)
  have f1 := Fr.of_below hb1 (fun _ => False)
  generalize w.alloc (.cells #[.int .i64 c, .int .i64 s, .slice Ao op.length co, .slice As sg.length cs] 31) = w1 at *
  have hq2 := World.ownsRow_lit (base := w1.heap.size) (e := 5) (size := 1) w1 #[] 0 (Nat.le_refl _) (by decide) (by simp)
  have hb2 := below_alloc (Below.refl w1.heap.size w1) (.cells #[] 5)
  rw [hz1] at hq2
  have f2 := Fr.of_below hb2 (fun _ => False)
  generalize w1.alloc (.cells #[] 5) = w2 at *
  have H1 := Aside0.mk (And.intro f1 (And.intro hg1 (And.intro f2 hq2)))
  have z2 := f2.size
  clear hg1 hb1 hb2 f1 f2 hq2
  refine loopBO (.pointer (some ⟨w.heap.size, 0, none⟩)) c s w1.heap.size w1 (Nat.le_refl _) _ ?_ _ _ ?_
  rotate_left
  · exact ⟨⟨rfl, rfl⟩, rfl, rfl, rfl, by rw [hz1]; exact H1.out.2.2.2, H1.out.2.2.1, z2⟩
  intro a' w3 hFm j1 jq jf jb
  obtain ⟨A3, c3, hv, _⟩ := jq.slice
  rw [hv] at jq
  rw [fm41 hFm, j1, hv]
  have k3 := jf.blk H1.out.2.1 (fun h => h)
  have k : w3.cell? ⟨w.heap.size, 2, none⟩ = some (.slice Ao op.length co) := by simp [World.cell?, k3]
  have H3 := Aside0.mk (And.intro (H1.out.1.trans jf (fun _ h => h.elim)) (And.intro k3 (jq.lower H1.out.1.size)))
  have hl3 : (le8 c ++ le8 s).length = 16 := rfl
  clear H1 hFm j1 hv jf k3 jq z2 hz1
  go_wp2_with (fail)
  refine (catenaryref01_Bytes.calls 14 Ao co op _ w3 ((HR.out.1.lies H3.out.1).C (by have := HR.out.2.2; omega)) hco (rbytes_f op (by have := HR.out.2.2; omega) 14 (Nat.le_refl _))).mono ?_
  rintro e w4 ⟨v4, rfl, hR4, hb4⟩
  have hO4 : OB w4 w3.heap.size v4 (bytesA op) := Kd.own_of_R hR4
  obtain ⟨A4, c4, rfl, hc4⟩ := hO4.slice
  have f4 := Fr.of_below hb4 (fun _ => False)
  have hp4 := bytesA_pos op
  have hl4 := (bytesA_len op).1
  have HP4 := Aside0.mk (And.intro hp4 hl4)
  have H4 := Aside0.mk (And.intro (H3.out.1.trans f4 (fun _ h => h.elim)) (And.intro (f4.blk H3.out.2.1 (fun h => h)) (And.intro (H3.out.2.2.fr f4 (fun _ _ h => h)) (QB.rd (q_of_own hO4)))))
  clear hR4 hb4 hO4 f4 H3 k hp4 hl4
  go_wp2_with (first | ((with_reducible refine gate_builtin (b := .append) (xs := #[.tmp 31, .tmp 34]) rfl ?_); at_builtin; refine Aside0.out ?_))
  refine ⟨?_⟩
  have z4 := H4.out.1.size
  refine wpList_appo rfl (by rfl) w.heap.size _ _ (by rfl) info5 (.slice A3 (le8 c ++ le8 s).length c3) (le8 c ++ le8 s) (by rfl) H4.out.2.2.1 A4 _ c4 (bytesA op) (by rfl) rfl H4.out.2.2.2 (by intro e; have := HP4.out.1; rw [e] at this; cases this) (by have := HP4.out.2; have := HR.out.2.2; omega) z4 ?_
  intro v5 w5 hq5 hf5 hat5
  obtain ⟨A5, c5, rfl, hc5⟩ := hq5.slice
  have F5 := H4.out.1.trans hf5 (S := fun _ => False) (fun k hk => .inr (H4.out.2.2.1.base k hk.symm))
  have hg5 := hf5.blk H4.out.2.1 (fun e => by
    obtain ⟨_, cells, hc⟩ := q_typed (q_of_own H4.out.2.2.1) _ e.symm
    rw [H4.out.2.1] at hc
    injection hc with hc
    injection hc with _ hc _
    cases hc)
  have k : w5.cell? ⟨w.heap.size, 3, none⟩ = some (.slice As sg.length cs) := by simp [World.cell?, hg5]
  obtain ⟨L, hL⟩ : ∃ L, le8 c ++ le8 s ++ bytesA op = L := ⟨_, rfl⟩
  have hLl : L.length = 16 + (bytesA op).length := by rw [← hL, List.length_append, hl3]
  rw [hL] at hq5 hc5 ⊢
  have H5 := Aside0.mk (And.intro F5 (And.intro hq5 (And.intro hLl hL)))
  clear H4 hq5 hf5 hat5 F5 hg5 hLl hL z4 hc4
  go_wp2_with (fail)
  refine (catenaryref01_Bytes.calls 14 As cs sg _ w5 ((HR.out.2.1.lies H5.out.1).C (by have := HR.out.2.2; omega)) hcs (rbytes_f sg (by have := HR.out.2.2; omega) 14 (Nat.le_refl _))).mono ?_
  rintro e w6 ⟨v6, rfl, hR6, hb6⟩
  have hO6 : OB w6 w5.heap.size v6 (bytesA sg) := Kd.own_of_R hR6
  obtain ⟨A6, c6, rfl, hc6⟩ := hO6.slice
  have f6 := Fr.of_below hb6 (fun _ => False)
  have HP6 := Aside0.mk (And.intro (bytesA_pos sg) (bytesA_len sg).1)
  have H6 := Aside0.mk (And.intro (H5.out.1.trans f6 (fun _ h => h.elim)) (And.intro (H5.out.2.1.fr f6 (fun _ _ h => h)) (QB.rd (q_of_own hO6))))
  clear hR6 hb6 hO6 f6 k
  go_wp2_with (first | ((with_reducible refine gate_builtin (b := .append) (xs := #[.tmp 36, .tmp 39]) rfl ?_); at_builtin; refine Aside0.out ?_))
  refine ⟨?_⟩
  have z6 := H6.out.1.size
  refine wpList_appo rfl (by rfl) w.heap.size _ _ (by rfl) info5 (.slice A5 L.length c5) L (by rfl) H6.out.2.1 A6 _ c6 (bytesA sg) (by rfl) rfl H6.out.2.2 (by intro e; have := HP6.out.1; rw [e] at this; cases this) (by have := HP6.out.2; have := HP4.out.2; have := HR.out.2.2; have := H5.out.2.2.1; omega) z6 ?_
  intro v7 w7 hq7 hf7 hat7
  have F7 := H6.out.1.trans hf7 (S := fun _ => False) (fun k hk => .inr (H6.out.2.1.base k hk.symm))
  have e7 : L ++ bytesA sg = bodyA c s op sg := by rw [← H5.out.2.2.2]; rfl
  rw [e7] at hq7
  clear H6 hf7 hat7 H5
  go_wp2
  go_ret
  exact ⟨v7, rfl, hq7, frB F7⟩
end Go.Proofs.Ytnabilhcmplhcaa.Sha
end
section
/-
  Evidence of two votes.
-/
set_option linter.unusedVariables false
set_option linter.unusedSimpArgs false
namespace Go.Proofs.Ytnabilhcmplhcaa.Sha
open Go.RowKit Go.Proofs.YtnabilhcmplhcaaW.PrintWords Go.Proofs.YtnabilhcmplhcaaW.PrintLast Go.Proofs.YtnabilhcmplhcaaW.PrintMore Go.Proofs.Ytnabilhcmplhcaa.Q Go.Proofs.Ytnabilhcmplhcaa.Fr Go.Proofs.Ytnabilhcmplhcaa.Oct

/-- A slice of bytes that can be read. -/
def Ls (w : World) (A : Option Addr) (c : Nat) (l : List Int) : Prop := l.length ≤ c ∧ Rd w A l
theorem Ls.fr {w w' : World} {A : Option Addr} {c : Nat} {l : List Int} (h : Ls w A c l) (hf : Fr (fun _ => False) w w') : Ls w' A c l := ⟨h.1, h.2.lies hf⟩
/-- .. in a block of bytes. -/
def Lt (w : World) (A : Option Addr) (c : Nat) (l : List Int) : Prop := Ls w A c l ∧ ∀ k, (Value.slice A l.length c).ownBlock = some k → ∃ cells, w.heap[k]? = some (.cells cells 5 (0, 0))
theorem Lt.frT {w w' : World} {A : Option Addr} {c : Nat} {l : List Int} {F : Nat → Prop} (h : Lt w A c l) (hf : Fr F w w') (hF : ∀ k cells, w.heap[k]? = some (.cells cells 5 (0, 0)) → ¬ F k) : Lt w' A c l :=
  ⟨⟨h.1.1, h.1.2.fr hf (fun ad e hk => by
    obtain ⟨cells, hc⟩ := h.2 ad.block (by subst e; rfl)
    exact hF _ _ hc hk)⟩, fun k hk => by
    obtain ⟨cells, hc⟩ := h.2 k hk
    exact ⟨cells, hf.blk hc (hF _ _ hc)⟩⟩
theorem Lt.fr {w w' : World} {A : Option Addr} {c : Nat} {l : List Int} (h : Lt w A c l) (hf : Fr (fun _ => False) w w') : Lt w' A c l := h.frT hf (fun _ _ _ e => e)
/-- .. from N on. -/
def Lo (N : Nat) (w : World) (A : Option Addr) (c : Nat) (l : List Int) : Prop := Lt w A c l ∧ ∀ k, (Value.slice A l.length c).ownBlock = some k → N ≤ k
theorem Lo.fr {N : Nat} {w w' : World} {A : Option Addr} {c : Nat} {l : List Int} (h : Lo N w A c l) (hf : Fr (fun _ => False) w w') : Lo N w' A c l := ⟨h.1.fr hf, h.2⟩
theorem clone_calls (c s : Int) (Ao : Option Addr) (co : Nat) (op : List Int) (As : Option Addr) (cs : Nat) (sg : List Int) (w : World) (ho : Rd w Ao op) (hco : op.length ≤ co) (hg : Rd w As sg) (hcs : sg.length ≤ cs) (lo : op.length + sg.length ≤ 1048576) :
    Calls Try.prog 24 #[.agg #[.int .i64 c, .int .i64 s, .slice Ao op.length co, .slice As sg.length cs]] w fun e w' => ∃ B1 d1 B2 d2, e = .returned (.agg #[.int .i64 c, .int .i64 s, .slice B1 op.length d1, .slice B2 sg.length d2]) ∧ Ls w' B1 d1 op ∧ Ls w' B2 d2 sg ∧ OB w' w.heap.size (.slice B1 op.length d1) op ∧ OB w' w.heap.size (.slice B2 sg.length d2) sg ∧ Below w.heap.size w w' := by
  refine (ledger_clone.calls c s Ao co op As cs sg c s op sg w (ho.C (by omega)) hco (hg.C (by omega)) hcs (by unfold ledger_clone.f slices_Clone_byte_byte.f; rw [if_pos (by omega), if_pos (by omega)]; rfl)).mono ?_
  rintro e w' ⟨v2, v3, rfl, hR2, hR3, hb⟩
  have hO2 : OB w' w.heap.size v2 op := Kd.own_of_R hR2
  have hO3 : OB w' w.heap.size v3 sg := Kd.own_of_R hR3
  obtain ⟨B1, d1, rfl, hd1⟩ := hO2.slice
  obtain ⟨B2, d2, rfl, hd2⟩ := hO3.slice
  exact ⟨B1, d1, B2, d2, rfl, ⟨hd1, QB.rd (q_of_own hO2)⟩, ⟨hd2, QB.rd (q_of_own hO3)⟩, hO2, hO3, hb⟩
theorem sclone_calls (A : Option Addr) (c : Nat) (l : List Int) (w : World) (h : Rd w A l) (hc : l.length ≤ c) (hl : l.length ≤ 1048576) :
    Calls Try.prog 25 #[.slice A l.length c] w fun e w' => ∃ B d, e = .returned (.slice B l.length d) ∧ Ls w' B d l ∧ OB w' w.heap.size (.slice B l.length d) l ∧ Below w.heap.size w w' := by
  refine (slices_Clone_byte_byte.calls A c l l w (h.C (by omega)) hc (by unfold slices_Clone_byte_byte.f; rw [if_pos (by omega)])).mono ?_
  rintro e w' ⟨v, rfl, hR, hb⟩
  have hO : OB w' w.heap.size v l := Kd.own_of_R hR
  obtain ⟨B, d, rfl, hd⟩ := hO.slice
  exact ⟨B, d, rfl, ⟨hd, QB.rd (q_of_own hO)⟩, hO, hb⟩
/-- An evidence: its cells, and what its slices hold. -/
def EvAt (w : World) (v : Value) (kind view turn slot signer cX sX : Int) (opX sgX tX : List Int) (cY sY : Int) (opY sgY tY : List Int) : Prop :=
  ∃ B1 d1 B2 d2 B3 d3 B4 d4 B5 d5 B6 d6, v = .agg #[.int .i64 13, .int .i64 view, .int .i64 turn, .int .i64 slot, .int .i64 signer, .int .i64 0, .int .i64 kind, .int .i64 0, .int .i64 cX, .int .i64 sX, .slice B1 opX.length d1, .slice B2 sgX.length d2, .int .i64 cY, .int .i64 sY, .slice B4 opY.length d4, .slice B5 sgY.length d5, .slice B6 tY.length d6, .slice B3 tX.length d3, .slice none 0 0, .slice none 0 0, .slice none 0 0, .slice none 0 0, .slice none 0 0] ∧
    Lt w B1 d1 opX ∧ Lt w B2 d2 sgX ∧ Lt w B3 d3 tX ∧ Lt w B4 d4 opY ∧ Lt w B5 d5 sgY ∧ Lt w B6 d6 tY
def Z48 : Array Value := #[.int .i64 0, .int .i64 0, .int .i64 0, .int .i64 0, .int .i64 0, .int .i64 0, .int .i64 0, .int .i64 0, .int .i64 0, .int .i64 0, .slice none 0 0, .slice none 0 0, .int .i64 0, .int .i64 0, .slice none 0 0, .slice none 0 0, .slice none 0 0, .slice none 0 0, .slice none 0 0, .slice none 0 0, .slice none 0 0, .slice none 0 0, .slice none 0 0]
set_option maxHeartbeats 8000000 in
set_option maxRecDepth 100000 in
theorem evid_keep (kind view turn slot signer : Int) (c1 s1 : Int) (Ao1 : Option Addr) (co1 : Nat) (op1 : List Int) (As1 : Option Addr) (cs1 : Nat) (sg1 : List Int) (c2 s2 : Int) (Ao2 : Option Addr) (co2 : Nat) (op2 : List Int) (As2 : Option Addr) (cs2 : Nat) (sg2 : List Int) (T1 : Option Addr) (k1 : Nat) (t1 : List Int) (T2 : Option Addr) (k2 : Nat) (t2 : List Int) (w : World) (ho1 : Rd w Ao1 op1) (hco1 : op1.length ≤ co1) (hg1 : Rd w As1 sg1) (hcs1 : sg1.length ≤ cs1) (lo1 : op1.length + sg1.length ≤ 1048576) (ho2 : Rd w Ao2 op2) (hco2 : op2.length ≤ co2) (hg2 : Rd w As2 sg2) (hcs2 : sg2.length ≤ cs2) (lo2 : op2.length + sg2.length ≤ 1048576) (ht1 : Ls w T1 k1 t1) (ht2 : Ls w T2 k2 t2) (lt1 : t1.length ≤ 1048576) (lt2 : t2.length ≤ 1048576) (hcm : ¬ 0 < cmpA (bodyA c1 s1 op1 sg1) (bodyA c2 s2 op2 sg2)) :
    Calls Try.prog 27 #[.agg #[.int .i64 kind, .int .i64 view, .int .i64 turn, .int .i64 slot, .int .i64 signer], .agg #[.int .i64 c1, .int .i64 s1, .slice Ao1 op1.length co1, .slice As1 sg1.length cs1], .agg #[.int .i64 c2, .int .i64 s2, .slice Ao2 op2.length co2, .slice As2 sg2.length cs2], .slice T1 t1.length k1, .slice T2 t2.length k2] w fun e w' => ∃ v, e = .returned v ∧ EvAt w' v kind view turn slot signer c1 s1 op1 sg1 t1 c2 s2 op2 sg2 t2 ∧ Below w.heap.size w w' := by
  have HH := Aside0.mk (And.intro ho1 (And.intro hg1 (And.intro lo1 (And.intro ho2 (And.intro hg2 (And.intro lo2 (And.intro ht1 (And.intro ht2 (And.intro lt1 lt2)))))))))
  clear ho1 hg1 lo1 ho2 hg2 lo2 ht1 ht2 lt1 lt2
  obtain ⟨cm, hcmm⟩ : ∃ x, cmpA (bodyA c1 s1 op1 sg1) (bodyA c2 s2 op2 sg2) = x := ⟨_, rfl⟩
  rw [hcmm] at hcm
  have hcd : decide (0 < cm) = false := decide_eq_false hcm
  go_enter Try.func27, Try.ntmps27
  go_wp2_with (first | ((with_reducible refine gate_dst (N := 10) rfl ?_); refine wpList_alloc_abs (by rfl) 48 (by rfl) (.agg Z48) (by kernel_rfl) ?_; intro w3 hb3 hs3 hgZ; (with_reducible refine Aside0.out ?_)))
  refine ⟨?_⟩
  obtain ⟨wa, hwa⟩ : ∃ x, w.alloc (.cells #[.int .i64 kind, .int .i64 view, .int .i64 turn, .int .i64 slot, .int .i64 signer] 67) = x := ⟨_, rfl⟩
  have hba : Below w.heap.size w wa := by rw [← hwa]; exact below_alloc (Below.refl _ _) _
  have hga : wa.heap[w.heap.size]? = some (.cells #[.int .i64 kind, .int .i64 view, .int .i64 turn, .int .i64 slot, .int .i64 signer] 67 (0, 0)) := by rw [← hwa]; exact heap_alloc_new w _
  have hza : wa.heap.size = w.heap.size + 1 := by rw [← hwa, World.size_alloc]
  obtain ⟨wb, hwb⟩ : ∃ x, wa.alloc (.cells #[.int .i64 c1, .int .i64 s1, .slice Ao1 op1.length co1, .slice As1 sg1.length cs1] 31) = x := ⟨_, rfl⟩
  have hbb : Below wa.heap.size wa wb := by rw [← hwb]; exact below_alloc (Below.refl _ _) _
  have hgb : wb.heap[wa.heap.size]? = some (.cells #[.int .i64 c1, .int .i64 s1, .slice Ao1 op1.length co1, .slice As1 sg1.length cs1] 31 (0, 0)) := by rw [← hwb]; exact heap_alloc_new wa _
  have hzb : wb.heap.size = wa.heap.size + 1 := by rw [← hwb, World.size_alloc]
  obtain ⟨wc, hwc⟩ : ∃ x, wb.alloc (.cells #[.int .i64 c2, .int .i64 s2, .slice Ao2 op2.length co2, .slice As2 sg2.length cs2] 31) = x := ⟨_, rfl⟩
  have hbc : Below wb.heap.size wb wc := by rw [← hwc]; exact below_alloc (Below.refl _ _) _
  have hgc : wc.heap[wb.heap.size]? = some (.cells #[.int .i64 c2, .int .i64 s2, .slice Ao2 op2.length co2, .slice As2 sg2.length cs2] 31 (0, 0)) := by rw [← hwc]; exact heap_alloc_new wb _
  have hzc : wc.heap.size = wb.heap.size + 1 := by rw [← hwc, World.size_alloc]
  rw [hwa, hwb, hwc] at hb3 hs3 hgZ
  try rw [hwa, hwb, hwc]
  clear hwa hwb hwc
  have fb := Fr.of_below hbb (fun _ => False)
  have fc := Fr.of_below hbc (fun _ => False)
  have f3 := Fr.of_below hb3 (fun _ => False)
  have hgP := f3.blk (fc.blk (fb.blk hga (fun h => h)) (fun h => h)) (fun h => h)
  have hg1 := f3.blk (fc.blk hgb (fun h => h)) (fun h => h)
  have hg2 := f3.blk hgc (fun h => h)
  have F3 := (((Fr.of_below hba (fun _ => False)).trans fb (fun _ h => h.elim)).trans fc (fun _ h => h.elim)).trans f3 (fun _ h => h.elim)
  rw [show wa.heap.size = w.heap.size + 1 from hza] at hg1
  rw [show wb.heap.size = w.heap.size + 2 by omega] at hg2
  rw [show wc.heap.size = w.heap.size + 3 by omega] at hgZ
  have hz3 : w3.heap.size = w.heap.size + 4 := by omega
  clear hba hga hza hbb hgb hzb hbc hgc hzc hb3 hs3 fb fc f3
  have hS : ∀ w', Fr (fun _ => False) w3 w' → w'.cell? ⟨w.heap.size + 1, 0, none⟩ = some (.int .i64 c1) ∧ w'.cell? ⟨w.heap.size + 1, 1, none⟩ = some (.int .i64 s1) ∧ w'.cell? ⟨w.heap.size + 1, 2, none⟩ = some (.slice Ao1 op1.length co1) ∧ w'.cell? ⟨w.heap.size + 1, 3, none⟩ = some (.slice As1 sg1.length cs1) ∧ w'.cell? ⟨w.heap.size + 2, 0, none⟩ = some (.int .i64 c2) ∧ w'.cell? ⟨w.heap.size + 2, 1, none⟩ = some (.int .i64 s2) ∧ w'.cell? ⟨w.heap.size + 2, 2, none⟩ = some (.slice Ao2 op2.length co2) ∧ w'.cell? ⟨w.heap.size + 2, 3, none⟩ = some (.slice As2 sg2.length cs2) := fun w' hf => by
    have h1 := hf.blk hg1 (fun h => h)
    have h2 := hf.blk hg2 (fun h => h)
    simp [World.cell?, h1, h2]
  have HA : ∀ w1, Fr (fun _ => False) w3 w1 → Calls Try.prog 21 #[.agg #[.int .i64 c1, .int .i64 s1, .slice Ao1 op1.length co1, .slice As1 sg1.length cs1]] w1 fun e w4 => ∃ A2 y2, e = .returned (.slice A2 (bodyA c1 s1 op1 sg1).length y2) ∧ (w4.cell? ⟨w.heap.size + 1, 0, none⟩ = some (.int .i64 c1) ∧ w4.cell? ⟨w.heap.size + 1, 1, none⟩ = some (.int .i64 s1) ∧ w4.cell? ⟨w.heap.size + 1, 2, none⟩ = some (.slice Ao1 op1.length co1) ∧ w4.cell? ⟨w.heap.size + 1, 3, none⟩ = some (.slice As1 sg1.length cs1) ∧ w4.cell? ⟨w.heap.size + 2, 0, none⟩ = some (.int .i64 c2) ∧ w4.cell? ⟨w.heap.size + 2, 1, none⟩ = some (.int .i64 s2) ∧ w4.cell? ⟨w.heap.size + 2, 2, none⟩ = some (.slice Ao2 op2.length co2) ∧ w4.cell? ⟨w.heap.size + 2, 3, none⟩ = some (.slice As2 sg2.length cs2)) ∧ Aside0 (Fr (fun _ => False) w3 w4 ∧ Rd w4 A2 (bodyA c1 s1 op1 sg1)) := by
    intro w1 hf1
    have F := F3.trans hf1 (fun _ h => h.elim)
    refine (body_calls c1 s1 Ao1 co1 op1 As1 cs1 sg1 w1 (HH.out.1.lies F) hco1 (HH.out.2.1.lies F) hcs1 HH.out.2.2.1).mono ?_
    rintro e w4 ⟨A2, y2, rfl, hc2, hO, hb⟩
    have f4 := hf1.trans (Fr.of_below hb (fun _ => False)) (fun _ h => h.elim)
    exact ⟨A2, y2, rfl, hS _ f4, ⟨f4, QB.rd (q_of_own hO)⟩⟩
  have HB : ∀ w1 A2, Aside0 (Fr (fun _ => False) w3 w1 ∧ Rd w1 A2 (bodyA c1 s1 op1 sg1)) → Calls Try.prog 21 #[.agg #[.int .i64 c2, .int .i64 s2, .slice Ao2 op2.length co2, .slice As2 sg2.length cs2]] w1 fun e w4 => ∃ A3 y3, e = .returned (.slice A3 (bodyA c2 s2 op2 sg2).length y3) ∧ (w4.cell? ⟨w.heap.size + 1, 0, none⟩ = some (.int .i64 c1) ∧ w4.cell? ⟨w.heap.size + 1, 1, none⟩ = some (.int .i64 s1) ∧ w4.cell? ⟨w.heap.size + 1, 2, none⟩ = some (.slice Ao1 op1.length co1) ∧ w4.cell? ⟨w.heap.size + 1, 3, none⟩ = some (.slice As1 sg1.length cs1) ∧ w4.cell? ⟨w.heap.size + 2, 0, none⟩ = some (.int .i64 c2) ∧ w4.cell? ⟨w.heap.size + 2, 1, none⟩ = some (.int .i64 s2) ∧ w4.cell? ⟨w.heap.size + 2, 2, none⟩ = some (.slice Ao2 op2.length co2) ∧ w4.cell? ⟨w.heap.size + 2, 3, none⟩ = some (.slice As2 sg2.length cs2)) ∧ Aside0 (Fr (fun _ => False) w3 w4 ∧ Rd w4 A2 (bodyA c1 s1 op1 sg1) ∧ Rd w4 A3 (bodyA c2 s2 op2 sg2)) := by
    intro w1 A2 H
    have F := F3.trans H.out.1 (fun _ h => h.elim)
    refine (body_calls c2 s2 Ao2 co2 op2 As2 cs2 sg2 w1 (HH.out.2.2.2.1.lies F) hco2 (HH.out.2.2.2.2.1.lies F) hcs2 HH.out.2.2.2.2.2.1).mono ?_
    rintro e w4 ⟨A3, y3, rfl, hc3, hO, hb⟩
    have fb := Fr.of_below hb (fun _ => False)
    have f4 := H.out.1.trans fb (fun _ h => h.elim)
    exact ⟨A3, y3, rfl, hS _ f4, ⟨f4, H.out.2.lies fb, QB.rd (q_of_own hO)⟩⟩
  have HC : ∀ w1 A2 y2 A3 y3, Aside0 (Fr (fun _ => False) w3 w1 ∧ Rd w1 A2 (bodyA c1 s1 op1 sg1) ∧ Rd w1 A3 (bodyA c2 s2 op2 sg2)) → Calls Try.prog 39 #[.slice A2 (bodyA c1 s1 op1 sg1).length y2, .slice A3 (bodyA c2 s2 op2 sg2).length y3] w1 fun e w4 => e = .returned (.int .i64 cm) ∧ (w4.cell? ⟨w.heap.size + 1, 0, none⟩ = some (.int .i64 c1) ∧ w4.cell? ⟨w.heap.size + 1, 1, none⟩ = some (.int .i64 s1) ∧ w4.cell? ⟨w.heap.size + 1, 2, none⟩ = some (.slice Ao1 op1.length co1) ∧ w4.cell? ⟨w.heap.size + 1, 3, none⟩ = some (.slice As1 sg1.length cs1) ∧ w4.cell? ⟨w.heap.size + 2, 0, none⟩ = some (.int .i64 c2) ∧ w4.cell? ⟨w.heap.size + 2, 1, none⟩ = some (.int .i64 s2) ∧ w4.cell? ⟨w.heap.size + 2, 2, none⟩ = some (.slice Ao2 op2.length co2) ∧ w4.cell? ⟨w.heap.size + 2, 3, none⟩ = some (.slice As2 sg2.length cs2)) ∧ Aside0 (Fr (fun _ => False) w3 w4) := by
    intro w1 A2 y2 A3 y3 H
    have hb := bcmp_calls A2 y2 (bodyA c1 s1 op1 sg1) A3 y3 (bodyA c2 s2 op2 sg2) w1 H.out.2.1 H.out.2.2
    rw [hcmm] at hb
    refine hb.mono ?_
    rintro e w4 ⟨rfl, hb⟩
    have f4 := H.out.1.trans (Fr.of_below hb (fun _ => False)) (fun _ h => h.elim)
    exact ⟨rfl, hS _ f4, ⟨f4⟩⟩
  have hs3' := hS _ (Fr.refl _ _)
  have HA := Aside0.mk HA
  have HB := Aside0.mk HB
  have HC := Aside0.mk HC
  have HN := Aside0.mk (And.intro F3 (And.intro hgP (And.intro hg1 (And.intro hg2 (And.intro hgZ hz3)))))
  clear hS F3 hgP hg1 hg2 hgZ hz3 hcmm hcm
  go_wp2_with (fail)
  go_region_held3 (fun w' => w'.cell? ⟨w.heap.size + 1, 0, none⟩ = some (.int .i64 c1) ∧ w'.cell? ⟨w.heap.size + 1, 1, none⟩ = some (.int .i64 s1) ∧ w'.cell? ⟨w.heap.size + 1, 2, none⟩ = some (.slice Ao1 op1.length co1) ∧ w'.cell? ⟨w.heap.size + 1, 3, none⟩ = some (.slice As1 sg1.length cs1) ∧ w'.cell? ⟨w.heap.size + 2, 0, none⟩ = some (.int .i64 c2) ∧ w'.cell? ⟨w.heap.size + 2, 1, none⟩ = some (.int .i64 s2) ∧ w'.cell? ⟨w.heap.size + 2, 2, none⟩ = some (.slice Ao2 op2.length co2) ∧ w'.cell? ⟨w.heap.size + 2, 3, none⟩ = some (.slice As2 sg2.length cs2)) (first | exact hs3' | exact hs4 | exact hs5 | exact hs6)
    (first | (go_at_call 39; refine (HC.out _ _ _ _ _ H5).mono ?_; rintro e w6 ⟨rfl, hs6, H6⟩) | (go_at_call 21; refine (HB.out _ _ H4).mono ?_; rintro e w5 ⟨A3, e3, rfl, hs5, H5⟩) | (go_at_call 21; refine (HA.out _ (Fr.refl _ _).of_drew).mono ?_; rintro e w4 ⟨A2, e2, rfl, hs4, H4⟩))
  clear HA HB HC hs3' hs4 hs5 H4 H5
  have hP6 := H6.out.blk HN.out.2.1 (fun h => h)
  have h16 := H6.out.blk HN.out.2.2.1 (fun h => h)
  have h26 := H6.out.blk HN.out.2.2.2.1 (fun h => h)
  have hZ6 := H6.out.blk HN.out.2.2.2.2.1 (fun h => h)
  have F6 := HN.out.1.trans H6.out (fun _ h => h.elim)
  have hz6 : w.heap.size + 4 ≤ w6.heap.size := by have := HN.out.2.2.2.2.2; have := H6.out.size; omega
  clear hs6
  obtain ⟨w8, hw8⟩ : ∃ x, w6 = x := ⟨_, rfl⟩
  have hX8 := h16
  have hY8 := h26
  have hP8 := hP6
  have hZ8 := hZ6
  have F8 := F6
  have hz88 := hz6
  rw [hw8] at hX8 hY8 hP8 hZ8 F8 hz88 ⊢
  clear hP6 h16 h26 hZ6 F6 hz6 H6 HN
  have hS : ∀ w', Fr (fun _ => False) w8 w' → w'.cell? ⟨w.heap.size, 0, none⟩ = some (.int .i64 kind) ∧ w'.cell? ⟨w.heap.size, 1, none⟩ = some (.int .i64 view) ∧ w'.cell? ⟨w.heap.size, 2, none⟩ = some (.int .i64 turn) ∧ w'.cell? ⟨w.heap.size, 3, none⟩ = some (.int .i64 slot) ∧ w'.cell? ⟨w.heap.size, 4, none⟩ = some (.int .i64 signer) ∧ w'.cell? ⟨w.heap.size + 1, 0, none⟩ = some (.int .i64 c1) ∧ w'.cell? ⟨w.heap.size + 1, 1, none⟩ = some (.int .i64 s1) ∧ w'.cell? ⟨w.heap.size + 1, 2, none⟩ = some (.slice Ao1 op1.length co1) ∧ w'.cell? ⟨w.heap.size + 1, 3, none⟩ = some (.slice As1 sg1.length cs1) ∧ w'.cell? ⟨w.heap.size + 2, 0, none⟩ = some (.int .i64 c2) ∧ w'.cell? ⟨w.heap.size + 2, 1, none⟩ = some (.int .i64 s2) ∧ w'.cell? ⟨w.heap.size + 2, 2, none⟩ = some (.slice Ao2 op2.length co2) ∧ w'.cell? ⟨w.heap.size + 2, 3, none⟩ = some (.slice As2 sg2.length cs2) := fun w' hf => by
    have h0 := hf.blk hP8 (fun h => h)
    have h1 := hf.blk hX8 (fun h => h)
    have h2 := hf.blk hY8 (fun h => h)
    simp [World.cell?, h0, h1, h2]
  have HD : ∀ w1, Fr (fun _ => False) w8 w1 → Calls Try.prog 24 #[.agg #[.int .i64 c1, .int .i64 s1, .slice Ao1 op1.length co1, .slice As1 sg1.length cs1]] w1 fun e w2 => ∃ B1 d1 B2 d2, e = .returned (.agg #[.int .i64 c1, .int .i64 s1, .slice B1 op1.length d1, .slice B2 sg1.length d2]) ∧ (w2.cell? ⟨w.heap.size, 0, none⟩ = some (.int .i64 kind) ∧ w2.cell? ⟨w.heap.size, 1, none⟩ = some (.int .i64 view) ∧ w2.cell? ⟨w.heap.size, 2, none⟩ = some (.int .i64 turn) ∧ w2.cell? ⟨w.heap.size, 3, none⟩ = some (.int .i64 slot) ∧ w2.cell? ⟨w.heap.size, 4, none⟩ = some (.int .i64 signer) ∧ w2.cell? ⟨w.heap.size + 1, 0, none⟩ = some (.int .i64 c1) ∧ w2.cell? ⟨w.heap.size + 1, 1, none⟩ = some (.int .i64 s1) ∧ w2.cell? ⟨w.heap.size + 1, 2, none⟩ = some (.slice Ao1 op1.length co1) ∧ w2.cell? ⟨w.heap.size + 1, 3, none⟩ = some (.slice As1 sg1.length cs1) ∧ w2.cell? ⟨w.heap.size + 2, 0, none⟩ = some (.int .i64 c2) ∧ w2.cell? ⟨w.heap.size + 2, 1, none⟩ = some (.int .i64 s2) ∧ w2.cell? ⟨w.heap.size + 2, 2, none⟩ = some (.slice Ao2 op2.length co2) ∧ w2.cell? ⟨w.heap.size + 2, 3, none⟩ = some (.slice As2 sg2.length cs2)) ∧ Aside0 (Fr (fun _ => False) w1 w2 ∧ Fr (fun _ => False) w8 w2 ∧ Lo (w.heap.size + 4) w2 B1 d1 op1 ∧ Lo (w.heap.size + 4) w2 B2 d2 sg1) := by
    intro w1 hf1
    have F := F8.trans hf1 (fun _ h => h.elim)
    refine (clone_calls c1 s1 Ao1 co1 op1 As1 cs1 sg1 w1 (HH.out.1.lies F) hco1 (HH.out.2.1.lies F) hcs1 HH.out.2.2.1).mono ?_
    rintro e w2 ⟨B1, d1, B2, d2, rfl, h1, h2, o1, o2, hb⟩
    have fb := Fr.of_below hb (fun _ => False)
    have f2 := hf1.trans fb (fun _ h => h.elim)
    exact ⟨B1, d1, B2, d2, rfl, hS _ f2, ⟨fb, f2, ⟨⟨h1, fun k hk => (q_typed (q_of_own o1) k hk).2⟩, fun k hk => by have := o1.base k hk; have := hf1.size; omega⟩, ⟨⟨h2, fun k hk => (q_typed (q_of_own o2) k hk).2⟩, fun k hk => by have := o2.base k hk; have := hf1.size; omega⟩⟩⟩
  have HE : ∀ w1, Fr (fun _ => False) w8 w1 → Calls Try.prog 24 #[.agg #[.int .i64 c2, .int .i64 s2, .slice Ao2 op2.length co2, .slice As2 sg2.length cs2]] w1 fun e w2 => ∃ B1 d1 B2 d2, e = .returned (.agg #[.int .i64 c2, .int .i64 s2, .slice B1 op2.length d1, .slice B2 sg2.length d2]) ∧ (w2.cell? ⟨w.heap.size, 0, none⟩ = some (.int .i64 kind) ∧ w2.cell? ⟨w.heap.size, 1, none⟩ = some (.int .i64 view) ∧ w2.cell? ⟨w.heap.size, 2, none⟩ = some (.int .i64 turn) ∧ w2.cell? ⟨w.heap.size, 3, none⟩ = some (.int .i64 slot) ∧ w2.cell? ⟨w.heap.size, 4, none⟩ = some (.int .i64 signer) ∧ w2.cell? ⟨w.heap.size + 1, 0, none⟩ = some (.int .i64 c1) ∧ w2.cell? ⟨w.heap.size + 1, 1, none⟩ = some (.int .i64 s1) ∧ w2.cell? ⟨w.heap.size + 1, 2, none⟩ = some (.slice Ao1 op1.length co1) ∧ w2.cell? ⟨w.heap.size + 1, 3, none⟩ = some (.slice As1 sg1.length cs1) ∧ w2.cell? ⟨w.heap.size + 2, 0, none⟩ = some (.int .i64 c2) ∧ w2.cell? ⟨w.heap.size + 2, 1, none⟩ = some (.int .i64 s2) ∧ w2.cell? ⟨w.heap.size + 2, 2, none⟩ = some (.slice Ao2 op2.length co2) ∧ w2.cell? ⟨w.heap.size + 2, 3, none⟩ = some (.slice As2 sg2.length cs2)) ∧ Aside0 (Fr (fun _ => False) w1 w2 ∧ Fr (fun _ => False) w8 w2 ∧ Lo (w.heap.size + 4) w2 B1 d1 op2 ∧ Lo (w.heap.size + 4) w2 B2 d2 sg2) := by
    intro w1 hf1
    have F := F8.trans hf1 (fun _ h => h.elim)
    refine (clone_calls c2 s2 Ao2 co2 op2 As2 cs2 sg2 w1 (HH.out.2.2.2.1.lies F) hco2 (HH.out.2.2.2.2.1.lies F) hcs2 HH.out.2.2.2.2.2.1).mono ?_
    rintro e w2 ⟨B1, d1, B2, d2, rfl, h1, h2, o1, o2, hb⟩
    have fb := Fr.of_below hb (fun _ => False)
    have f2 := hf1.trans fb (fun _ h => h.elim)
    exact ⟨B1, d1, B2, d2, rfl, hS _ f2, ⟨fb, f2, ⟨⟨h1, fun k hk => (q_typed (q_of_own o1) k hk).2⟩, fun k hk => by have := o1.base k hk; have := hf1.size; omega⟩, ⟨⟨h2, fun k hk => (q_typed (q_of_own o2) k hk).2⟩, fun k hk => by have := o2.base k hk; have := hf1.size; omega⟩⟩⟩
  have HT : ∀ w1, Fr (fun _ => False) w8 w1 → Calls Try.prog 25 #[.slice T1 t1.length k1] w1 fun e w2 => ∃ B d, e = .returned (.slice B t1.length d) ∧ (w2.cell? ⟨w.heap.size, 0, none⟩ = some (.int .i64 kind) ∧ w2.cell? ⟨w.heap.size, 1, none⟩ = some (.int .i64 view) ∧ w2.cell? ⟨w.heap.size, 2, none⟩ = some (.int .i64 turn) ∧ w2.cell? ⟨w.heap.size, 3, none⟩ = some (.int .i64 slot) ∧ w2.cell? ⟨w.heap.size, 4, none⟩ = some (.int .i64 signer) ∧ w2.cell? ⟨w.heap.size + 1, 0, none⟩ = some (.int .i64 c1) ∧ w2.cell? ⟨w.heap.size + 1, 1, none⟩ = some (.int .i64 s1) ∧ w2.cell? ⟨w.heap.size + 1, 2, none⟩ = some (.slice Ao1 op1.length co1) ∧ w2.cell? ⟨w.heap.size + 1, 3, none⟩ = some (.slice As1 sg1.length cs1) ∧ w2.cell? ⟨w.heap.size + 2, 0, none⟩ = some (.int .i64 c2) ∧ w2.cell? ⟨w.heap.size + 2, 1, none⟩ = some (.int .i64 s2) ∧ w2.cell? ⟨w.heap.size + 2, 2, none⟩ = some (.slice Ao2 op2.length co2) ∧ w2.cell? ⟨w.heap.size + 2, 3, none⟩ = some (.slice As2 sg2.length cs2)) ∧ Aside0 (Fr (fun _ => False) w1 w2 ∧ Fr (fun _ => False) w8 w2 ∧ Lo (w.heap.size + 4) w2 B d t1) := by
    intro w1 hf1
    have F := F8.trans hf1 (fun _ h => h.elim)
    refine (sclone_calls T1 k1 t1 w1 (HH.out.2.2.2.2.2.2.1.2.lies F) HH.out.2.2.2.2.2.2.1.1 HH.out.2.2.2.2.2.2.2.2.1).mono ?_
    rintro e w2 ⟨B, d, rfl, h1, o1, hb⟩
    have fb := Fr.of_below hb (fun _ => False)
    have f2 := hf1.trans fb (fun _ h => h.elim)
    exact ⟨B, d, rfl, hS _ f2, ⟨fb, f2, ⟨⟨h1, fun k hk => (q_typed (q_of_own o1) k hk).2⟩, fun k hk => by have := o1.base k hk; have := hf1.size; omega⟩⟩⟩
  have HU : ∀ w1, Fr (fun _ => False) w8 w1 → Calls Try.prog 25 #[.slice T2 t2.length k2] w1 fun e w2 => ∃ B d, e = .returned (.slice B t2.length d) ∧ (w2.cell? ⟨w.heap.size, 0, none⟩ = some (.int .i64 kind) ∧ w2.cell? ⟨w.heap.size, 1, none⟩ = some (.int .i64 view) ∧ w2.cell? ⟨w.heap.size, 2, none⟩ = some (.int .i64 turn) ∧ w2.cell? ⟨w.heap.size, 3, none⟩ = some (.int .i64 slot) ∧ w2.cell? ⟨w.heap.size, 4, none⟩ = some (.int .i64 signer) ∧ w2.cell? ⟨w.heap.size + 1, 0, none⟩ = some (.int .i64 c1) ∧ w2.cell? ⟨w.heap.size + 1, 1, none⟩ = some (.int .i64 s1) ∧ w2.cell? ⟨w.heap.size + 1, 2, none⟩ = some (.slice Ao1 op1.length co1) ∧ w2.cell? ⟨w.heap.size + 1, 3, none⟩ = some (.slice As1 sg1.length cs1) ∧ w2.cell? ⟨w.heap.size + 2, 0, none⟩ = some (.int .i64 c2) ∧ w2.cell? ⟨w.heap.size + 2, 1, none⟩ = some (.int .i64 s2) ∧ w2.cell? ⟨w.heap.size + 2, 2, none⟩ = some (.slice Ao2 op2.length co2) ∧ w2.cell? ⟨w.heap.size + 2, 3, none⟩ = some (.slice As2 sg2.length cs2)) ∧ w2.heap[w.heap.size + 3]? = some (.cells Z48 48 (0, 0)) ∧ Aside0 (Fr (fun _ => False) w1 w2 ∧ Fr (fun _ => False) w8 w2 ∧ Lo (w.heap.size + 4) w2 B d t2) := by
    intro w1 hf1
    have F := F8.trans hf1 (fun _ h => h.elim)
    refine (sclone_calls T2 k2 t2 w1 (HH.out.2.2.2.2.2.2.2.1.2.lies F) HH.out.2.2.2.2.2.2.2.1.1 HH.out.2.2.2.2.2.2.2.2.2).mono ?_
    rintro e w2 ⟨B, d, rfl, h1, o1, hb⟩
    have fb := Fr.of_below hb (fun _ => False)
    have f2 := hf1.trans fb (fun _ h => h.elim)
    exact ⟨B, d, rfl, hS _ f2, f2.blk hZ8 (fun h => h), ⟨fb, f2, ⟨⟨h1, fun k hk => (q_typed (q_of_own o1) k hk).2⟩, fun k hk => by have := o1.base k hk; have := hf1.size; omega⟩⟩⟩
  have HS9 : ∀ u u', (u.cell? ⟨w.heap.size, 0, none⟩ = some (.int .i64 kind) ∧ u.cell? ⟨w.heap.size, 1, none⟩ = some (.int .i64 view) ∧ u.cell? ⟨w.heap.size, 2, none⟩ = some (.int .i64 turn) ∧ u.cell? ⟨w.heap.size, 3, none⟩ = some (.int .i64 slot) ∧ u.cell? ⟨w.heap.size, 4, none⟩ = some (.int .i64 signer) ∧ u.cell? ⟨w.heap.size + 1, 0, none⟩ = some (.int .i64 c1) ∧ u.cell? ⟨w.heap.size + 1, 1, none⟩ = some (.int .i64 s1) ∧ u.cell? ⟨w.heap.size + 1, 2, none⟩ = some (.slice Ao1 op1.length co1) ∧ u.cell? ⟨w.heap.size + 1, 3, none⟩ = some (.slice As1 sg1.length cs1) ∧ u.cell? ⟨w.heap.size + 2, 0, none⟩ = some (.int .i64 c2) ∧ u.cell? ⟨w.heap.size + 2, 1, none⟩ = some (.int .i64 s2) ∧ u.cell? ⟨w.heap.size + 2, 2, none⟩ = some (.slice Ao2 op2.length co2) ∧ u.cell? ⟨w.heap.size + 2, 3, none⟩ = some (.slice As2 sg2.length cs2)) → Fr (fun k => k = w.heap.size + 3) u u' → u'.cell? ⟨w.heap.size, 0, none⟩ = some (.int .i64 kind) ∧ u'.cell? ⟨w.heap.size, 1, none⟩ = some (.int .i64 view) ∧ u'.cell? ⟨w.heap.size, 2, none⟩ = some (.int .i64 turn) ∧ u'.cell? ⟨w.heap.size, 3, none⟩ = some (.int .i64 slot) ∧ u'.cell? ⟨w.heap.size, 4, none⟩ = some (.int .i64 signer) ∧ u'.cell? ⟨w.heap.size + 1, 0, none⟩ = some (.int .i64 c1) ∧ u'.cell? ⟨w.heap.size + 1, 1, none⟩ = some (.int .i64 s1) ∧ u'.cell? ⟨w.heap.size + 1, 2, none⟩ = some (.slice Ao1 op1.length co1) ∧ u'.cell? ⟨w.heap.size + 1, 3, none⟩ = some (.slice As1 sg1.length cs1) ∧ u'.cell? ⟨w.heap.size + 2, 0, none⟩ = some (.int .i64 c2) ∧ u'.cell? ⟨w.heap.size + 2, 1, none⟩ = some (.int .i64 s2) ∧ u'.cell? ⟨w.heap.size + 2, 2, none⟩ = some (.slice Ao2 op2.length co2) ∧ u'.cell? ⟨w.heap.size + 2, 3, none⟩ = some (.slice As2 sg2.length cs2) := fun u u' h hf => by
    obtain ⟨h0, h1, h2, h3, h4, h5, h6, h7, h8, h9, h10, h11, h12⟩ := h
    exact ⟨hf.cell h0 (fun e => by simp only at e; omega), hf.cell h1 (fun e => by simp only at e; omega), hf.cell h2 (fun e => by simp only at e; omega), hf.cell h3 (fun e => by simp only at e; omega), hf.cell h4 (fun e => by simp only at e; omega), hf.cell h5 (fun e => by simp only at e; omega), hf.cell h6 (fun e => by simp only at e; omega), hf.cell h7 (fun e => by simp only at e; omega), hf.cell h8 (fun e => by simp only at e; omega), hf.cell h9 (fun e => by simp only at e; omega), hf.cell h10 (fun e => by simp only at e; omega), hf.cell h11 (fun e => by simp only at e; omega), hf.cell h12 (fun e => by simp only at e; omega)⟩
  have hs8 := hS _ (Fr.refl _ _)
  have HD := Aside0.mk HD
  have HE := Aside0.mk HE
  have HT := Aside0.mk HT
  have HU := Aside0.mk HU
  have HS9 := Aside0.mk HS9
  have HF := Aside0.mk (And.intro F8 hz88)
  clear hS F8 hX8 hY8 hP8 hZ8 hz88
  go_wp2_with (fail)
  refine wp_region_held_drew (S := (fun w' => w'.cell? ⟨w.heap.size, 0, none⟩ = some (.int .i64 kind) ∧ w'.cell? ⟨w.heap.size, 1, none⟩ = some (.int .i64 view) ∧ w'.cell? ⟨w.heap.size, 2, none⟩ = some (.int .i64 turn) ∧ w'.cell? ⟨w.heap.size, 3, none⟩ = some (.int .i64 slot) ∧ w'.cell? ⟨w.heap.size, 4, none⟩ = some (.int .i64 signer) ∧ w'.cell? ⟨w.heap.size + 1, 0, none⟩ = some (.int .i64 c1) ∧ w'.cell? ⟨w.heap.size + 1, 1, none⟩ = some (.int .i64 s1) ∧ w'.cell? ⟨w.heap.size + 1, 2, none⟩ = some (.slice Ao1 op1.length co1) ∧ w'.cell? ⟨w.heap.size + 1, 3, none⟩ = some (.slice As1 sg1.length cs1) ∧ w'.cell? ⟨w.heap.size + 2, 0, none⟩ = some (.int .i64 c2) ∧ w'.cell? ⟨w.heap.size + 2, 1, none⟩ = some (.int .i64 s2) ∧ w'.cell? ⟨w.heap.size + 2, 2, none⟩ = some (.slice Ao2 op2.length co2) ∧ w'.cell? ⟨w.heap.size + 2, 3, none⟩ = some (.slice As2 sg2.length cs2))) (by kernel_rfl) hs8 (fun hHeld => ?_)
  refine wpAnyH_take (i := 0) (oi := ⟨some 21, _, _, _, _, _⟩) (v := (.pointer (some ⟨w.heap.size, 0, none⟩))) rfl (by kernel_rfl) (by kernel_rfl) (by kernel_rfl) (fun _ _ _ h => h) (Or.inl ⟨by rfl, by (intro w' hSw; (try dsimp only at hSw); go_simp)⟩) (by assumption) ?_
  try simp only [Act.put, List.setIfInBounds_toArray, List.set_cons_zero, List.set_cons_succ]
  refine wpAnyH_take (i := 1) (oi := ⟨some 22, _, _, _, _, _⟩) (v := (.int .i64 kind)) rfl (by kernel_rfl) (by kernel_rfl) (by kernel_rfl) (fun _ _ _ h => h) (Or.inl ⟨by rfl, by (intro w' hSw; (try dsimp only at hSw); go_simp)⟩) (by assumption) ?_
  try simp only [Act.put, List.setIfInBounds_toArray, List.set_cons_zero, List.set_cons_succ]
  refine wpAnyH_take (i := 2) (oi := ⟨some 23, _, _, _, _, _⟩) (v := (.pointer (some ⟨w.heap.size, 1, none⟩))) rfl (by kernel_rfl) (by kernel_rfl) (by kernel_rfl) (fun _ _ _ h => h) (Or.inl ⟨by rfl, by (intro w' hSw; (try dsimp only at hSw); go_simp)⟩) (by assumption) ?_
  try simp only [Act.put, List.setIfInBounds_toArray, List.set_cons_zero, List.set_cons_succ]
  refine wpAnyH_take (i := 3) (oi := ⟨some 24, _, _, _, _, _⟩) (v := (.agg #[.int .i64 view, .int .i64 turn])) rfl (by kernel_rfl) (by kernel_rfl) (by kernel_rfl) (fun _ _ _ h => h) (Or.inl ⟨by rfl, by (intro w' hSw; (try dsimp only at hSw); go_simp)⟩) (by assumption) ?_
  try simp only [Act.put, List.setIfInBounds_toArray, List.set_cons_zero, List.set_cons_succ]
  refine wpAnyH_take (i := 4) (oi := ⟨some 25, _, _, _, _, _⟩) (v := (.pointer (some ⟨w.heap.size, 3, none⟩))) rfl (by kernel_rfl) (by kernel_rfl) (by kernel_rfl) (fun _ _ _ h => h) (Or.inl ⟨by rfl, by (intro w' hSw; (try dsimp only at hSw); go_simp)⟩) (by assumption) ?_
  try simp only [Act.put, List.setIfInBounds_toArray, List.set_cons_zero, List.set_cons_succ]
  refine wpAnyH_take (i := 5) (oi := ⟨some 26, _, _, _, _, _⟩) (v := (.int .i64 slot)) rfl (by kernel_rfl) (by kernel_rfl) (by kernel_rfl) (fun _ _ _ h => h) (Or.inl ⟨by rfl, by (intro w' hSw; (try dsimp only at hSw); go_simp)⟩) (by assumption) ?_
  try simp only [Act.put, List.setIfInBounds_toArray, List.set_cons_zero, List.set_cons_succ]
  refine wpAnyH_take (i := 6) (oi := ⟨some 27, _, _, _, _, _⟩) (v := (.pointer (some ⟨w.heap.size, 4, none⟩))) rfl (by kernel_rfl) (by kernel_rfl) (by kernel_rfl) (fun _ _ _ h => h) (Or.inl ⟨by rfl, by (intro w' hSw; (try dsimp only at hSw); go_simp)⟩) (by assumption) ?_
  try simp only [Act.put, List.setIfInBounds_toArray, List.set_cons_zero, List.set_cons_succ]
  refine wpAnyH_take (i := 7) (oi := ⟨some 28, _, _, _, _, _⟩) (v := (.int .i64 signer)) rfl (by kernel_rfl) (by kernel_rfl) (by kernel_rfl) (fun _ _ _ h => h) (Or.inl ⟨by rfl, by (intro w' hSw; (try dsimp only at hSw); go_simp)⟩) (by assumption) ?_
  try simp only [Act.put, List.setIfInBounds_toArray, List.set_cons_zero, List.set_cons_succ]
  refine wpAnyH_take (i := 8) (oi := ⟨some 29, _, _, _, _, _⟩) (v := (.agg #[.int .i64 c1, .int .i64 s1, .slice Ao1 op1.length co1, .slice As1 sg1.length cs1])) rfl (by kernel_rfl) (by kernel_rfl) (by kernel_rfl) (fun _ _ _ h => h) (Or.inl ⟨by rfl, by (intro w' hSw; (try dsimp only at hSw); go_simp)⟩) (by assumption) ?_
  try simp only [Act.put, List.setIfInBounds_toArray, List.set_cons_zero, List.set_cons_succ]
  refine wpAnyH_take (i := 10) (oi := ⟨some 31, _, _, _, _, _⟩) (v := (.slice T1 t1.length k1)) rfl (by kernel_rfl) (by kernel_rfl) (by kernel_rfl) (fun _ _ _ h => h) (Or.inl ⟨by rfl, by (intro w' hSw; (try dsimp only at hSw); go_simp)⟩) (by assumption) ?_
  try simp only [Act.put, List.setIfInBounds_toArray, List.set_cons_zero, List.set_cons_succ]
  refine wpAnyH_take (i := 12) (oi := ⟨some 33, _, _, _, _, _⟩) (v := (.agg #[.int .i64 c2, .int .i64 s2, .slice Ao2 op2.length co2, .slice As2 sg2.length cs2])) rfl (by kernel_rfl) (by kernel_rfl) (by kernel_rfl) (fun _ _ _ h => h) (Or.inl ⟨by rfl, by (intro w' hSw; (try dsimp only at hSw); go_simp)⟩) (by assumption) ?_
  try simp only [Act.put, List.setIfInBounds_toArray, List.set_cons_zero, List.set_cons_succ]
  refine wpAnyH_take (i := 14) (oi := ⟨some 35, _, _, _, _, _⟩) (v := (.slice T2 t2.length k2)) rfl (by kernel_rfl) (by kernel_rfl) (by kernel_rfl) (fun _ _ _ h => h) (Or.inl ⟨by rfl, by (intro w' hSw; (try dsimp only at hSw); go_simp)⟩) (by assumption) ?_
  try simp only [Act.put, List.setIfInBounds_toArray, List.set_cons_zero, List.set_cons_succ]
  refine wpAnyH_ready (rs := [9]) (by kernel_rfl) (by simp) ?_
  refine AllReadyH.cons (o := ⟨some 30, _, _, _, _, _⟩) rfl (fun K hK => ?_) AllReadyH.nil
  go_simp
  go_at_call 24
  refine (HD.out _ (Fr.refl _ _).of_drew).mono ?_
  rintro e w9 ⟨B1, d1, B2, d2, rfl, hs9, H9⟩
  refine hK.out _ _ hs9 (fun hHeld => ?_)
  try simp only [Act.put, List.setIfInBounds_toArray, List.set_cons_zero, List.set_cons_succ]
  refine wpAnyH_ready (rs := [11]) (by kernel_rfl) (by simp) ?_
  refine AllReadyH.cons (o := ⟨some 32, _, _, _, _, _⟩) rfl (fun K hK => ?_) AllReadyH.nil
  go_simp
  go_at_call 25
  refine (HT.out _ H9.out.2.1).mono ?_
  rintro e w10 ⟨B3, d3, rfl, hs10, H10⟩
  refine hK.out _ _ hs10 (fun hHeld => ?_)
  try simp only [Act.put, List.setIfInBounds_toArray, List.set_cons_zero, List.set_cons_succ]
  refine wpAnyH_ready (rs := [13]) (by kernel_rfl) (by simp) ?_
  refine AllReadyH.cons (o := ⟨some 34, _, _, _, _, _⟩) rfl (fun K hK => ?_) AllReadyH.nil
  go_simp
  go_at_call 24
  refine (HE.out _ H10.out.2.1).mono ?_
  rintro e w11 ⟨B4, d4, B5, d5, rfl, hs11, H11⟩
  refine hK.out _ _ hs11 (fun hHeld => ?_)
  try simp only [Act.put, List.setIfInBounds_toArray, List.set_cons_zero, List.set_cons_succ]
  refine wpAnyH_ready (rs := [15]) (by kernel_rfl) (by simp) ?_
  refine AllReadyH.cons (o := ⟨some 36, _, _, _, _, _⟩) rfl (fun K hK => ?_) AllReadyH.nil
  go_simp
  go_at_call 25
  refine (HU.out _ H11.out.2.1).mono ?_
  rintro e w12 ⟨B6, d6, rfl, hs12, hZ12, H12⟩
  refine hK.out _ _ hs12 (fun hHeld => ?_)
  try simp only [Act.put, List.setIfInBounds_toArray, List.set_cons_zero, List.set_cons_succ]
  refine wpAnyH_take (i := 16) (oi := ⟨some 37, _, _, _, _, _⟩) (v := (.agg #[.int .i64 13, .int .i64 view, .int .i64 turn, .int .i64 slot, .int .i64 signer, .int .i64 0, .int .i64 kind, .int .i64 0, .int .i64 c1, .int .i64 s1, .slice B1 op1.length d1, .slice B2 sg1.length d2, .int .i64 c2, .int .i64 s2, .slice B4 op2.length d4, .slice B5 sg2.length d5, .slice B6 t2.length d6, .slice B3 t1.length d3, .slice none 0 0, .slice none 0 0, .slice none 0 0, .slice none 0 0, .slice none 0 0])) rfl (by kernel_rfl) (by kernel_rfl) (by kernel_rfl) (fun _ _ _ h => h) (Or.inl ⟨by rfl, by (intro w' hSw; (try dsimp only at hSw); go_simp)⟩) (by assumption) ?_
  try simp only [Act.put, List.setIfInBounds_toArray, List.set_cons_zero, List.set_cons_succ]
  refine wpAnyH_ready (rs := [17]) (by kernel_rfl) (by simp) ?_
  refine AllReadyH.cons (o := ⟨none, _, _, _, _, _⟩) rfl (fun K hK => ?_) AllReadyH.nil
  rw [if_pos (by rfl)]
  refine wp_store_abs 48 _ _ (by rfl) (w.heap.size + 3) #[.int .i64 13, .int .i64 view, .int .i64 turn, .int .i64 slot, .int .i64 signer, .int .i64 0, .int .i64 kind, .int .i64 0, .int .i64 c1, .int .i64 s1, .slice B1 op1.length d1, .slice B2 sg1.length d2, .int .i64 c2, .int .i64 s2, .slice B4 op2.length d4, .slice B5 sg2.length d5, .slice B6 t2.length d6, .slice B3 t1.length d3, .slice none 0 0, .slice none 0 0, .slice none 0 0, .slice none 0 0, .slice none 0 0] (by rfl) (by rfl) 48 Z48 hZ12 (by kernel_rfl) (by rfl) (by simp [Value.oneCell']) ?_
  intro w13 hf13 hz13 hg13
  have hs13 := HS9.out _ _ hs12 hf13
  refine hK.out _ _ hs13 (fun hHeld => ?_)
  try simp only [Act.put, List.setIfInBounds_toArray, List.set_cons_zero, List.set_cons_succ]
  refine wpAnyH_done (by kernel_rfl) ?_ _
  clear hs8 hs9 hs10 hs11 hs12 hs13 hHeld HD HE HT HU HS9
  go_wp2
  refine bodyPost_ret (results_cell_row (by rfl) _ _ (w.heap.size + 3) 48 #[.int .i64 13, .int .i64 view, .int .i64 turn, .int .i64 slot, .int .i64 signer, .int .i64 0, .int .i64 kind, .int .i64 0, .int .i64 c1, .int .i64 s1, .slice B1 op1.length d1, .slice B2 sg1.length d2, .int .i64 c2, .int .i64 s2, .slice B4 op2.length d4, .slice B5 sg2.length d5, .slice B6 t2.length d6, .slice B3 t1.length d3, .slice none 0 0, .slice none 0 0, .slice none 0 0, .slice none 0 0, .slice none 0 0] (0, 0) _ (by rfl) hg13 Try.underlying48 (by rfl) (by kernel_rfl)) rfl ?_
  have F12 := HF.out.1.trans H12.out.2.1 (fun _ h => h.elim)
  have f1112 := H12.out.1
  have f1012 := H11.out.1.trans f1112 (fun _ h => h.elim)
  have f912 := H10.out.1.trans f1012 (fun _ h => h.elim)
  have hL : ∀ {A : Option Addr} {c : Nat} {l : List Int}, Lo (w.heap.size + 4) w12 A c l → Lt w13 A c l := fun h => ⟨⟨h.1.1.1, h.1.1.2.fr hf13 (fun ad e h2 => by have := h.2 ad.block (by subst e; rfl); omega)⟩, fun k hk => (h.1.2 k hk).imp (fun cells hc => hf13.blk hc (fun e => by have := h.2 k hk; omega))⟩
  exact ⟨_, rfl, ⟨B1, d1, B2, d2, B3, d3, B4, d4, B5, d5, B6, d6, rfl, hL (H9.out.2.2.1.fr f912), hL (H9.out.2.2.2.fr f912), hL (H10.out.2.2.fr f1012), hL (H11.out.2.2.1.fr f1112), hL (H11.out.2.2.2.fr f1112), hL H12.out.2.2⟩, frB (F12.trans hf13 (fun k hk => .inr (by omega)))⟩
end Go.Proofs.Ytnabilhcmplhcaa.Sha
end
