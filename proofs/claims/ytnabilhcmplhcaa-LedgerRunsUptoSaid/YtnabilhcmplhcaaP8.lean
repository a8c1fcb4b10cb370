/- Parts of the proof of LedgerRunsUptoSaid: laid together and cut down to what LedgerRuns' proof uses (parts: LdG, LgM2, Qx11). -/
import Derived.Test.YtnabilhcmplhcaaP7
import Derived.Test.YtnabilhcmplhcaaP2
import Derived.Test.YtnabilhcmplhcaaP5
import Derived.Test.YtnabilhcmplhcaaProg
import Derived.Maps.OwnSet
import Derived.DeepKeys4
import Derived.WalkKit
import Derived.Deep.RegionHeld3
import Derived.Test.YtnabilhcmplhcaaP1
section
/-
  Evidence of two votes, the other way round.
-/
set_option linter.unusedVariables false
set_option linter.unusedSimpArgs false
namespace Go.Proofs.Ytnabilhcmplhcaa.Sha
open Go.RowKit Go.Proofs.YtnabilhcmplhcaaW.PrintWords Go.Proofs.YtnabilhcmplhcaaW.PrintLast Go.Proofs.YtnabilhcmplhcaaW.PrintMore Go.Proofs.Ytnabilhcmplhcaa.Q Go.Proofs.Ytnabilhcmplhcaa.Fr Go.Proofs.Ytnabilhcmplhcaa.Oct

set_option maxHeartbeats 8000000 in
set_option maxRecDepth 100000 in
theorem evid_swap (kind view turn slot signer : Int) (c1 s1 : Int) (Ao1 : Option Addr) (co1 : Nat) (op1 : List Int) (As1 : Option Addr) (cs1 : Nat) (sg1 : List Int) (c2 s2 : Int) (Ao2 : Option Addr) (co2 : Nat) (op2 : List Int) (As2 : Option Addr) (cs2 : Nat) (sg2 : List Int) (T1 : Option Addr) (k1 : Nat) (t1 : List Int) (T2 : Option Addr) (k2 : Nat) (t2 : List Int) (w : World) (ho1 : Rd w Ao1 op1) (hco1 : op1.length ≤ co1) (hg1 : Rd w As1 sg1) (hcs1 : sg1.length ≤ cs1) (lo1 : op1.length + sg1.length ≤ 1048576) (ho2 : Rd w Ao2 op2) (hco2 : op2.length ≤ co2) (hg2 : Rd w As2 sg2) (hcs2 : sg2.length ≤ cs2) (lo2 : op2.length + sg2.length ≤ 1048576) (ht1 : Ls w T1 k1 t1) (ht2 : Ls w T2 k2 t2) (lt1 : t1.length ≤ 1048576) (lt2 : t2.length ≤ 1048576) (hcm : 0 < cmpA (bodyA c1 s1 op1 sg1) (bodyA c2 s2 op2 sg2)) :
    Calls Try.prog 27 #[.agg #[.int .i64 kind, .int .i64 view, .int .i64 turn, .int .i64 slot, .int .i64 signer], .agg #[.int .i64 c1, .int .i64 s1, .slice Ao1 op1.length co1, .slice As1 sg1.length cs1], .agg #[.int .i64 c2, .int .i64 s2, .slice Ao2 op2.length co2, .slice As2 sg2.length cs2], .slice T1 t1.length k1, .slice T2 t2.length k2] w fun e w' => ∃ v, e = .returned v ∧ EvAt w' v kind view turn slot signer c2 s2 op2 sg2 t2 c1 s1 op1 sg1 t1 ∧ Below w.heap.size w w' := by
  have HH := Aside0.mk (And.intro ho1 (And.intro hg1 (And.intro lo1 (And.intro ho2 (And.intro hg2 (And.intro lo2 (And.intro ht1 (And.intro ht2 (And.intro lt1 lt2)))))))))
  clear ho1 hg1 lo1 ho2 hg2 lo2 ht1 ht2 lt1 lt2
  obtain ⟨cm, hcmm⟩ : ∃ x, cmpA (bodyA c1 s1 op1 sg1) (bodyA c2 s2 op2 sg2) = x := ⟨_, rfl⟩
  rw [hcmm] at hcm
  have hcd : decide (0 < cm) = true := decide_eq_true hcm
  go_enter Try.func27, Try.ntmps27
  go_wp2_with (first | ((with_reducible refine gate_dst (N := 10) rfl ?_); refine wpList_alloc_abs (by rfl) 48 (by rfl) (.agg Z48) (by kernel_rfl) ?_; intro w3 hb3 hs3 hgZ; (with_reducible refine Aside0.out ?_)))
  refine ⟨?_⟩
  obtain ⟨wa, hwa⟩ : ∃ x, w.alloc (.cells #[.int .i64 kind, .int .i64 view, .int .i64 turn, .int .i64 slot, .int .i64 signer] 67) = x := ⟨_, rfl⟩
  have hba : Below w.heap.size w wa := by rw [← hwa]; exact below_alloc (Below.refl _ _) _
  have hga : wa.heap[w.heap.size]? = some (.cells #[.int .i64 kind, .int .i64 view, .int .i64 turn, .int .i64 slot, .int .i64 signer] 67 (0, 0)) := by rw [← hwa]; exact heap_alloc_new w _
  have hza : wa.heap.size = w.heap.size + 1 := by rw [← hwa, World.size_alloc]
  obtain ⟨wb, hwb⟩ : ∃ x, wa.alloc (.cells #[.int .i64 c1, .int .i64 s1, .slice Ao1 op1.length co1, .slice As1 sg1.length cs1] 31) = x := ⟨_, rfl⟩
  have hbb : Below wa.heap.size wa wb := by rw [← hwb]; exact below_alloc (Below.refl _ _) _
  have hgb : wb.heap[wa.heap.size]? = some (.cells #[.int .i64 c1, .int .i64 s1, .slice Ao1 op1.length co1, .slice As1 sg1.length cs1] 31 (0, 0)) := by rw [← hwb]; exact heap_alloc_new wa _
  have hzb : wb.heap.size = wa.heap.size + 1 := by rw [← hwb, World.size_alloc]
  obtain ⟨wc, hwc⟩ : ∃ x, wb.alloc (.cells #[.int .i64 c2, .int .i64 s2, .slice Ao2 op2.length co2, .slice As2 sg2.length cs2] 31) = x := ⟨_, rfl⟩
  have hbc : Below wb.heap.size wb wc := by rw [← hwc]; exact below_alloc (Below.refl _ _) _
  have hgc : wc.heap[wb.heap.size]? = some (.cells #[.int .i64 c2, .int .i64 s2, .slice Ao2 op2.length co2, .slice As2 sg2.length cs2] 31 (0, 0)) := by rw [← hwc]; exact heap_alloc_new wb _
  have hzc : wc.heap.size = wb.heap.size + 1 := by rw [← hwc, World.size_alloc]
  rw [hwa, hwb, hwc] at hb3 hs3 hgZ
  try rw [hwa, hwb, hwc]
  clear hwa hwb hwc
  have fb := Fr.of_below hbb (fun _ => False)
  have fc := Fr.of_below hbc (fun _ => False)
  have f3 := Fr.of_below hb3 (fun _ => False)
  have hgP := f3.blk (fc.blk (fb.blk hga (fun h => h)) (fun h => h)) (fun h => h)
  have hg1 := f3.blk (fc.blk hgb (fun h => h)) (fun h => h)
  have hg2 := f3.blk hgc (fun h => h)
  have F3 := (((Fr.of_below hba (fun _ => False)).trans fb (fun _ h => h.elim)).trans fc (fun _ h => h.elim)).trans f3 (fun _ h => h.elim)
  rw [show wa.heap.size = w.heap.size + 1 from hza] at hg1
  rw [show wb.heap.size = w.heap.size + 2 by omega] at hg2
  rw [show wc.heap.size = w.heap.size + 3 by omega] at hgZ
  have hz3 : w3.heap.size = w.heap.size + 4 := by omega
  clear hba hga hza hbb hgb hzb hbc hgc hzc hb3 hs3 fb fc f3
  have hS : ∀ w', Fr (fun _ => False) w3 w' → w'.cell? ⟨w.heap.size + 1, 0, none⟩ = some (.int .i64 c1) ∧ w'.cell? ⟨w.heap.size + 1, 1, none⟩ = some (.int .i64 s1) ∧ w'.cell? ⟨w.heap.size + 1, 2, none⟩ = some (.slice Ao1 op1.length co1) ∧ w'.cell? ⟨w.heap.size + 1, 3, none⟩ = some (.slice As1 sg1.length cs1) ∧ w'.cell? ⟨w.heap.size + 2, 0, none⟩ = some (.int .i64 c2) ∧ w'.cell? ⟨w.heap.size + 2, 1, none⟩ = some (.int .i64 s2) ∧ w'.cell? ⟨w.heap.size + 2, 2, none⟩ = some (.slice Ao2 op2.length co2) ∧ w'.cell? ⟨w.heap.size + 2, 3, none⟩ = some (.slice As2 sg2.length cs2) := fun w' hf => by
    have h1 := hf.blk hg1 (fun h => h)
    have h2 := hf.blk hg2 (fun h => h)
    simp [World.cell?, h1, h2]
  have HA : ∀ w1, Fr (fun _ => False) w3 w1 → Calls Try.prog 21 #[.agg #[.int .i64 c1, .int .i64 s1, .slice Ao1 op1.length co1, .slice As1 sg1.length cs1]] w1 fun e w4 => ∃ A2 y2, e = .returned (.slice A2 (bodyA c1 s1 op1 sg1).length y2) ∧ (w4.cell? ⟨w.heap.size + 1, 0, none⟩ = some (.int .i64 c1) ∧ w4.cell? ⟨w.heap.size + 1, 1, none⟩ = some (.int .i64 s1) ∧ w4.cell? ⟨w.heap.size + 1, 2, none⟩ = some (.slice Ao1 op1.length co1) ∧ w4.cell? ⟨w.heap.size + 1, 3, none⟩ = some (.slice As1 sg1.length cs1) ∧ w4.cell? ⟨w.heap.size + 2, 0, none⟩ = some (.int .i64 c2) ∧ w4.cell? ⟨w.heap.size + 2, 1, none⟩ = some (.int .i64 s2) ∧ w4.cell? ⟨w.heap.size + 2, 2, none⟩ = some (.slice Ao2 op2.length co2) ∧ w4.cell? ⟨w.heap.size + 2, 3, none⟩ = some (.slice As2 sg2.length cs2)) ∧ Aside0 (Fr (fun _ => False) w3 w4 ∧ Rd w4 A2 (bodyA c1 s1 op1 sg1)) := by
    intro w1 hf1
    have F := F3.trans hf1 (fun _ h => h.elim)
    refine (body_calls c1 s1 Ao1 co1 op1 As1 cs1 sg1 w1 (HH.out.1.lies F) hco1 (HH.out.2.1.lies F) hcs1 HH.out.2.2.1).mono ?_
    rintro e w4 ⟨A2, y2, rfl, hc2, hO, hb⟩
    have f4 := hf1.trans (Fr.of_below hb (fun _ => False)) (fun _ h => h.elim)
    exact ⟨A2, y2, rfl, hS _ f4, ⟨f4, QB.rd (q_of_own hO)⟩⟩
  have HB : ∀ w1 A2, Aside0 (Fr (fun _ => False) w3 w1 ∧ Rd w1 A2 (bodyA c1 s1 op1 sg1)) → Calls Try.prog 21 #[.agg #[.int .i64 c2, .int .i64 s2, .slice Ao2 op2.length co2, .slice As2 sg2.length cs2]] w1 fun e w4 => ∃ A3 y3, e = .returned (.slice A3 (bodyA c2 s2 op2 sg2).length y3) ∧ (w4.cell? ⟨w.heap.size + 1, 0, none⟩ = some (.int .i64 c1) ∧ w4.cell? ⟨w.heap.size + 1, 1, none⟩ = some (.int .i64 s1) ∧ w4.cell? ⟨w.heap.size + 1, 2, none⟩ = some (.slice Ao1 op1.length co1) ∧ w4.cell? ⟨w.heap.size + 1, 3, none⟩ = some (.slice As1 sg1.length cs1) ∧ w4.cell? ⟨w.heap.size + 2, 0, none⟩ = some (.int .i64 c2) ∧ w4.cell? ⟨w.heap.size + 2, 1, none⟩ = some (.int .i64 s2) ∧ w4.cell? ⟨w.heap.size + 2, 2, none⟩ = some (.slice Ao2 op2.length co2) ∧ w4.cell? ⟨w.heap.size + 2, 3, none⟩ = some (.slice As2 sg2.length cs2)) ∧ Aside0 (Fr (fun _ => False) w3 w4 ∧ Rd w4 A2 (bodyA c1 s1 op1 sg1) ∧ Rd w4 A3 (bodyA c2 s2 op2 sg2)) := by
    intro w1 A2 H
    have F := F3.trans H.out.1 (fun _ h => h.elim)
    refine (body_calls c2 s2 Ao2 co2 op2 As2 cs2 sg2 w1 (HH.out.2.2.2.1.lies F) hco2 (HH.out.2.2.2.2.1.lies F) hcs2 HH.out.2.2.2.2.2.1).mono ?_
    rintro e w4 ⟨A3, y3, rfl, hc3, hO, hb⟩
    have fb := Fr.of_below hb (fun _ => False)
    have f4 := H.out.1.trans fb (fun _ h => h.elim)
    exact ⟨A3, y3, rfl, hS _ f4, ⟨f4, H.out.2.lies fb, QB.rd (q_of_own hO)⟩⟩
  have HC : ∀ w1 A2 y2 A3 y3, Aside0 (Fr (fun _ => False) w3 w1 ∧ Rd w1 A2 (bodyA c1 s1 op1 sg1) ∧ Rd w1 A3 (bodyA c2 s2 op2 sg2)) → Calls Try.prog 39 #[.slice A2 (bodyA c1 s1 op1 sg1).length y2, .slice A3 (bodyA c2 s2 op2 sg2).length y3] w1 fun e w4 => e = .returned (.int .i64 cm) ∧ (w4.cell? ⟨w.heap.size + 1, 0, none⟩ = some (.int .i64 c1) ∧ w4.cell? ⟨w.heap.size + 1, 1, none⟩ = some (.int .i64 s1) ∧ w4.cell? ⟨w.heap.size + 1, 2, none⟩ = some (.slice Ao1 op1.length co1) ∧ w4.cell? ⟨w.heap.size + 1, 3, none⟩ = some (.slice As1 sg1.length cs1) ∧ w4.cell? ⟨w.heap.size + 2, 0, none⟩ = some (.int .i64 c2) ∧ w4.cell? ⟨w.heap.size + 2, 1, none⟩ = some (.int .i64 s2) ∧ w4.cell? ⟨w.heap.size + 2, 2, none⟩ = some (.slice Ao2 op2.length co2) ∧ w4.cell? ⟨w.heap.size + 2, 3, none⟩ = some (.slice As2 sg2.length cs2)) ∧ Aside0 (Fr (fun _ => False) w3 w4) := by
    intro w1 A2 y2 A3 y3 H
    have hb := bcmp_calls A2 y2 (bodyA c1 s1 op1 sg1) A3 y3 (bodyA c2 s2 op2 sg2) w1 H.out.2.1 H.out.2.2
    rw [hcmm] at hb
    refine hb.mono ?_
    rintro e w4 ⟨rfl, hb⟩
    have f4 := H.out.1.trans (Fr.of_below hb (fun _ => False)) (fun _ h => h.elim)
    exact ⟨rfl, hS _ f4, ⟨f4⟩⟩
  have hs3' := hS _ (Fr.refl _ _)
  have HA := Aside0.mk HA
  have HB := Aside0.mk HB
  have HC := Aside0.mk HC
  have HN := Aside0.mk (And.intro F3 (And.intro hgP (And.intro hg1 (And.intro hg2 (And.intro hgZ hz3)))))
  clear hS F3 hgP hg1 hg2 hgZ hz3 hcmm hcm
  go_wp2_with (fail)
  go_region_held3 (fun w' => w'.cell? ⟨w.heap.size + 1, 0, none⟩ = some (.int .i64 c1) ∧ w'.cell? ⟨w.heap.size + 1, 1, none⟩ = some (.int .i64 s1) ∧ w'.cell? ⟨w.heap.size + 1, 2, none⟩ = some (.slice Ao1 op1.length co1) ∧ w'.cell? ⟨w.heap.size + 1, 3, none⟩ = some (.slice As1 sg1.length cs1) ∧ w'.cell? ⟨w.heap.size + 2, 0, none⟩ = some (.int .i64 c2) ∧ w'.cell? ⟨w.heap.size + 2, 1, none⟩ = some (.int .i64 s2) ∧ w'.cell? ⟨w.heap.size + 2, 2, none⟩ = some (.slice Ao2 op2.length co2) ∧ w'.cell? ⟨w.heap.size + 2, 3, none⟩ = some (.slice As2 sg2.length cs2)) (first | exact hs3' | exact hs4 | exact hs5 | exact hs6)
    (first | (go_at_call 39; refine (HC.out _ _ _ _ _ H5).mono ?_; rintro e w6 ⟨rfl, hs6, H6⟩) | (go_at_call 21; refine (HB.out _ _ H4).mono ?_; rintro e w5 ⟨A3, e3, rfl, hs5, H5⟩) | (go_at_call 21; refine (HA.out _ (Fr.refl _ _).of_drew).mono ?_; rintro e w4 ⟨A2, e2, rfl, hs4, H4⟩))
  clear HA HB HC hs3' hs4 hs5 H4 H5
  have hP6 := H6.out.blk HN.out.2.1 (fun h => h)
  have h16 := H6.out.blk HN.out.2.2.1 (fun h => h)
  have h26 := H6.out.blk HN.out.2.2.2.1 (fun h => h)
  have hZ6 := H6.out.blk HN.out.2.2.2.2.1 (fun h => h)
  have F6 := HN.out.1.trans H6.out (fun _ h => h.elim)
  have hz6 : w.heap.size + 4 ≤ w6.heap.size := by have := HN.out.2.2.2.2.2; have := H6.out.size; omega
  have y : w6.cell? ⟨w.heap.size + 1, 0, none⟩ = some (.int .i64 c1) ∧ w6.cell? ⟨w.heap.size + 1, 1, none⟩ = some (.int .i64 s1) ∧ w6.cell? ⟨w.heap.size + 1, 2, none⟩ = some (.slice Ao1 op1.length co1) ∧ w6.cell? ⟨w.heap.size + 1, 3, none⟩ = some (.slice As1 sg1.length cs1) ∧ w6.cell? ⟨w.heap.size + 2, 0, none⟩ = some (.int .i64 c2) ∧ w6.cell? ⟨w.heap.size + 2, 1, none⟩ = some (.int .i64 s2) ∧ w6.cell? ⟨w.heap.size + 2, 2, none⟩ = some (.slice Ao2 op2.length co2) ∧ w6.cell? ⟨w.heap.size + 2, 3, none⟩ = some (.slice As2 sg2.length cs2) := by simp [World.cell?, h16, h26]
  obtain ⟨y0, y1, y2, y3, y4, y5, y6, y7⟩ := y
  clear hs6
  go_wp2_with (first | ((with_reducible refine gate_store (p := 6) rfl ?_); refine Aside0.out ?_))
  refine ⟨?_⟩
  refine wpList_store_abs (by rfl) 31 _ _ (by rfl) (w.heap.size + 1) #[.int .i64 c2, .int .i64 s2, .slice Ao2 op2.length co2, .slice As2 sg2.length cs2] (by rfl) (by rfl) 31 #[.int .i64 c1, .int .i64 s1, .slice Ao1 op1.length co1, .slice As1 sg1.length cs1] h16 (by kernel_rfl) (by rfl) (by simp [Value.oneCell']) ?_
  intro w7 hf7 hz7 hg7
  clear y0 y1 y2 y3 y4 y5 y6 y7
  go_wp2_with (first | ((with_reducible refine gate_store (p := 7) rfl ?_); refine Aside0.out ?_))
  refine ⟨?_⟩
  refine wpList_store_abs (by rfl) 31 _ _ (by rfl) (w.heap.size + 2) #[.int .i64 c1, .int .i64 s1, .slice Ao1 op1.length co1, .slice As1 sg1.length cs1] (by rfl) (by rfl) 31 #[.int .i64 c2, .int .i64 s2, .slice Ao2 op2.length co2, .slice As2 sg2.length cs2] (hf7.blk h26 (fun e => by omega)) (by kernel_rfl) (by rfl) (by simp [Value.oneCell']) ?_
  intro w8 hf8 hz8 hY8
  have hX8 := hf8.blk hg7 (fun e => by omega)
  have hP8 := hf8.blk (hf7.blk hP6 (fun e => by omega)) (fun e => by omega)
  have hZ8 := hf8.blk (hf7.blk hZ6 (fun e => by omega)) (fun e => by omega)
  have F8 : Fr (fun _ => False) w w8 := (F6.trans hf7 (fun k hk => .inr (by omega))).trans hf8 (fun k hk => .inr (by omega))
  have hz88 : w.heap.size + 4 ≤ w8.heap.size := by omega
  clear hf7 hz7 hg7 hf8 hz8
  clear hP6 h16 h26 hZ6 F6 hz6 H6 HN
  have hS : ∀ w', Fr (fun _ => False) w8 w' → w'.cell? ⟨w.heap.size, 0, none⟩ = some (.int .i64 kind) ∧ w'.cell? ⟨w.heap.size, 1, none⟩ = some (.int .i64 view) ∧ w'.cell? ⟨w.heap.size, 2, none⟩ = some (.int .i64 turn) ∧ w'.cell? ⟨w.heap.size, 3, none⟩ = some (.int .i64 slot) ∧ w'.cell? ⟨w.heap.size, 4, none⟩ = some (.int .i64 signer) ∧ w'.cell? ⟨w.heap.size + 1, 0, none⟩ = some (.int .i64 c2) ∧ w'.cell? ⟨w.heap.size + 1, 1, none⟩ = some (.int .i64 s2) ∧ w'.cell? ⟨w.heap.size + 1, 2, none⟩ = some (.slice Ao2 op2.length co2) ∧ w'.cell? ⟨w.heap.size + 1, 3, none⟩ = some (.slice As2 sg2.length cs2) ∧ w'.cell? ⟨w.heap.size + 2, 0, none⟩ = some (.int .i64 c1) ∧ w'.cell? ⟨w.heap.size + 2, 1, none⟩ = some (.int .i64 s1) ∧ w'.cell? ⟨w.heap.size + 2, 2, none⟩ = some (.slice Ao1 op1.length co1) ∧ w'.cell? ⟨w.heap.size + 2, 3, none⟩ = some (.slice As1 sg1.length cs1) := fun w' hf => by
    have h0 := hf.blk hP8 (fun h => h)
    have h1 := hf.blk hX8 (fun h => h)
    have h2 := hf.blk hY8 (fun h => h)
    simp [World.cell?, h0, h1, h2]
  have HD : ∀ w1, Fr (fun _ => False) w8 w1 → Calls Try.prog 24 #[.agg #[.int .i64 c2, .int .i64 s2, .slice Ao2 op2.length co2, .slice As2 sg2.length cs2]] w1 fun e w2 => ∃ B1 d1 B2 d2, e = .returned (.agg #[.int .i64 c2, .int .i64 s2, .slice B1 op2.length d1, .slice B2 sg2.length d2]) ∧ (w2.cell? ⟨w.heap.size, 0, none⟩ = some (.int .i64 kind) ∧ w2.cell? ⟨w.heap.size, 1, none⟩ = some (.int .i64 view) ∧ w2.cell? ⟨w.heap.size, 2, none⟩ = some (.int .i64 turn) ∧ w2.cell? ⟨w.heap.size, 3, none⟩ = some (.int .i64 slot) ∧ w2.cell? ⟨w.heap.size, 4, none⟩ = some (.int .i64 signer) ∧ w2.cell? ⟨w.heap.size + 1, 0, none⟩ = some (.int .i64 c2) ∧ w2.cell? ⟨w.heap.size + 1, 1, none⟩ = some (.int .i64 s2) ∧ w2.cell? ⟨w.heap.size + 1, 2, none⟩ = some (.slice Ao2 op2.length co2) ∧ w2.cell? ⟨w.heap.size + 1, 3, none⟩ = some (.slice As2 sg2.length cs2) ∧ w2.cell? ⟨w.heap.size + 2, 0, none⟩ = some (.int .i64 c1) ∧ w2.cell? ⟨w.heap.size + 2, 1, none⟩ = some (.int .i64 s1) ∧ w2.cell? ⟨w.heap.size + 2, 2, none⟩ = some (.slice Ao1 op1.length co1) ∧ w2.cell? ⟨w.heap.size + 2, 3, none⟩ = some (.slice As1 sg1.length cs1)) ∧ Aside0 (Fr (fun _ => False) w1 w2 ∧ Fr (fun _ => False) w8 w2 ∧ Lo (w.heap.size + 4) w2 B1 d1 op2 ∧ Lo (w.heap.size + 4) w2 B2 d2 sg2) := by
    intro w1 hf1
    have F := F8.trans hf1 (fun _ h => h.elim)
    refine (clone_calls c2 s2 Ao2 co2 op2 As2 cs2 sg2 w1 (HH.out.2.2.2.1.lies F) hco2 (HH.out.2.2.2.2.1.lies F) hcs2 HH.out.2.2.2.2.2.1).mono ?_
    rintro e w2 ⟨B1, d1, B2, d2, rfl, h1, h2, o1, o2, hb⟩
    have fb := Fr.of_below hb (fun _ => False)
    have f2 := hf1.trans fb (fun _ h => h.elim)
    exact ⟨B1, d1, B2, d2, rfl, hS _ f2, ⟨fb, f2, ⟨⟨h1, fun k hk => (q_typed (q_of_own o1) k hk).2⟩, fun k hk => by have := o1.base k hk; have := hf1.size; omega⟩, ⟨⟨h2, fun k hk => (q_typed (q_of_own o2) k hk).2⟩, fun k hk => by have := o2.base k hk; have := hf1.size; omega⟩⟩⟩
  have HE : ∀ w1, Fr (fun _ => False) w8 w1 → Calls Try.prog 24 #[.agg #[.int .i64 c1, .int .i64 s1, .slice Ao1 op1.length co1, .slice As1 sg1.length cs1]] w1 fun e w2 => ∃ B1 d1 B2 d2, e = .returned (.agg #[.int .i64 c1, .int .i64 s1, .slice B1 op1.length d1, .slice B2 sg1.length d2]) ∧ (w2.cell? ⟨w.heap.size, 0, none⟩ = some (.int .i64 kind) ∧ w2.cell? ⟨w.heap.size, 1, none⟩ = some (.int .i64 view) ∧ w2.cell? ⟨w.heap.size, 2, none⟩ = some (.int .i64 turn) ∧ w2.cell? ⟨w.heap.size, 3, none⟩ = some (.int .i64 slot) ∧ w2.cell? ⟨w.heap.size, 4, none⟩ = some (.int .i64 signer) ∧ w2.cell? ⟨w.heap.size + 1, 0, none⟩ = some (.int .i64 c2) ∧ w2.cell? ⟨w.heap.size + 1, 1, none⟩ = some (.int .i64 s2) ∧ w2.cell? ⟨w.heap.size + 1, 2, none⟩ = some (.slice Ao2 op2.length co2) ∧ w2.cell? ⟨w.heap.size + 1, 3, none⟩ = some (.slice As2 sg2.length cs2) ∧ w2.cell? ⟨w.heap.size + 2, 0, none⟩ = some (.int .i64 c1) ∧ w2.cell? ⟨w.heap.size + 2, 1, none⟩ = some (.int .i64 s1) ∧ w2.cell? ⟨w.heap.size + 2, 2, none⟩ = some (.slice Ao1 op1.length co1) ∧ w2.cell? ⟨w.heap.size + 2, 3, none⟩ = some (.slice As1 sg1.length cs1)) ∧ Aside0 (Fr (fun _ => False) w1 w2 ∧ Fr (fun _ => False) w8 w2 ∧ Lo (w.heap.size + 4) w2 B1 d1 op1 ∧ Lo (w.heap.size + 4) w2 B2 d2 sg1) := by
    intro w1 hf1
    have F := F8.trans hf1 (fun _ h => h.elim)
    refine (clone_calls c1 s1 Ao1 co1 op1 As1 cs1 sg1 w1 (HH.out.1.lies F) hco1 (HH.out.2.1.lies F) hcs1 HH.out.2.2.1).mono ?_
    rintro e w2 ⟨B1, d1, B2, d2, rfl, h1, h2, o1, o2, hb⟩
    have fb := Fr.of_below hb (fun _ => False)
    have f2 := hf1.trans fb (fun _ h => h.elim)
    exact ⟨B1, d1, B2, d2, rfl, hS _ f2, ⟨fb, f2, ⟨⟨h1, fun k hk => (q_typed (q_of_own o1) k hk).2⟩, fun k hk => by have := o1.base k hk; have := hf1.size; omega⟩, ⟨⟨h2, fun k hk => (q_typed (q_of_own o2) k hk).2⟩, fun k hk => by have := o2.base k hk; have := hf1.size; omega⟩⟩⟩
  have HT : ∀ w1, Fr (fun _ => False) w8 w1 → Calls Try.prog 25 #[.slice T2 t2.length k2] w1 fun e w2 => ∃ B d, e = .returned (.slice B t2.length d) ∧ (w2.cell? ⟨w.heap.size, 0, none⟩ = some (.int .i64 kind) ∧ w2.cell? ⟨w.heap.size, 1, none⟩ = some (.int .i64 view) ∧ w2.cell? ⟨w.heap.size, 2, none⟩ = some (.int .i64 turn) ∧ w2.cell? ⟨w.heap.size, 3, none⟩ = some (.int .i64 slot) ∧ w2.cell? ⟨w.heap.size, 4, none⟩ = some (.int .i64 signer) ∧ w2.cell? ⟨w.heap.size + 1, 0, none⟩ = some (.int .i64 c2) ∧ w2.cell? ⟨w.heap.size + 1, 1, none⟩ = some (.int .i64 s2) ∧ w2.cell? ⟨w.heap.size + 1, 2, none⟩ = some (.slice Ao2 op2.length co2) ∧ w2.cell? ⟨w.heap.size + 1, 3, none⟩ = some (.slice As2 sg2.length cs2) ∧ w2.cell? ⟨w.heap.size + 2, 0, none⟩ = some (.int .i64 c1) ∧ w2.cell? ⟨w.heap.size + 2, 1, none⟩ = some (.int .i64 s1) ∧ w2.cell? ⟨w.heap.size + 2, 2, none⟩ = some (.slice Ao1 op1.length co1) ∧ w2.cell? ⟨w.heap.size + 2, 3, none⟩ = some (.slice As1 sg1.length cs1)) ∧ Aside0 (Fr (fun _ => False) w1 w2 ∧ Fr (fun _ => False) w8 w2 ∧ Lo (w.heap.size + 4) w2 B d t2) := by
    intro w1 hf1
    have F := F8.trans hf1 (fun _ h => h.elim)
    refine (sclone_calls T2 k2 t2 w1 (HH.out.2.2.2.2.2.2.2.1.2.lies F) HH.out.2.2.2.2.2.2.2.1.1 HH.out.2.2.2.2.2.2.2.2.2).mono ?_
    rintro e w2 ⟨B, d, rfl, h1, o1, hb⟩
    have fb := Fr.of_below hb (fun _ => False)
    have f2 := hf1.trans fb (fun _ h => h.elim)
    exact ⟨B, d, rfl, hS _ f2, ⟨fb, f2, ⟨⟨h1, fun k hk => (q_typed (q_of_own o1) k hk).2⟩, fun k hk => by have := o1.base k hk; have := hf1.size; omega⟩⟩⟩
  have HU : ∀ w1, Fr (fun _ => False) w8 w1 → Calls Try.prog 25 #[.slice T1 t1.length k1] w1 fun e w2 => ∃ B d, e = .returned (.slice B t1.length d) ∧ (w2.cell? ⟨w.heap.size, 0, none⟩ = some (.int .i64 kind) ∧ w2.cell? ⟨w.heap.size, 1, none⟩ = some (.int .i64 view) ∧ w2.cell? ⟨w.heap.size, 2, none⟩ = some (.int .i64 turn) ∧ w2.cell? ⟨w.heap.size, 3, none⟩ = some (.int .i64 slot) ∧ w2.cell? ⟨w.heap.size, 4, none⟩ = some (.int .i64 signer) ∧ w2.cell? ⟨w.heap.size + 1, 0, none⟩ = some (.int .i64 c2) ∧ w2.cell? ⟨w.heap.size + 1, 1, none⟩ = some (.int .i64 s2) ∧ w2.cell? ⟨w.heap.size + 1, 2, none⟩ = some (.slice Ao2 op2.length co2) ∧ w2.cell? ⟨w.heap.size + 1, 3, none⟩ = some (.slice As2 sg2.length cs2) ∧ w2.cell? ⟨w.heap.size + 2, 0, none⟩ = some (.int .i64 c1) ∧ w2.cell? ⟨w.heap.size + 2, 1, none⟩ = some (.int .i64 s1) ∧ w2.cell? ⟨w.heap.size + 2, 2, none⟩ = some (.slice Ao1 op1.length co1) ∧ w2.cell? ⟨w.heap.size + 2, 3, none⟩ = some (.slice As1 sg1.length cs1)) ∧ w2.heap[w.heap.size + 3]? = some (.cells Z48 48 (0, 0)) ∧ Aside0 (Fr (fun _ => False) w1 w2 ∧ Fr (fun _ => False) w8 w2 ∧ Lo (w.heap.size + 4) w2 B d t1) := by
    intro w1 hf1
    have F := F8.trans hf1 (fun _ h => h.elim)
    refine (sclone_calls T1 k1 t1 w1 (HH.out.2.2.2.2.2.2.1.2.lies F) HH.out.2.2.2.2.2.2.1.1 HH.out.2.2.2.2.2.2.2.2.1).mono ?_
    rintro e w2 ⟨B, d, rfl, h1, o1, hb⟩
    have fb := Fr.of_below hb (fun _ => False)
    have f2 := hf1.trans fb (fun _ h => h.elim)
    exact ⟨B, d, rfl, hS _ f2, f2.blk hZ8 (fun h => h), ⟨fb, f2, ⟨⟨h1, fun k hk => (q_typed (q_of_own o1) k hk).2⟩, fun k hk => by have := o1.base k hk; have := hf1.size; omega⟩⟩⟩
  have HS9 : ∀ u u', (u.cell? ⟨w.heap.size, 0, none⟩ = some (.int .i64 kind) ∧ u.cell? ⟨w.heap.size, 1, none⟩ = some (.int .i64 view) ∧ u.cell? ⟨w.heap.size, 2, none⟩ = some (.int .i64 turn) ∧ u.cell? ⟨w.heap.size, 3, none⟩ = some (.int .i64 slot) ∧ u.cell? ⟨w.heap.size, 4, none⟩ = some (.int .i64 signer) ∧ u.cell? ⟨w.heap.size + 1, 0, none⟩ = some (.int .i64 c2) ∧ u.cell? ⟨w.heap.size + 1, 1, none⟩ = some (.int .i64 s2) ∧ u.cell? ⟨w.heap.size + 1, 2, none⟩ = some (.slice Ao2 op2.length co2) ∧ u.cell? ⟨w.heap.size + 1, 3, none⟩ = some (.slice As2 sg2.length cs2) ∧ u.cell? ⟨w.heap.size + 2, 0, none⟩ = some (.int .i64 c1) ∧ u.cell? ⟨w.heap.size + 2, 1, none⟩ = some (.int .i64 s1) ∧ u.cell? ⟨w.heap.size + 2, 2, none⟩ = some (.slice Ao1 op1.length co1) ∧ u.cell? ⟨w.heap.size + 2, 3, none⟩ = some (.slice As1 sg1.length cs1)) → Fr (fun k => k = w.heap.size + 3) u u' → u'.cell? ⟨w.heap.size, 0, none⟩ = some (.int .i64 kind) ∧ u'.cell? ⟨w.heap.size, 1, none⟩ = some (.int .i64 view) ∧ u'.cell? ⟨w.heap.size, 2, none⟩ = some (.int .i64 turn) ∧ u'.cell? ⟨w.heap.size, 3, none⟩ = some (.int .i64 slot) ∧ u'.cell? ⟨w.heap.size, 4, none⟩ = some (.int .i64 signer) ∧ u'.cell? ⟨w.heap.size + 1, 0, none⟩ = some (.int .i64 c2) ∧ u'.cell? ⟨w.heap.size + 1, 1, none⟩ = some (.int .i64 s2) ∧ u'.cell? ⟨w.heap.size + 1, 2, none⟩ = some (.slice Ao2 op2.length co2) ∧ u'.cell? ⟨w.heap.size + 1, 3, none⟩ = some (.slice As2 sg2.length cs2) ∧ u'.cell? ⟨w.heap.size + 2, 0, none⟩ = some (.int .i64 c1) ∧ u'.cell? ⟨w.heap.size + 2, 1, none⟩ = some (.int .i64 s1) ∧ u'.cell? ⟨w.heap.size + 2, 2, none⟩ = some (.slice Ao1 op1.length co1) ∧ u'.cell? ⟨w.heap.size + 2, 3, none⟩ = some (.slice As1 sg1.length cs1) := fun u u' h hf => by
    obtain ⟨h0, h1, h2, h3, h4, h5, h6, h7, h8, h9, h10, h11, h12⟩ := h
    exact ⟨hf.cell h0 (fun e => by simp only at e; omega), hf.cell h1 (fun e => by simp only at e; omega), hf.cell h2 (fun e => by simp only at e; omega), hf.cell h3 (fun e => by simp only at e; omega), hf.cell h4 (fun e => by simp only at e; omega), hf.cell h5 (fun e => by simp only at e; omega), hf.cell h6 (fun e => by simp only at e; omega), hf.cell h7 (fun e => by simp only at e; omega), hf.cell h8 (fun e => by simp only at e; omega), hf.cell h9 (fun e => by simp only at e; omega), hf.cell h10 (fun e => by simp only at e; omega), hf.cell h11 (fun e => by simp only at e; omega), hf.cell h12 (fun e => by simp only at e; omega)⟩
  have hs8 := hS _ (Fr.refl _ _)
  have HD := Aside0.mk HD
  have HE := Aside0.mk HE
  have HT := Aside0.mk HT
  have HU := Aside0.mk HU
  have HS9 := Aside0.mk HS9
  have HF := Aside0.mk (And.intro F8 hz88)
  clear hS F8 hX8 hY8 hP8 hZ8 hz88
  go_wp2_with (fail)
  refine wp_region_held_drew (S := (fun w' => w'.cell? ⟨w.heap.size, 0, none⟩ = some (.int .i64 kind) ∧ w'.cell? ⟨w.heap.size, 1, none⟩ = some (.int .i64 view) ∧ w'.cell? ⟨w.heap.size, 2, none⟩ = some (.int .i64 turn) ∧ w'.cell? ⟨w.heap.size, 3, none⟩ = some (.int .i64 slot) ∧ w'.cell? ⟨w.heap.size, 4, none⟩ = some (.int .i64 signer) ∧ w'.cell? ⟨w.heap.size + 1, 0, none⟩ = some (.int .i64 c2) ∧ w'.cell? ⟨w.heap.size + 1, 1, none⟩ = some (.int .i64 s2) ∧ w'.cell? ⟨w.heap.size + 1, 2, none⟩ = some (.slice Ao2 op2.length co2) ∧ w'.cell? ⟨w.heap.size + 1, 3, none⟩ = some (.slice As2 sg2.length cs2) ∧ w'.cell? ⟨w.heap.size + 2, 0, none⟩ = some (.int .i64 c1) ∧ w'.cell? ⟨w.heap.size + 2, 1, none⟩ = some (.int .i64 s1) ∧ w'.cell? ⟨w.heap.size + 2, 2, none⟩ = some (.slice Ao1 op1.length co1) ∧ w'.cell? ⟨w.heap.size + 2, 3, none⟩ = some (.slice As1 sg1.length cs1))) (by kernel_rfl) hs8 (fun hHeld => ?_)
  refine wpAnyH_take (i := 0) (oi := ⟨some 21, _, _, _, _, _⟩) (v := (.pointer (some ⟨w.heap.size, 0, none⟩))) rfl (by kernel_rfl) (by kernel_rfl) (by kernel_rfl) (fun _ _ _ h => h) (Or.inl ⟨by rfl, by (intro w' hSw; (try dsimp only at hSw); go_simp)⟩) (by assumption) ?_
  try simp only [Act.put, List.setIfInBounds_toArray, List.set_cons_zero, List.set_cons_succ]
  refine wpAnyH_take (i := 1) (oi := ⟨some 22, _, _, _, _, _⟩) (v := (.int .i64 kind)) rfl (by kernel_rfl) (by kernel_rfl) (by kernel_rfl) (fun _ _ _ h => h) (Or.inl ⟨by rfl, by (intro w' hSw; (try dsimp only at hSw); go_simp)⟩) (by assumption) ?_
  try simp only [Act.put, List.setIfInBounds_toArray, List.set_cons_zero, List.set_cons_succ]
  refine wpAnyH_take (i := 2) (oi := ⟨some 23, _, _, _, _, _⟩) (v := (.pointer (some ⟨w.heap.size, 1, none⟩))) rfl (by kernel_rfl) (by kernel_rfl) (by kernel_rfl) (fun _ _ _ h => h) (Or.inl ⟨by rfl, by (intro w' hSw; (try dsimp only at hSw); go_simp)⟩) (by assumption) ?_
  try simp only [Act.put, List.setIfInBounds_toArray, List.set_cons_zero, List.set_cons_succ]
  refine wpAnyH_take (i := 3) (oi := ⟨some 24, _, _, _, _, _⟩) (v := (.agg #[.int .i64 view, .int .i64 turn])) rfl (by kernel_rfl) (by kernel_rfl) (by kernel_rfl) (fun _ _ _ h => h) (Or.inl ⟨by rfl, by (intro w' hSw; (try dsimp only at hSw); go_simp)⟩) (by assumption) ?_
  try simp only [Act.put, List.setIfInBounds_toArray, List.set_cons_zero, List.set_cons_succ]
  refine wpAnyH_take (i := 4) (oi := ⟨some 25, _, _, _, _, _⟩) (v := (.pointer (some ⟨w.heap.size, 3, none⟩))) rfl (by kernel_rfl) (by kernel_rfl) (by kernel_rfl) (fun _ _ _ h => h) (Or.inl ⟨by rfl, by (intro w' hSw; (try dsimp only at hSw); go_simp)⟩) (by assumption) ?_
  try simp only [Act.put, List.setIfInBounds_toArray, List.set_cons_zero, List.set_cons_succ]
  refine wpAnyH_take (i := 5) (oi := ⟨some 26, _, _, _, _, _⟩) (v := (.int .i64 slot)) rfl (by kernel_rfl) (by kernel_rfl) (by kernel_rfl) (fun _ _ _ h => h) (Or.inl ⟨by rfl, by (intro w' hSw; (try dsimp only at hSw); go_simp)⟩) (by assumption) ?_
  try simp only [Act.put, List.setIfInBounds_toArray, List.set_cons_zero, List.set_cons_succ]
  refine wpAnyH_take (i := 6) (oi := ⟨some 27, _, _, _, _, _⟩) (v := (.pointer (some ⟨w.heap.size, 4, none⟩))) rfl (by kernel_rfl) (by kernel_rfl) (by kernel_rfl) (fun _ _ _ h => h) (Or.inl ⟨by rfl, by (intro w' hSw; (try dsimp only at hSw); go_simp)⟩) (by assumption) ?_
  try simp only [Act.put, List.setIfInBounds_toArray, List.set_cons_zero, List.set_cons_succ]
  refine wpAnyH_take (i := 7) (oi := ⟨some 28, _, _, _, _, _⟩) (v := (.int .i64 signer)) rfl (by kernel_rfl) (by kernel_rfl) (by kernel_rfl) (fun _ _ _ h => h) (Or.inl ⟨by rfl, by (intro w' hSw; (try dsimp only at hSw); go_simp)⟩) (by assumption) ?_
  try simp only [Act.put, List.setIfInBounds_toArray, List.set_cons_zero, List.set_cons_succ]
  refine wpAnyH_take (i := 8) (oi := ⟨some 29, _, _, _, _, _⟩) (v := (.agg #[.int .i64 c2, .int .i64 s2, .slice Ao2 op2.length co2, .slice As2 sg2.length cs2])) rfl (by kernel_rfl) (by kernel_rfl) (by kernel_rfl) (fun _ _ _ h => h) (Or.inl ⟨by rfl, by (intro w' hSw; (try dsimp only at hSw); go_simp)⟩) (by assumption) ?_
  try simp only [Act.put, List.setIfInBounds_toArray, List.set_cons_zero, List.set_cons_succ]
  refine wpAnyH_take (i := 10) (oi := ⟨some 31, _, _, _, _, _⟩) (v := (.slice T2 t2.length k2)) rfl (by kernel_rfl) (by kernel_rfl) (by kernel_rfl) (fun _ _ _ h => h) (Or.inl ⟨by rfl, by (intro w' hSw; (try dsimp only at hSw); go_simp)⟩) (by assumption) ?_
  try simp only [Act.put, List.setIfInBounds_toArray, List.set_cons_zero, List.set_cons_succ]
  refine wpAnyH_take (i := 12) (oi := ⟨some 33, _, _, _, _, _⟩) (v := (.agg #[.int .i64 c1, .int .i64 s1, .slice Ao1 op1.length co1, .slice As1 sg1.length cs1])) rfl (by kernel_rfl) (by kernel_rfl) (by kernel_rfl) (fun _ _ _ h => h) (Or.inl ⟨by rfl, by (intro w' hSw; (try dsimp only at hSw); go_simp)⟩) (by assumption) ?_
  try simp only [Act.put, List.setIfInBounds_toArray, List.set_cons_zero, List.set_cons_succ]
  refine wpAnyH_take (i := 14) (oi := ⟨some 35, _, _, _, _, _⟩) (v := (.slice T1 t1.length k1)) rfl (by kernel_rfl) (by kernel_rfl) (by kernel_rfl) (fun _ _ _ h => h) (Or.inl ⟨by rfl, by (intro w' hSw; (try dsimp only at hSw); go_simp)⟩) (by assumption) ?_
  try simp only [Act.put, List.setIfInBounds_toArray, List.set_cons_zero, List.set_cons_succ]
  refine wpAnyH_ready (rs := [9]) (by kernel_rfl) (by simp) ?_
  refine AllReadyH.cons (o := ⟨some 30, _, _, _, _, _⟩) rfl (fun K hK => ?_) AllReadyH.nil
  go_simp
  go_at_call 24
  refine (HD.out _ (Fr.refl _ _).of_drew).mono ?_
  rintro e w9 ⟨B1, d1, B2, d2, rfl, hs9, H9⟩
  refine hK.out _ _ hs9 (fun hHeld => ?_)
  try simp only [Act.put, List.setIfInBounds_toArray, List.set_cons_zero, List.set_cons_succ]
  refine wpAnyH_ready (rs := [11]) (by kernel_rfl) (by simp) ?_
  refine AllReadyH.cons (o := ⟨some 32, _, _, _, _, _⟩) rfl (fun K hK => ?_) AllReadyH.nil
  go_simp
  go_at_call 25
  refine (HT.out _ H9.out.2.1).mono ?_
  rintro e w10 ⟨B3, d3, rfl, hs10, H10⟩
  refine hK.out _ _ hs10 (fun hHeld => ?_)
  try simp only [Act.put, List.setIfInBounds_toArray, List.set_cons_zero, List.set_cons_succ]
  refine wpAnyH_ready (rs := [13]) (by kernel_rfl) (by simp) ?_
  refine AllReadyH.cons (o := ⟨some 34, _, _, _, _, _⟩) rfl (fun K hK => ?_) AllReadyH.nil
  go_simp
  go_at_call 24
  refine (HE.out _ H10.out.2.1).mono ?_
  rintro e w11 ⟨B4, d4, B5, d5, rfl, hs11, H11⟩
  refine hK.out _ _ hs11 (fun hHeld => ?_)
  try simp only [Act.put, List.setIfInBounds_toArray, List.set_cons_zero, List.set_cons_succ]
  refine wpAnyH_ready (rs := [15]) (by kernel_rfl) (by simp) ?_
  refine AllReadyH.cons (o := ⟨some 36, _, _, _, _, _⟩) rfl (fun K hK => ?_) AllReadyH.nil
  go_simp
  go_at_call 25
  refine (HU.out _ H11.out.2.1).mono ?_
  rintro e w12 ⟨B6, d6, rfl, hs12, hZ12, H12⟩
  refine hK.out _ _ hs12 (fun hHeld => ?_)
  try simp only [Act.put, List.setIfInBounds_toArray, List.set_cons_zero, List.set_cons_succ]
  refine wpAnyH_take (i := 16) (oi := ⟨some 37, _, _, _, _, _⟩) (v := (.agg #[.int .i64 13, .int .i64 view, .int .i64 turn, .int .i64 slot, .int .i64 signer, .int .i64 0, .int .i64 kind, .int .i64 0, .int .i64 c2, .int .i64 s2, .slice B1 op2.length d1, .slice B2 sg2.length d2, .int .i64 c1, .int .i64 s1, .slice B4 op1.length d4, .slice B5 sg1.length d5, .slice B6 t1.length d6, .slice B3 t2.length d3, .slice none 0 0, .slice none 0 0, .slice none 0 0, .slice none 0 0, .slice none 0 0])) rfl (by kernel_rfl) (by kernel_rfl) (by kernel_rfl) (fun _ _ _ h => h) (Or.inl ⟨by rfl, by (intro w' hSw; (try dsimp only at hSw); go_simp)⟩) (by assumption) ?_
  try simp only [Act.put, List.setIfInBounds_toArray, List.set_cons_zero, List.set_cons_succ]
  refine wpAnyH_ready (rs := [17]) (by kernel_rfl) (by simp) ?_
  refine AllReadyH.cons (o := ⟨none, _, _, _, _, _⟩) rfl (fun K hK => ?_) AllReadyH.nil
  rw [if_pos (by rfl)]
  refine wp_store_abs 48 _ _ (by rfl) (w.heap.size + 3) #[.int .i64 13, .int .i64 view, .int .i64 turn, .int .i64 slot, .int .i64 signer, .int .i64 0, .int .i64 kind, .int .i64 0, .int .i64 c2, .int .i64 s2, .slice B1 op2.length d1, .slice B2 sg2.length d2, .int .i64 c1, .int .i64 s1, .slice B4 op1.length d4, .slice B5 sg1.length d5, .slice B6 t1.length d6, .slice B3 t2.length d3, .slice none 0 0, .slice none 0 0, .slice none 0 0, .slice none 0 0, .slice none 0 0] (by rfl) (by rfl) 48 Z48 hZ12 (by kernel_rfl) (by rfl) (by simp [Value.oneCell']) ?_
  intro w13 hf13 hz13 hg13
  have hs13 := HS9.out _ _ hs12 hf13
  refine hK.out _ _ hs13 (fun hHeld => ?_)
  try simp only [Act.put, List.setIfInBounds_toArray, List.set_cons_zero, List.set_cons_succ]
  refine wpAnyH_done (by kernel_rfl) ?_ _
  clear hs8 hs9 hs10 hs11 hs12 hs13 hHeld HD HE HT HU HS9
  go_wp2
  refine bodyPost_ret (results_cell_row (by rfl) _ _ (w.heap.size + 3) 48 #[.int .i64 13, .int .i64 view, .int .i64 turn, .int .i64 slot, .int .i64 signer, .int .i64 0, .int .i64 kind, .int .i64 0, .int .i64 c2, .int .i64 s2, .slice B1 op2.length d1, .slice B2 sg2.length d2, .int .i64 c1, .int .i64 s1, .slice B4 op1.length d4, .slice B5 sg1.length d5, .slice B6 t1.length d6, .slice B3 t2.length d3, .slice none 0 0, .slice none 0 0, .slice none 0 0, .slice none 0 0, .slice none 0 0] (0, 0) _ (by rfl) hg13 Try.underlying48 (by rfl) (by kernel_rfl)) rfl ?_
  have F12 := HF.out.1.trans H12.out.2.1 (fun _ h => h.elim)
  have f1112 := H12.out.1
  have f1012 := H11.out.1.trans f1112 (fun _ h => h.elim)
  have f912 := H10.out.1.trans f1012 (fun _ h => h.elim)
  have hL : ∀ {A : Option Addr} {c : Nat} {l : List Int}, Lo (w.heap.size + 4) w12 A c l → Lt w13 A c l := fun h => ⟨⟨h.1.1.1, h.1.1.2.fr hf13 (fun ad e h2 => by have := h.2 ad.block (by subst e; rfl); omega)⟩, fun k hk => (h.1.2 k hk).imp (fun cells hc => hf13.blk hc (fun e => by have := h.2 k hk; omega))⟩
  exact ⟨_, rfl, ⟨B1, d1, B2, d2, B3, d3, B4, d4, B5, d5, B6, d6, rfl, hL (H9.out.2.2.1.fr f912), hL (H9.out.2.2.2.fr f912), hL (H10.out.2.2.fr f1012), hL (H11.out.2.2.1.fr f1112), hL (H11.out.2.2.2.fr f1112), hL H12.out.2.2⟩, frB (F12.trans hf13 (fun k hk => .inr (by omega)))⟩
end Go.Proofs.Ytnabilhcmplhcaa.Sha
end
section
/- Parts of one work, laid together: LdM, LdN, LdR, LdQ0. -/
/-
  The ledger's map: its keys are places, its elements addresses.
-/
set_option linter.unusedVariables false
set_option linter.unusedSimpArgs false
namespace Go.Proofs.Ytnabilhcmplhcaa.Sha
open Go.Maps Go.ChangeMaps Go.Proofs.Ytnabilhcmplhcaa.Fr

theorem placeLaw : Keyed Try.prog 67 := Keyed.of_law (deep_law_laid (m := 8) (by kernel_rfl) (by decide) (by decide +kernel) (by kernel_rfl) (by kernel_rfl))
/-- What a place reads as. -/
def plK (a b c d e : Int) : Lit := .string (keyBytes [.int .i64 a, .int .i64 b, .int .i64 c, .int .i64 d, .int .i64 e])
theorem plK_of {a b c d e : Int} (ha : (Lit.int .i64 a).wf = true) (hb : (Lit.int .i64 b).wf = true) (hc : (Lit.int .i64 c).wf = true) (hd : (Lit.int .i64 d).wf = true) (he : (Lit.int .i64 e).wf = true) : keyOf Try.prog 67 (.agg #[.int .i64 a, .int .i64 b, .int .i64 c, .int .i64 d, .int .i64 e]) = some (plK a b c d e) := by
  have h3 : ∀ (n : Nat) (x : Int), (Lit.int .i64 x).wf = true → Try.prog.keyLits (n + 1) 3 [.int .i64 x] = some [.int .i64 x] := fun n x hx => by
    simp [Program.keyLits, show Try.prog.underlying 3 = some (.int .i64) by kernel_rfl, hx]
  have h28 : ∀ (n : Nat), Try.prog.keyLits (n + 2) 28 [.int .i64 b, .int .i64 c] = some [.int .i64 b, .int .i64 c] := fun n => by
    unfold Program.keyLits
    rw [Try.underlying28]
    simp [show Try.prog.cellsOf 28 = 2 by kernel_rfl, show Try.prog.cellsOf 3 = 1 by kernel_rfl, h3 n _ hb, h3 n _ hc]
  have hk : ∀ (n : Nat), Try.prog.keyLits (n + 3) 67 [.int .i64 a, .int .i64 b, .int .i64 c, .int .i64 d, .int .i64 e] = some [.int .i64 a, .int .i64 b, .int .i64 c, .int .i64 d, .int .i64 e] := fun n => by
    unfold Program.keyLits
    rw [Try.underlying67]
    simp [show Try.prog.cellsOf 67 = 5 by kernel_rfl, show Try.prog.cellsOf 28 = 2 by kernel_rfl, show Try.prog.cellsOf 3 = 1 by kernel_rfl, h3 (n + 1) _ ha, h3 (n + 1) _ hd, h3 (n + 1) _ he, h28 n]
  have hn : Try.prog.types.size + 1 = (Try.prog.types.size - 2) + 3 := by
    have : 2 ≤ Try.prog.types.size := by decide +kernel
    omega
  unfold keyOf
  rw [Try.underlying67]
  simp only []
  rw [if_pos (by kernel_rfl), hn]
  rw [show (Value.agg #[.int .i64 a, .int .i64 b, .int .i64 c, .int .i64 d, .int .i64 e]).cells.toList = [.int .i64 a, .int .i64 b, .int .i64 c, .int .i64 d, .int .i64 e] from rfl, hk]
  rfl
theorem plK_inj {a b c d e a' b' c' d' e' : Int} (ha : (Lit.int .i64 a).wf = true) (hb : (Lit.int .i64 b).wf = true) (hc : (Lit.int .i64 c).wf = true) (hd : (Lit.int .i64 d).wf = true) (he : (Lit.int .i64 e).wf = true) (ha' : (Lit.int .i64 a').wf = true) (hb' : (Lit.int .i64 b').wf = true) (hc' : (Lit.int .i64 c').wf = true) (hd' : (Lit.int .i64 d').wf = true) (he' : (Lit.int .i64 e').wf = true) (h : plK a b c d e = plK a' b' c' d' e') : a = a' ∧ b = b' ∧ c = c' ∧ d = d' ∧ e = e' := by
  have := placeLaw.inj (plK_of ha hb hc hd he) (h ▸ plK_of ha' hb' hc' hd' he')
  simpa using this
/-- What an address of a block reads as. -/
def ptrE : Value → Option (DataW Unit × List MemPlace)
  | .pointer none => some (.lit (.int .i64 (-1)), [])
  | .pointer (some ⟨b, 0, none⟩) => some (.lit (.int .i64 (b : Int)), [])
  | _ => none
theorem ptrE_inv {v : Value} {b : Nat} {ps : List MemPlace} (h : ptrE v = some (.lit (.int .i64 (b : Int)), ps)) : v = .pointer (some ⟨b, 0, none⟩) := by
  unfold ptrE at h
  split at h
  · simp at h
  · rename_i b'
    simp at h
    obtain ⟨h, _⟩ := h
    have : b' = b := by omega
    subst this
    rfl
  · cases h
theorem ptrE_nil {v : Value} {ps : List MemPlace} (h : ptrE v = some (.lit (.int .i64 (-1)), ps)) : v = .pointer none := by
  unfold ptrE at h
  split at h
  · rfl
  · simp at h
  · cases h
theorem zeroP (w : World) : (zeroValue 68).run Try.prog w = .ok (.pointer none) w := by kernel_rfl
theorem undMap : Try.prog.underlying 62 = some (.map 67 68) := by kernel_rfl
/-- Another map's block: told by a frame. -/
theorem ownsMap_fr {w w' : World} {S : Nat → Prop} {R : Value → Option (DataW Unit × List MemPlace)} {b n : Nat} {D : DataW Unit} (h : w.ownsMap Try.prog 67 R b n D) (hf : Fr S w w') (hS : ¬ S b) : w'.ownsMap Try.prog 67 R b n D := by
  have hlt := h.lt
  obtain ⟨es, clock, hb, F, hs, hD⟩ := h
  exact ⟨es, clock, (hf.block b hlt hS).trans hb, F, hs, hD⟩
theorem turned_fr {w w' : World} {b : Nat} (h : w.mapTurned w' b) : Fr (fun k => k = b) w w' := by
  obtain ⟨es, clock, es', clock', hb, rfl⟩ := h
  refine ⟨rfl, rfl, rfl, by simp [setBlock], fun k hk hn => ?_⟩
  exact heap_setBlock_other hb _ hn
end Go.Proofs.Ytnabilhcmplhcaa.Sha

/-
  A ledger: what it holds; how it is made, how long it is.
-/
set_option linter.unusedVariables false
set_option linter.unusedSimpArgs false
namespace Go.Proofs.Ytnabilhcmplhcaa.Sha
open Go.RowKit Go.Proofs.YtnabilhcmplhcaaW.PrintWords Go.Proofs.YtnabilhcmplhcaaW.PrintLast Go.Proofs.YtnabilhcmplhcaaW.PrintMore Go.Proofs.Ytnabilhcmplhcaa.Q Go.Proofs.Ytnabilhcmplhcaa.Fr Go.Proofs.Ytnabilhcmplhcaa.Oct
open Go.Maps Go.ChangeMaps

/-- A vote that was seen. -/
structure Sn where
  kind : Int
  view : Int
  turn : Int
  slot : Int
  signer : Int
  c : Int
  s : Int
  op : List Int
  sg : List Int
  t : List Int
  told : Bool
def Sn.key (x : Sn) : Lit := plK x.kind x.view x.turn x.slot x.signer
structure Sn.ok (x : Sn) : Prop where
  wk : (Lit.int .i64 x.kind).wf = true
  wv : (Lit.int .i64 x.view).wf = true
  wt : (Lit.int .i64 x.turn).wf = true
  wl : (Lit.int .i64 x.slot).wf = true
  wi : (Lit.int .i64 x.signer).wf = true
  lo : x.op.length + x.sg.length ≤ 1048576
  lt : x.t.length ≤ 1048576
  bo : Bys x.op
  bs : Bys x.sg
def snc (A1 : Option Addr) (c1 : Nat) (A2 : Option Addr) (c2 : Nat) (A3 : Option Addr) (c3 : Nat) (x : Sn) : Array Value := #[.int .i64 x.c, .int .i64 x.s, .slice A1 x.op.length c1, .slice A2 x.sg.length c2, .slice A3 x.t.length c3, .bool x.told]
/-- It lies in block b. -/
def SnAt (w : World) (base b : Nat) (x : Sn) : Prop := ∃ A1 c1 A2 c2 A3 c3, w.heap[b]? = some (.cells (snc A1 c1 A2 c2 A3 c3 x) 75 (0, 0)) ∧ OB w base (.slice A1 x.op.length c1) x.op ∧ OB w base (.slice A2 x.sg.length c2) x.sg ∧ OB w base (.slice A3 x.t.length c3) x.t ∧ base ≤ b
def zL : DataW Unit := .lit (.int .i64 (-1))
structure LdAt (w : World) (base gl bm : Nat) (D : DataW Unit) (S : List Sn) (Bs : List Nat) : Prop where
  head : w.heap[gl]? = some (.cells #[.map (some bm)] 64 (0, 0))
  own : w.ownsMap Try.prog 67 ptrE bm S.length D
  size : Maps.size D = S.length
  bl : Bs.length = S.length
  at' : ∀ (i : Nat) (x : Sn) (b : Nat), S[i]? = some x → Bs[i]? = some b → D.atKey x.key zL = .lit (.int .i64 (b : Int)) ∧ SnAt w base b x
  has : ∀ kl, Maps.has D kl = true ↔ kl ∈ S.map Sn.key
  keys : (S.map Sn.key).Nodup
  nd : Bs.Nodup
  ok : ∀ x ∈ S, x.ok
  hgl : base ≤ gl
  hbm : base ≤ bm
theorem SnAt.fr {w w' : World} {base b : Nat} {x : Sn} {F : Nat → Prop} (h : SnAt w base b x) (hf : Fr F w w') (hb : ¬ F b) (hF : ∀ k cells, w.heap[k]? = some (.cells cells 5 (0, 0)) → ¬ F k) : SnAt w' base b x := by
  obtain ⟨A1, c1, A2, c2, A3, c3, hg, h1, h2, h3, hle⟩ := h
  have hO : ∀ {v : Value} {l : List Int}, OB w base v l → OB w' base v l := fun h => h.fr hf (fun k hk => by
    obtain ⟨_, cells, hc⟩ := q_typed (q_of_own h) k hk
    exact hF k cells hc)
  exact ⟨A1, c1, A2, c2, A3, c3, hf.blk hg hb, hO h1, hO h2, hO h3, hle⟩
theorem LdAt.fr0 {w w' : World} {base gl bm : Nat} {D : DataW Unit} {S : List Sn} {Bs : List Nat} (h : LdAt w base gl bm D S Bs) (hf : Fr (fun _ => False) w w') : LdAt w' base gl bm D S Bs :=
  ⟨hf.blk h.head (fun e => e), ownsMap_fr h.own hf (fun e => e), h.size, h.bl, fun i x b hx hb => ⟨(h.at' i x b hx hb).1, (h.at' i x b hx hb).2.fr hf (fun e => e) (fun _ _ _ e => e)⟩, h.has, h.keys, h.nd, h.ok, h.hgl, h.hbm⟩
/-- The map's block holds no cells. -/
theorem LdAt.bm_no {w : World} {base gl bm : Nat} {D : DataW Unit} {S : List Sn} {Bs : List Nat} (h : LdAt w base gl bm D S Bs) (cells : Array Value) (t : TypeId) (fr : Nat × Nat) : w.heap[bm]? ≠ some (.cells cells t fr) := fun e => by
  obtain ⟨es, clock, hb, _⟩ := h.own
  rw [hb] at e
  cases e
/-- The blocks that a ledger may write. -/
def LF (bm : Nat) (Bs : List Nat) (k : Nat) : Prop := k = bm ∨ k ∈ Bs
theorem LdAt.lf_type {w : World} {base gl bm : Nat} {D : DataW Unit} {S : List Sn} {Bs : List Nat} (h : LdAt w base gl bm D S Bs) {k : Nat} (hk : LF bm Bs k) {cells : Array Value} {t : TypeId} {fr : Nat × Nat} (hc : w.heap[k]? = some (.cells cells t fr)) : t = 75 ∧ ∃ A1 c1 A2 c2 A3 c3 x, cells = snc A1 c1 A2 c2 A3 c3 x := by
  rcases hk with rfl | hk
  · exact absurd hc (h.bm_no _ _ _)
  · obtain ⟨i, hi, rfl⟩ := List.getElem_of_mem hk
    have hx : S[i]? = some (S[i]'(by rw [← h.bl]; exact hi)) := List.getElem?_eq_getElem (by rw [← h.bl]; exact hi)
    obtain ⟨A1, c1, A2, c2, A3, c3, hg, _⟩ := (h.at' i _ _ hx (List.getElem?_eq_getElem hi)).2
    rw [hg] at hc
    injection hc with hc
    injection hc with h1 h2 h3
    exact ⟨h2.symm, A1, c1, A2, c2, A3, c3, _, h1.symm⟩
/-- Bytes that can be read lie in no block that a ledger writes. -/
theorem LdAt.rd {w w' : World} {base gl bm : Nat} {D : DataW Unit} {S : List Sn} {Bs : List Nat} (h : LdAt w base gl bm D S Bs) {A : Option Addr} {l : List Int} (hr : Rd w A l) (hf : Fr (LF bm Bs) w w') : Rd w' A l := by
  cases l with
  | nil => exact Rd.nil _ _
  | cons y l =>
    refine hr.fr hf (fun ad e hk => ?_)
    obtain ⟨ad', e', hc⟩ := hr 0 (.int .u8 y) rfl
    rw [e] at e'
    injection e' with e'
    subst e'
    have hc : w.cell? ad = some (.int .u8 y) := by simpa [Addr.add] using hc
    obtain ⟨bl, off, sub⟩ := ad
    simp only [World.cell?] at hc
    cases hb : w.heap[bl]? with
    | none => simp [hb] at hc
    | some o =>
      rcases o with ⟨cells, t, fr⟩ | _ | _ | _ | _ | _ | _ | _ | _ <;> simp [hb] at hc
      obtain ⟨_, A1, c1, A2, c2, A3, c3, x, rfl⟩ := h.lf_type hk hb
      have hc := hc.2
      unfold snc at hc
      rcases off with _ | _ | _ | _ | _ | _ | off <;> simp at hc
theorem LdAt.ne {w : World} {base gl bm : Nat} {D : DataW Unit} {S : List Sn} {Bs : List Nat} (h : LdAt w base gl bm D S Bs) : gl ≠ bm := fun e => h.bm_no _ _ _ (e ▸ h.head)
theorem LdAt.keyAt {w : World} {base gl bm : Nat} {D : DataW Unit} {S : List Sn} {Bs : List Nat} (h : LdAt w base gl bm D S Bs) {i : Nat} {x : Sn} (hx : S[i]? = some x) : Maps.has D x.key = true := (h.has _).2 (List.mem_map.2 ⟨x, List.mem_of_getElem? hx, rfl⟩)
theorem LdAt.ne_bm {w : World} {base gl bm b : Nat} {D : DataW Unit} {S : List Sn} {Bs : List Nat} (h : LdAt w base gl bm D S Bs) {x : Sn} (hb : SnAt w base b x) : b ≠ bm := fun e => by
  obtain ⟨A1, c1, A2, c2, A3, c3, hg, _⟩ := hb
  exact h.bm_no _ _ _ (e ▸ hg)
/-- A vote is put down. -/
theorem LdAt.put {w w2 : World} {base gl bm : Nat} {D : DataW Unit} {S : List Sn} {Bs : List Nat} (h : LdAt w base gl bm D S Bs) (x : Sn) (b : Nat) (hx : x.ok) (hn : Maps.has D x.key = false) (hb : SnAt w base b x) (hnew : b ∉ Bs) (hown : w2.ownsMap Try.prog 67 ptrE bm (S.length + 1) (D.put x.key (.lit (.int .i64 (b : Int))))) (hf : Fr (fun k => k = bm) w w2) : LdAt w2 base gl bm (D.put x.key (.lit (.int .i64 (b : Int)))) (S ++ [x]) (Bs ++ [b]) := by
  have hk : WideAt.IsKeyLit x.key := placeLaw.key (plK_of hx.wk hx.wv hx.wt hx.wl hx.wi)
  have hS : ∀ {y : Sn} {d : Nat}, SnAt w base d y → SnAt w2 base d y := fun {y d} hy => hy.fr hf (h.ne_bm hy) (fun k cells hc e => h.bm_no _ _ _ (e ▸ hc))
  refine ⟨hf.blk h.head h.ne, by simpa using hown, ?_, by simp [h.bl], ?_, ?_, ?_, ?_, ?_, h.hgl, h.hbm⟩
  · rw [size_put (h.own.tidy placeLaw), hn, h.size]
    simp
  · intro i y d hy hd
    by_cases hi : i < S.length
    · rw [List.getElem?_append_left hi] at hy
      rw [List.getElem?_append_left (by rw [h.bl]; exact hi)] at hd
      have hne : y.key ≠ x.key := fun e => by
        have := h.keyAt hy
        rw [e, hn] at this
        cases this
      have h0 := h.at' i y d hy hd
      exact ⟨by rw [atKey_put_other hne]; exact h0.1, hS h0.2⟩
    · have hi2 : i = S.length := by
        have := (List.getElem?_eq_some_iff.1 hy).1
        simp only [List.length_append, List.length_singleton] at this
        omega
      subst hi2
      have e1 : y = x := by simpa using hy.symm
      have e2 : d = b := by
        rw [← h.bl] at hd
        simpa using hd.symm
      subst e1 e2
      exact ⟨atKey_put_same h.own.isMap hk _ _, hS hb⟩
  · intro kl
    rw [List.map_append, List.mem_append]
    by_cases e : kl = x.key
    · subst e
      rw [has_put_same h.own.isMap hk]
      simp
    · rw [has_put_other e, h.has]
      simp [e]
  · rw [List.map_append]
    refine List.nodup_append.2 ⟨h.keys, by simp, fun a ha b' hb' e => ?_⟩
    have e2 : b' = x.key := by simpa using hb'
    subst e2
    subst e
    have := (h.has _).2 ha
    rw [hn] at this
    cases this
  · exact List.nodup_append.2 ⟨h.nd, by simp, fun a ha b' hb' e => hnew (by have e2 : b' = b := by simpa using hb'
                                                                            rw [← e2, ← e]; exact ha)⟩
  · intro y hy
    rcases List.mem_append.1 hy with hy | hy
    · exact h.ok y hy
    · have : y = x := by simpa using hy
      rw [this]
      exact hx
theorem set_told {w : World} {b : Nat} {A1 : Option Addr} {c1 : Nat} {A2 : Option Addr} {c2 : Nat} {A3 : Option Addr} {c3 : Nat} {x : Sn} {t : TypeId} (h : w.heap[b]? = some (.cells (snc A1 c1 A2 c2 A3 c3 x) t (0, 0))) : (w.setCell ⟨b, 5, none⟩ (.bool true)).heap[b]? = some (.cells (snc A1 c1 A2 c2 A3 c3 { x with told := true }) t (0, 0)) := by
  rw [setCell_eq_setRow w b _ _ _ (0, 0) _ h, setRow_heap w b _ _ _ _ h]
  rfl
/-- .. that was told. -/
theorem LdAt.tell {w : World} {base gl bm : Nat} {D : DataW Unit} {S : List Sn} {Bs : List Nat} (h : LdAt w base gl bm D S Bs) (i : Nat) (x : Sn) (b : Nat) (hx : S[i]? = some x) (hb : Bs[i]? = some b) : LdAt (w.setCell ⟨b, 5, none⟩ (.bool true)) base gl bm D (S.set i { x with told := true }) Bs := by
  have hf : Fr (fun k => k = b) w (w.setCell ⟨b, 5, none⟩ (.bool true)) := (Fr.refl (fun k => k = b) w).setCell (.inl rfl) _
  have hsn := (h.at' i x b hx hb).2
  obtain ⟨A1, c1, A2, c2, A3, c3, hg, o1, o2, o3, hle⟩ := hsn
  have hlt := (List.getElem?_eq_some_iff.1 hx).1
  have hnb : ∀ k cells, w.heap[k]? = some (.cells cells 5 (0, 0)) → k ≠ b := fun k cells hc e => by
    rw [e, hg] at hc
    injection hc with hc
    injection hc with _ hc _
    cases hc
  have hO : ∀ {v : Value} {l : List Int}, OB w base v l → OB (w.setCell ⟨b, 5, none⟩ (.bool true)) base v l := fun h => h.fr hf (fun k hk => by
    obtain ⟨_, cells, hc⟩ := q_typed (q_of_own h) k hk
    exact hnb k cells hc)
  have hmap : (S.set i { x with told := true }).map Sn.key = S.map Sn.key := by
    rw [List.map_set]
    refine List.ext_getElem? fun j => ?_
    rw [List.getElem?_set]
    split
    · rename_i e
      subst e
      rw [if_pos (by simpa using hlt), List.getElem?_map, hx]
      rfl
    · rfl
  refine ⟨hf.blk h.head (fun e => ?_), ownsMap_fr h.own hf (fun e => h.bm_no _ _ _ (e ▸ hg)) |> (by rw [List.length_set]; exact ·), by rw [List.length_set]; exact h.size, by rw [List.length_set]; exact h.bl, ?_, by rw [hmap]; exact h.has, by rw [hmap]; exact h.keys, h.nd, ?_, h.hgl, h.hbm⟩
  · have := h.head
    rw [e, hg] at this
    injection this with this
    injection this with _ this _
    cases this
  · intro j y d hy hd
    by_cases hj : j = i
    · subst hj
      rw [hb] at hd
      injection hd with hd
      subst hd
      rw [List.getElem?_set_self hlt] at hy
      injection hy with hy
      subst hy
      exact ⟨(h.at' j x b hx hb).1, A1, c1, A2, c2, A3, c3, set_told hg, hO o1, hO o2, hO o3, hle⟩
    · rw [List.getElem?_set_ne (fun e => hj e.symm)] at hy
      have h0 := h.at' j y d hy hd
      refine ⟨h0.1, h0.2.fr hf (fun e => ?_) (fun k cells hc e => hnb k cells hc e)⟩
      subst e
      exact hj ((List.getElem?_inj (List.getElem?_eq_some_iff.1 hd).1 h.nd).1 (hd.trans hb.symm))
  · intro y hy
    rcases List.mem_or_eq_of_mem_set hy with hy | hy
    · exact h.ok y hy
    · have := h.ok x (List.mem_of_getElem? hx)
      rw [hy]
      exact ⟨this.wk, this.wv, this.wt, this.wl, this.wi, this.lo, this.lt, this.bo, this.bs⟩
set_option maxHeartbeats 8000000 in
set_option maxRecDepth 100000 in
theorem lnew_calls (w : World) :
    Calls Try.prog 9 #[] w fun e w' => ∃ gl bm, e = .returned (.pointer (some ⟨gl, 0, none⟩)) ∧ LdAt w' w.heap.size gl bm (.map []) [] [] ∧ Below w.heap.size w w' := by
  have hmm := @run_makeMap Try.prog
  go_enter Try.func9, Try.ntmps9
  go_wp2
  go_ret
  have hb : Below w.heap.size w ((w.alloc (.map #[] 0)).alloc (.cells #[.map (some w.heap.size)] 64)) := below_alloc (below_alloc (Below.refl _ _) _) _
  have h1 := World.ownsMap_made w Try.prog 67 ptrE
  have h2 := h1.alloc (.cells #[.map (some w.heap.size)] 64)
  have hg := heap_alloc_new (w.alloc (.map #[] 0)) (.cells #[.map (some w.heap.size)] 64)
  rw [World.size_alloc] at hg
  refine ⟨w.heap.size + 1, w.heap.size, by simp, ⟨hg, h2, rfl, rfl, fun i x b hx => by simp at hx, fun kl => by simp [Maps.has], by simp, by simp, fun x hx => by simp at hx, by omega, Nat.le_refl _⟩, hb⟩
set_option maxHeartbeats 8000000 in
set_option maxRecDepth 100000 in
theorem llen_calls (w : World) (base gl bm : Nat) (D : DataW Unit) (S : List Sn) (Bs : List Nat) (h : LdAt w base gl bm D S Bs) :
    Calls Try.prog 17 #[.pointer (some ⟨gl, 0, none⟩)] w fun e w' => e = .returned (.int .i64 (S.length : Int)) ∧ Below w.heap.size w w' := by
  have hc : w.cell? ⟨gl, 0, none⟩ = some (.map (some bm)) := by simp [World.cell?, h.head]
  have hown := h.own
  have hs := h.size
  obtain ⟨n, hn⟩ : ∃ n, S.length = n := ⟨_, rfl⟩
  rw [hn] at hown hs ⊢
  clear h hn
  go_enter Try.func17, Try.ntmps17
  go_wp2_with (first | (at_len; refine wpList_len_own _ rfl _ 62 rfl 67 68 undMap ptrE bm n D rfl hown ?_))
  go_ret
  exact ⟨rfl, Below.refl _ _⟩
end Go.Proofs.Ytnabilhcmplhcaa.Sha

/-
  What is noted: the steps, in plain words; what the loop of Note keeps.
-/
set_option linter.unusedVariables false
set_option linter.unusedSimpArgs false
namespace Go.Proofs.Ytnabilhcmplhcaa.Sha
open Go.RowKit Go.Proofs.YtnabilhcmplhcaaW.PrintWords Go.Proofs.YtnabilhcmplhcaaW.PrintLast Go.Proofs.YtnabilhcmplhcaaW.PrintMore Go.Proofs.Ytnabilhcmplhcaa.Q Go.Proofs.Ytnabilhcmplhcaa.Fr Go.Proofs.Ytnabilhcmplhcaa.Oct
open Go.Maps Go.ChangeMaps

/-- An evidence. -/
structure Ev where
  kind : Int
  view : Int
  turn : Int
  slot : Int
  signer : Int
  cX : Int
  sX : Int
  opX : List Int
  sgX : List Int
  tX : List Int
  cY : Int
  sY : Int
  opY : List Int
  sgY : List Int
  tY : List Int
def EvIs (w : World) (v : Value) (e : Ev) : Prop := EvAt w v e.kind e.view e.turn e.slot e.signer e.cX e.sX e.opX e.sgX e.tX e.cY e.sY e.opY e.sgY e.tY
def mkEv (x : Sn) (c s : Int) (op sg t : List Int) : Ev :=
  if 0 < cmpA (bodyA x.c x.s x.op x.sg) (bodyA c s op sg) then ⟨x.kind, x.view, x.turn, x.slot, x.signer, c, s, op, sg, t, x.c, x.s, x.op, x.sg, x.t⟩
  else ⟨x.kind, x.view, x.turn, x.slot, x.signer, x.c, x.s, x.op, x.sg, x.t, c, s, op, sg, t⟩
/-- What one vote does. -/
def Step (kind view turn slot c s : Int) (op sg : List Int) (S : List Sn) (E : List Ev) (v : Int × List Int) (S' : List Sn) (E' : List Ev) : Prop :=
  (vrA kind view turn slot (bodyA c s op sg) v.1 v.2 = false ∧ S' = S ∧ E' = E) ∨
  (vrA kind view turn slot (bodyA c s op sg) v.1 v.2 = true ∧ plK kind view turn slot v.1 ∉ S.map Sn.key ∧ S.length < 8192 ∧ S' = S ++ [⟨kind, view, turn, slot, v.1, c, s, op, sg, v.2, false⟩] ∧ E' = E) ∨
  (vrA kind view turn slot (bodyA c s op sg) v.1 v.2 = true ∧ plK kind view turn slot v.1 ∉ S.map Sn.key ∧ 8192 ≤ S.length ∧ S' = S ∧ E' = E) ∨
  (vrA kind view turn slot (bodyA c s op sg) v.1 v.2 = true ∧ ∃ (i : Nat) (x : Sn), S[i]? = some x ∧ x.key = plK kind view turn slot v.1 ∧ (x.told = true ∨ bodyA x.c x.s x.op x.sg = bodyA c s op sg) ∧ S' = S ∧ E' = E) ∨
  (vrA kind view turn slot (bodyA c s op sg) v.1 v.2 = true ∧ ∃ (i : Nat) (x : Sn), S[i]? = some x ∧ x.key = plK kind view turn slot v.1 ∧ x.told = false ∧ bodyA x.c x.s x.op x.sg ≠ bodyA c s op sg ∧ S' = S.set i { x with told := true } ∧ E' = E ++ [mkEv x c s op sg v.2])
def Steps (kind view turn slot c s : Int) (op sg : List Int) (S : List Sn) (E : List Ev) : List (Int × List Int) → List Sn → List Ev → Prop
  | [], S', E' => S' = S ∧ E' = E
  | v :: V, S', E' => ∃ S1 E1, Step kind view turn slot c s op sg S E v S1 E1 ∧ Steps kind view turn slot c s op sg S1 E1 V S' E'
theorem Steps.snoc {kind view turn slot c s : Int} {op sg : List Int} : ∀ {V : List (Int × List Int)} {S : List Sn} {E : List Ev} {S1 : List Sn} {E1 : List Ev} {v : Int × List Int} {S' : List Sn} {E' : List Ev}, Steps kind view turn slot c s op sg S E V S1 E1 → Step kind view turn slot c s op sg S1 E1 v S' E' → Steps kind view turn slot c s op sg S E (V ++ [v]) S' E'
  | [], _, _, _, _, _, _, _, ⟨rfl, rfl⟩, h2 => ⟨_, _, h2, rfl, rfl⟩
  | _ :: V, _, _, _, _, _, _, _, ⟨S2, E2, h1, h⟩, h2 => ⟨S2, E2, h1, Steps.snoc h h2⟩
/-- Votes that can be read. -/
def VC (w : World) (A : Option Addr) (V : List (Int × List Int)) : Prop :=
  ∀ (i : Nat) (v : Int × List Int), V[i]? = some v → ∃ ad A3 c3, A = some ad ∧ (∃ cells fr, w.heap[ad.block]? = some (.cells cells 55 fr)) ∧ w.cell? (ad.add (i * 2)) = some (.int .i64 v.1) ∧ w.cell? ⟨(ad.add (i * 2)).block, (ad.add (i * 2)).off + 1, none⟩ = some (.slice A3 v.2.length c3) ∧ v.2.length ≤ c3 ∧ Rd w A3 v.2
/-- Evidences in a row. -/
def EvRow (w : World) (base : Nat) (out : Value) (E : List Ev) : Prop :=
  ∃ cs : List (List Value), cs.length = E.length ∧ w.ownsRow base 48 23 out E.length cs.flatten ∧ ∀ (j : Nat) (e : Ev) (c : List Value), E[j]? = some e → cs[j]? = some c → c.length = 23 ∧ EvIs w (.agg c.toArray) e
theorem row_type {w : World} {base n : Nat} {v : Value} {xs : List Value} {e : TypeId} {sz : Nat} (h : w.ownsRow base e sz v n xs) : ∀ k, v.ownBlock = some k → base ≤ k ∧ ∃ cells, w.heap[k]? = some (.cells cells e (0, 0)) := fun k hk => by
  obtain ⟨_, ⟨rfl, _⟩ | ⟨g, cap, cur, rfl, hb, hg, _⟩⟩ := h
  · cases hk
  · have : g = k := by simpa [Value.ownBlock] using hk
    subst this
    exact ⟨hb, _, hg⟩
theorem row_fr {w w' : World} {base n : Nat} {v : Value} {xs : List Value} {e : TypeId} {sz : Nat} {F : Nat → Prop} (h : w.ownsRow base e sz v n xs) (hf : Fr F w w') (hF : ∀ k, v.ownBlock = some k → ¬ F k) : w'.ownsRow base e sz v n xs := by
  obtain ⟨hl, ⟨rfl, h2⟩ | ⟨g, cap, cur, rfl, hb, hg, h2⟩⟩ := h
  · exact ⟨hl, .inl ⟨rfl, h2⟩⟩
  · exact ⟨hl, .inr ⟨g, cap, cur, rfl, hb, hf.blk hg (hF g rfl), h2⟩⟩
theorem LF.not {w : World} {base gl bm : Nat} {D : DataW Unit} {S : List Sn} {Bs : List Nat} (h : LdAt w base gl bm D S Bs) {k : Nat} {cells : Array Value} {t : TypeId} {fr : Nat × Nat} (hc : w.heap[k]? = some (.cells cells t fr)) (ht : t ≠ 75) : ¬ LF bm Bs k := fun e => ht (h.lf_type e hc).1
theorem EvIs.frT {w w' : World} {v : Value} {e : Ev} {F : Nat → Prop} (he : EvIs w v e) (hf : Fr F w w') (hF : ∀ k cells, w.heap[k]? = some (.cells cells 5 (0, 0)) → ¬ F k) : EvIs w' v e := by
  obtain ⟨B1, d1, B2, d2, B3, d3, B4, d4, B5, d5, B6, d6, e, h1, h2, h3, h4, h5, h6⟩ := he
  exact ⟨B1, d1, B2, d2, B3, d3, B4, d4, B5, d5, B6, d6, e, h1.frT hf hF, h2.frT hf hF, h3.frT hf hF, h4.frT hf hF, h5.frT hf hF, h6.frT hf hF⟩
theorem LdAt.evIs {w w' : World} {base gl bm : Nat} {D : DataW Unit} {S : List Sn} {Bs : List Nat} (h : LdAt w base gl bm D S Bs) {v : Value} {e : Ev} (he : EvIs w v e) (hf : Fr (LF bm Bs) w w') : EvIs w' v e := he.frT hf (fun k cells hc => LF.not h hc (by decide))
theorem LdAt.evRow {w w' : World} {base gl bm : Nat} {D : DataW Unit} {S : List Sn} {Bs : List Nat} (h : LdAt w base gl bm D S Bs) {b0 : Nat} {out : Value} {E : List Ev} (he : EvRow w b0 out E) (hf : Fr (LF bm Bs) w w') : EvRow w' b0 out E := by
  obtain ⟨cs, hl, hrow, hev⟩ := he
  refine ⟨cs, hl, row_fr hrow hf (fun k hk e => ?_), fun j e c hj hc => ⟨(hev j e c hj hc).1, h.evIs (hev j e c hj hc).2 hf⟩⟩
  obtain ⟨_, cells, hc⟩ := row_type hrow k hk
  have := (h.lf_type e hc).1
  cases this
theorem LdAt.vc {w w' : World} {base gl bm : Nat} {D : DataW Unit} {S : List Sn} {Bs : List Nat} (h : LdAt w base gl bm D S Bs) {A : Option Addr} {V : List (Int × List Int)} (hv : VC w A V) (hf : Fr (LF bm Bs) w w') : VC w' A V := fun i v hi => by
  obtain ⟨ad, A3, c3, e, ⟨cells, fr, ht⟩, h1, h2, h3, h4⟩ := hv i v hi
  have hn : ¬ LF bm Bs ad.block := fun hk => by
    have := (h.lf_type hk ht).1
    cases this
  exact ⟨ad, A3, c3, e, ⟨cells, fr, hf.blk ht hn⟩, hf.cell h1 (by rw [addr_block]; exact hn), hf.cell h2 (by simp only; rw [addr_block]; exact hn), h3, h.rd h4 hf⟩
/-- What the loop keeps: w is the world in which it began. -/
structure Nt (w W : World) (base gl bm : Nat) (Bs0 : List Nat) (view turn c s : Int) (Ao : Option Addr) (co : Nat) (op : List Int) (As : Option Addr) (cs : Nat) (sg : List Int) (Ab : Option Addr) (Av : Option Addr) (V : List (Int × List Int)) (gb gr : Nat) (D : DataW Unit) (S : List Sn) (Bs : List Nat) (out : Value) (E : List Ev) : Prop where
  F : Fr (LF bm Bs0) w W
  ld : LdAt W base gl bm D S Bs
  nb : ∀ b ∈ Bs, b ∈ Bs0 ∨ w.heap.size ≤ b
  ld0 : ∃ D0 S0, LdAt w base gl bm D0 S0 Bs0
  hb0 : w.heap[gb]? = some (.cells #[.int .i64 view, .int .i64 turn] 28 (0, 0))
  hr0 : w.heap[gr]? = some (.cells #[.int .i64 c, .int .i64 s, .slice Ao op.length co, .slice As sg.length cs] 31 (0, 0))
  ro0 : Rd w Ao op
  rs0 : Rd w As sg
  rb0 : Rd w Ab (bodyA c s op sg)
  vc0 : VC w Av V
  ev : EvRow W w.heap.size out E
  bw : base ≤ w.heap.size
theorem Nt.hb {w W : World} {base gl bm : Nat} {Bs0 : List Nat} {view turn c s : Int} {Ao : Option Addr} {co : Nat} {op : List Int} {As : Option Addr} {cs : Nat} {sg : List Int} {Ab : Option Addr} {Av : Option Addr} {V : List (Int × List Int)} {gb gr : Nat} {D : DataW Unit} {S : List Sn} {Bs : List Nat} {out : Value} {E : List Ev} (h : Nt w W base gl bm Bs0 view turn c s Ao co op As cs sg Ab Av V gb gr D S Bs out E) : W.heap[gb]? = some (.cells #[.int .i64 view, .int .i64 turn] 28 (0, 0)) := by
  obtain ⟨_, _, hl⟩ := h.ld0
  exact h.F.blk h.hb0 (LF.not hl h.hb0 (by decide))
theorem Nt.hr {w W : World} {base gl bm : Nat} {Bs0 : List Nat} {view turn c s : Int} {Ao : Option Addr} {co : Nat} {op : List Int} {As : Option Addr} {cs : Nat} {sg : List Int} {Ab : Option Addr} {Av : Option Addr} {V : List (Int × List Int)} {gb gr : Nat} {D : DataW Unit} {S : List Sn} {Bs : List Nat} {out : Value} {E : List Ev} (h : Nt w W base gl bm Bs0 view turn c s Ao co op As cs sg Ab Av V gb gr D S Bs out E) : W.heap[gr]? = some (.cells #[.int .i64 c, .int .i64 s, .slice Ao op.length co, .slice As sg.length cs] 31 (0, 0)) := by
  obtain ⟨_, _, hl⟩ := h.ld0
  exact h.F.blk h.hr0 (LF.not hl h.hr0 (by decide))
theorem Nt.ro {w W : World} {base gl bm : Nat} {Bs0 : List Nat} {view turn c s : Int} {Ao : Option Addr} {co : Nat} {op : List Int} {As : Option Addr} {cs : Nat} {sg : List Int} {Ab : Option Addr} {Av : Option Addr} {V : List (Int × List Int)} {gb gr : Nat} {D : DataW Unit} {S : List Sn} {Bs : List Nat} {out : Value} {E : List Ev} (h : Nt w W base gl bm Bs0 view turn c s Ao co op As cs sg Ab Av V gb gr D S Bs out E) : Rd W Ao op := by
  obtain ⟨_, _, hl⟩ := h.ld0
  exact hl.rd h.ro0 h.F
theorem Nt.rs {w W : World} {base gl bm : Nat} {Bs0 : List Nat} {view turn c s : Int} {Ao : Option Addr} {co : Nat} {op : List Int} {As : Option Addr} {cs : Nat} {sg : List Int} {Ab : Option Addr} {Av : Option Addr} {V : List (Int × List Int)} {gb gr : Nat} {D : DataW Unit} {S : List Sn} {Bs : List Nat} {out : Value} {E : List Ev} (h : Nt w W base gl bm Bs0 view turn c s Ao co op As cs sg Ab Av V gb gr D S Bs out E) : Rd W As sg := by
  obtain ⟨_, _, hl⟩ := h.ld0
  exact hl.rd h.rs0 h.F
theorem Nt.rb {w W : World} {base gl bm : Nat} {Bs0 : List Nat} {view turn c s : Int} {Ao : Option Addr} {co : Nat} {op : List Int} {As : Option Addr} {cs : Nat} {sg : List Int} {Ab : Option Addr} {Av : Option Addr} {V : List (Int × List Int)} {gb gr : Nat} {D : DataW Unit} {S : List Sn} {Bs : List Nat} {out : Value} {E : List Ev} (h : Nt w W base gl bm Bs0 view turn c s Ao co op As cs sg Ab Av V gb gr D S Bs out E) : Rd W Ab (bodyA c s op sg) := by
  obtain ⟨_, _, hl⟩ := h.ld0
  exact hl.rd h.rb0 h.F
theorem Nt.vc {w W : World} {base gl bm : Nat} {Bs0 : List Nat} {view turn c s : Int} {Ao : Option Addr} {co : Nat} {op : List Int} {As : Option Addr} {cs : Nat} {sg : List Int} {Ab : Option Addr} {Av : Option Addr} {V : List (Int × List Int)} {gb gr : Nat} {D : DataW Unit} {S : List Sn} {Bs : List Nat} {out : Value} {E : List Ev} (h : Nt w W base gl bm Bs0 view turn c s Ao co op As cs sg Ab Av V gb gr D S Bs out E) : VC W Av V := by
  obtain ⟨_, _, hl⟩ := h.ld0
  exact hl.vc h.vc0 h.F
/-- Only the ledger's blocks are written, and the ledger is what it is. -/
theorem Nt.step {w W W' : World} {base gl bm : Nat} {Bs0 : List Nat} {view turn c s : Int} {Ao : Option Addr} {co : Nat} {op : List Int} {As : Option Addr} {cs : Nat} {sg : List Int} {Ab : Option Addr} {Av : Option Addr} {V : List (Int × List Int)} {gb gr : Nat} {D : DataW Unit} {S : List Sn} {Bs : List Nat} {out : Value} {E : List Ev} (h : Nt w W base gl bm Bs0 view turn c s Ao co op As cs sg Ab Av V gb gr D S Bs out E) (hf : Fr (LF bm Bs) W W') {D' : DataW Unit} {S' : List Sn} {Bs' : List Nat} (hl : LdAt W' base gl bm D' S' Bs') (hn : ∀ b ∈ Bs', b ∈ Bs ∨ W.heap.size ≤ b) : Nt w W' base gl bm Bs0 view turn c s Ao co op As cs sg Ab Av V gb gr D' S' Bs' out E :=
  ⟨h.F.trans hf (fun k hk => by
      rcases hk with hk | hk
      · exact .inl (.inl hk)
      · exact (h.nb k hk).imp .inr id), hl, fun b hb => (hn b hb).elim (h.nb b) (fun e => .inr (Nat.le_trans h.F.size e)), h.ld0, h.hb0, h.hr0, h.ro0, h.rs0, h.rb0, h.vc0, h.ld.evRow h.ev hf, h.bw⟩
theorem Nt.below {w W W' : World} {base gl bm : Nat} {Bs0 : List Nat} {view turn c s : Int} {Ao : Option Addr} {co : Nat} {op : List Int} {As : Option Addr} {cs : Nat} {sg : List Int} {Ab : Option Addr} {Av : Option Addr} {V : List (Int × List Int)} {gb gr : Nat} {D : DataW Unit} {S : List Sn} {Bs : List Nat} {out : Value} {E : List Ev} (h : Nt w W base gl bm Bs0 view turn c s Ao co op As cs sg Ab Av V gb gr D S Bs out E) (hf : Fr (fun _ => False) W W') : Nt w W' base gl bm Bs0 view turn c s Ao co op As cs sg Ab Av V gb gr D S Bs out E :=
  h.step (hf.mono (fun _ e => e.elim)) (h.ld.fr0 hf) (fun b hb => .inl hb)
/-- Blocks of messages are written. -/
theorem LdAt.frM {w w' : World} {base gl bm : Nat} {D : DataW Unit} {S : List Sn} {Bs : List Nat} (h : LdAt w base gl bm D S Bs) {F : Nat → Prop} (hf : Fr F w w') (hF : ∀ k, F k → ∃ cells, w.heap[k]? = some (.cells cells 48 (0, 0))) : LdAt w' base gl bm D S Bs := by
  have hne : ∀ {k : Nat} {cells : Array Value} {t : TypeId} {fr : Nat × Nat}, w.heap[k]? = some (.cells cells t fr) → t ≠ 48 → ¬ F k := fun hc ht e => by
    obtain ⟨cells', hc'⟩ := hF _ e
    rw [hc'] at hc
    injection hc with hc
    injection hc with _ hc _
    exact ht hc.symm
  refine ⟨hf.blk h.head (hne h.head (by decide)), ownsMap_fr h.own hf (fun e => ?_), h.size, h.bl, fun i x b hx hb => ⟨(h.at' i x b hx hb).1, ?_⟩, h.has, h.keys, h.nd, h.ok, h.hgl, h.hbm⟩
  · obtain ⟨cells, hc⟩ := hF _ e
    exact h.bm_no _ _ _ hc
  · obtain ⟨A1, c1, A2, c2, A3, c3, hg, _⟩ := (h.at' i x b hx hb).2
    exact (h.at' i x b hx hb).2.fr hf (hne hg (by decide)) (fun k cells hc => hne hc (by decide))
/-- The evidences' row goes on. -/
theorem Nt.app {w W W' : World} {base gl bm : Nat} {Bs0 : List Nat} {view turn c s : Int} {Ao : Option Addr} {co : Nat} {op : List Int} {As : Option Addr} {cs : Nat} {sg : List Int} {Ab : Option Addr} {Av : Option Addr} {V : List (Int × List Int)} {gb gr : Nat} {D : DataW Unit} {S : List Sn} {Bs : List Nat} {out : Value} {E : List Ev} (h : Nt w W base gl bm Bs0 view turn c s Ao co op As cs sg Ab Av V gb gr D S Bs out E) {out' : Value} {E' : List Ev} (hf : Fr (fun k => some k = out.ownBlock) W W') (hr : EvRow W' w.heap.size out' E') : Nt w W' base gl bm Bs0 view turn c s Ao co op As cs sg Ab Av V gb gr D S Bs out' E' := by
  obtain ⟨_, _, hrow, _⟩ := h.ev
  have ht := row_type hrow
  exact ⟨h.F.trans hf (fun k hk => .inr (ht k hk.symm).1), h.ld.frM hf (fun k hk => (ht k hk.symm).2), h.nb, h.ld0, h.hb0, h.hr0, h.ro0, h.rs0, h.rb0, h.vc0, hr, h.bw⟩
end Go.Proofs.Ytnabilhcmplhcaa.Sha

/-
  ledger.Note: a round of its loop (its frame).
-/
set_option linter.unusedVariables false
set_option linter.unusedSimpArgs false
namespace Go.Proofs.Ytnabilhcmplhcaa.Sha
open Go.RowKit Go.Proofs.YtnabilhcmplhcaaW.PrintWords Go.Proofs.YtnabilhcmplhcaaW.PrintLast Go.Proofs.YtnabilhcmplhcaaW.PrintMore Go.Proofs.Ytnabilhcmplhcaa.Q Go.Proofs.Ytnabilhcmplhcaa.Fr Go.Proofs.Ytnabilhcmplhcaa.Oct
open Go.Maps Go.ChangeMaps

set_option maxRecDepth 100000 in
theorem fm114 {a : Act} (h : Fm 114 a) : a = ⟨#[sl a 0, sl a 1, sl a 2, sl a 3, sl a 4, sl a 5, sl a 6, sl a 7, sl a 8, sl a 9, sl a 10, sl a 11, sl a 12, sl a 13, sl a 14, sl a 15, sl a 16, sl a 17, sl a 18, sl a 19, sl a 20, sl a 21, sl a 22, sl a 23, sl a 24, sl a 25, sl a 26, sl a 27, sl a 28, sl a 29, sl a 30, sl a 31, sl a 32, sl a 33, sl a 34, sl a 35, sl a 36, sl a 37, sl a 38, sl a 39, sl a 40, sl a 41, sl a 42, sl a 43, sl a 44, sl a 45, sl a 46, sl a 47, sl a 48, sl a 49, sl a 50, sl a 51, sl a 52, sl a 53, sl a 54, sl a 55, sl a 56, sl a 57, sl a 58, sl a 59, sl a 60, sl a 61, sl a 62, sl a 63, sl a 64, sl a 65, sl a 66, sl a 67, sl a 68, sl a 69, sl a 70, sl a 71, sl a 72, sl a 73, sl a 74, sl a 75, sl a 76, sl a 77, sl a 78, sl a 79, sl a 80, sl a 81, sl a 82, sl a 83, sl a 84, sl a 85, sl a 86, sl a 87, sl a 88, sl a 89, sl a 90, sl a 91, sl a 92, sl a 93, sl a 94, sl a 95, sl a 96, sl a 97, sl a 98, sl a 99, sl a 100, sl a 101, sl a 102, sl a 103, sl a 104, sl a 105, sl a 106, sl a 107, sl a 108, sl a 109, sl a 110, sl a 111, sl a 112, sl a 113], []⟩ := by
  obtain ⟨T, D⟩ := a
  obtain ⟨h1, h2⟩ := h
  obtain rfl : D = [] := h2
  obtain ⟨l⟩ := T
  have h1 : l.length = 114 := h1
  congr 2
  refine List.ext_getElem? fun i => ?_
  by_cases hi : i < 114
  · have hx : ∀ j, j < 114 → l[j]? = some (sl ⟨⟨l⟩, []⟩ j) := fun j hj => by
      have hl : j < l.length := by omega
      simp [sl, Array.getD_eq_getD_getElem?, List.getElem?_eq_getElem hl]
    rw [hx i hi]
    have : ∀ (s : Nat → Value) (i : Nat), i < 114 → ((List.range 114).map s)[i]? = some (s i) := fun s i hi => by simp [hi]
    exact (this _ i hi).symm
  · have h2 : ∀ (s : Nat → Value), ((List.range 114).map s)[i]? = none := fun s => by simp; omega
    exact (List.getElem?_eq_none (by omega)).trans (h2 _).symm
def Z5p : Array Value := #[.int .i64 0, .int .i64 0, .int .i64 0, .int .i64 0, .int .i64 0]
/-- A step of a region that draws: 'v, ok := m[k]'. -/
theorem wp_lookup_abs {o : Oper} {a : Act} {w : World} {K : Act → World → Prop} {Q : Exit → Act → World → Prop} (m x : Operand) (hop : o.op = Op.lookup 62 m x true) (b n : Nat) (D : DataW Unit) (hm : a.eval m = .map (some b)) (hown : w.ownsMap Try.prog 67 ptrE b n D) (key : Value) (kl : Lit) (hx : a.eval x = key) (hkey : keyOf Try.prog 67 key = some kl)
    (hK : ∀ v ps, ptrE v = some (D.atKey kl zL, ps) → K (a.put o.dst (.tuple #[v, .bool (Maps.has D kl)])) w) : o.wp Try.prog a w K Q := by
  obtain ⟨v, ps, hrun, hv⟩ := hown.look_ok placeLaw undMap (zeroP w) (show ptrE (.pointer none) = some (zL, []) from rfl) hkey
  unfold Oper.wp
  simp [execOp, hop, hm, hx, hrun, Result.andThen]
  exact hK v ps hv
/-- .. 'm[k] = v'. -/
theorem wp_update_abs {o : Oper} {a : Act} {w : World} {K : Act → World → Prop} {Q : Exit → Act → World → Prop} (m x y : Operand) (hop : o.op = Op.mapUpdate 62 m x y) (b n : Nat) (D : DataW Unit) (hm : a.eval m = .map (some b)) (hown : w.ownsMap Try.prog 67 ptrE b n D) (hn : n < maxLen) (key val : Value) (kl : Lit) (hx : a.eval x = key) (hy : a.eval y = val) (hkey : keyOf Try.prog 67 key = some kl) (d : DataW Unit) (ps : List MemPlace) (hval : ptrE val = some (d, ps))
    (hK : ∀ w', w'.ownsMap Try.prog 67 ptrE b (n + 1) (D.put kl d) → Fr (fun k => k = b) w w' → K (a.put o.dst undef) w') : o.wp Try.prog a w K Q := by
  obtain ⟨w', hrun, r1, r2⟩ := hown.store placeLaw undMap hn hkey hval
  unfold Oper.wp
  simp [execOp, hop, hm, hx, hy, hrun, Result.andThen]
  exact hK w' r1 (turned_fr r2)
theorem vsA_len (kind view turn slot : Int) (body : List Int) (signer : Int) : (vsA kind view turn slot body signer).length ≤ 1048576 := by
  have := sgA_len (repK signer) voteS (partsA kind view turn slot body)
  unfold vsA
  omega
theorem vsA_bys (kind view turn slot : Int) (body : List Int) (signer : Int) : Bys (vsA kind view turn slot body signer) := sgA_bys _ _ _
theorem vrA_eq {kind view turn slot : Int} {body : List Int} {signer : Int} {sig : List Int} (h : vrA kind view turn slot body signer sig = true) : sig = vsA kind view turn slot body signer := by
  unfold vrA at h
  simp at h
  exact h.2
theorem vrA_len {kind view turn slot : Int} {body : List Int} {signer : Int} {sig : List Int} (h : vrA kind view turn slot body signer sig = true) : sig.length ≤ 1048576 := by
  rw [vrA_eq h]
  exact vsA_len _ _ _ _ _ _
theorem equal_f' (l0 l1 : List Int) (h0 : Bys l0) (h1 : Bys l1) : bytes_Equal.f l0 l1 = some (decide (l0 = l1)) := by
  unfold bytes_Equal.f
  exact congrArg some (same_iff h0 h1)
theorem evid_calls (x : Sn) (hx : x.ok) (X1 : Option Addr) (e1 : Nat) (X2 : Option Addr) (e2 : Nat) (X3 : Option Addr) (e3 : Nat) (c s : Int) (Ao : Option Addr) (co : Nat) (op : List Int) (As : Option Addr) (cs : Nat) (sg : List Int) (A3 : Option Addr) (c3 : Nat) (t : List Int) (w : World) (h1 : Rd w X1 x.op) (l1 : x.op.length ≤ e1) (h2 : Rd w X2 x.sg) (l2 : x.sg.length ≤ e2) (h3 : Rd w X3 x.t) (l3 : x.t.length ≤ e3) (ho : Rd w Ao op) (hco : op.length ≤ co) (hg : Rd w As sg) (hcs : sg.length ≤ cs) (ht : Rd w A3 t) (hc3 : t.length ≤ c3) (lo : op.length + sg.length ≤ 1048576) (lt : t.length ≤ 1048576) :
    Calls Try.prog 27 #[.agg #[.int .i64 x.kind, .int .i64 x.view, .int .i64 x.turn, .int .i64 x.slot, .int .i64 x.signer], .agg #[.int .i64 x.c, .int .i64 x.s, .slice X1 x.op.length e1, .slice X2 x.sg.length e2], .agg #[.int .i64 c, .int .i64 s, .slice Ao op.length co, .slice As sg.length cs], .slice X3 x.t.length e3, .slice A3 t.length c3] w fun e w' => ∃ v, e = .returned v ∧ EvIs w' v (mkEv x c s op sg t) ∧ Below w.heap.size w w' := by
  by_cases hc : 0 < cmpA (bodyA x.c x.s x.op x.sg) (bodyA c s op sg)
  · rw [mkEv, if_pos hc]
    exact evid_swap x.kind x.view x.turn x.slot x.signer x.c x.s X1 e1 x.op X2 e2 x.sg c s Ao co op As cs sg X3 e3 x.t A3 c3 t w h1 l1 h2 l2 hx.lo ho hco hg hcs lo ⟨l3, h3⟩ ⟨hc3, ht⟩ hx.lt lt hc
  · rw [mkEv, if_neg hc]
    exact evid_keep x.kind x.view x.turn x.slot x.signer x.c x.s X1 e1 x.op X2 e2 x.sg c s Ao co op As cs sg X3 e3 x.t A3 c3 t w h1 l1 h2 l2 hx.lo ho hco hg hcs lo ⟨l3, h3⟩ ⟨hc3, ht⟩ hx.lt lt hc
theorem infoM : (Try.prog.info? 48).map (fun i => (i.zero, i.size, i.bytes)) = some (some (.agg Z48), 23, 360) := by kernel_rfl
/-- A step of a region that draws: a message is appended. -/
theorem wp_append_msg {o : Oper} {a : Act} {w : World} {K : Act → World → Prop} {Q : Exit → Act → World → Prop} (s x : Operand) (ho : o.op = .call { callee := .builtin .append, args := #[s, x], argTypes := #[37, 37] }) (base : Nat) (v : Value) (n : Nat) (xs : List Value) (hs : a.eval s = v) (hown : w.ownsRow base 48 23 v n xs) (ad : Addr) (news : List Value) (hx : a.eval x = .slice (some ad) 1 1) (hl : news.length = 23) (hnews : ∀ (j : Nat) (u : Value), news[j]? = some u → w.cell? (ad.add j) = some u) (h1 : ∀ u ∈ news, u.oneCell' = true) (hn : n ≤ 1048576) (hb : base ≤ w.heap.size)
    (h : ∀ v' w', w'.ownsRow base 48 23 v' (n + 1) (xs ++ news) → Fr (fun k => some k = v.ownBlock) w w' → K (a.put o.dst v') w') : o.wp Try.prog a w K Q := by
  obtain ⟨i0, hi0, h0, h2, h3⟩ := info_parts infoM
  obtain ⟨v', w', hr, hq, hg, _, _⟩ := run_append_own_at (P := Try.prog) w base 37 o.type 48 i0 (.agg Z48) 23 360 Try.underlying37 hi0 h0 h2 h3 rfl (by decide) v n xs hown ad 1 1 news hl hnews h1 (by simp only [maxLen]; omega) (by omega) hb
  unfold Oper.wp execOp
  simp only [ho, resolve, invoke, builtin, Sem.run_bind, Sem.run_pure, Result.andThen_ok, List.map_toArray, List.map_cons, List.map_nil, hs, hx, hr]
  exact h v' w' hq (Fr.of_grown hg)
end Go.Proofs.Ytnabilhcmplhcaa.Sha
end
section
/- Written by a program of this session out of the translation; Lean checks it. -/
namespace Go.Proofs.Ytnabilhcmplhcaa.Q
open Go.RowKit Go.Proofs.YtnabilhcmplhcaaW.PrintWords Go.Proofs.YtnabilhcmplhcaaW.PrintLast Go.Proofs.YtnabilhcmplhcaaW.PrintMore
attribute [local go_sem] max2_int min2_int max_two min_two max_three min_three max_four min_four   -- for this text's walks alone
set_option linter.unusedVariables false
set_option linter.unusedSimpArgs false

/-! ### catenaryref05_CopyReq: function 13 -/
def catenaryref05_CopyReq.f (a0_0 : Int) (a0_1 : Int) (l0_2 : List Int) (l0_3 : List Int) : Option (Int × Int × List Int × List Int) := (some (([] : List Int) : List Int)).bind fun y229 => (if y229.length + l0_2.length < 140737488355328 then ((some (([] : List Int) : List Int)).bind fun y235 => (if y235.length + l0_3.length < 140737488355328 then (some (a0_0, a0_1, (y229 ++ l0_2), (y235 ++ l0_3))) else (none))) else (none))
set_option maxHeartbeats 8000000 in
set_option maxRecDepth 100000 in
theorem catenaryref05_CopyReq.calls (a0_0 : Int) (a0_1 : Int) (A0_2 : Option Addr) (c0_2 : Nat) (l0_2 : List Int) (A0_3 : Option Addr) (c0_3 : Nat) (l0_3 : List Int) (r1 : Int) (r2 : Int) (r3 : List Int) (r4 : List Int) (w : World) (hr0_2 : Kd.C (Kd.int .u8) w A0_2 l0_2.length l0_2) (hc0_2 : l0_2.length ≤ c0_2) (hr0_3 : Kd.C (Kd.int .u8) w A0_3 l0_3.length l0_3) (hc0_3 : l0_3.length ≤ c0_3) (h : catenaryref05_CopyReq.f a0_0 a0_1 l0_2 l0_3 = some (r1, r2, r3, r4)) :
    Calls Try.prog 13 #[.agg #[.int .i64 a0_0, .int .i64 a0_1, .slice A0_2 l0_2.length c0_2, .slice A0_3 l0_3.length c0_3]] w fun e w' => ∃ v2_ v3_ : Value, e = .returned (.agg #[.int .i64 r1, .int .i64 r2, v2_, v3_]) ∧ Kd.R (Kd.int .u8) 5 w' w.heap.size (fun k_ => some k_ ≠ (v3_ : Value).ownBlock) v2_ r3 ∧ Kd.R (Kd.int .u8) 5 w' w.heap.size (fun k_ => some k_ ≠ (v2_ : Value).ownBlock) v3_ r4 ∧ Below w.heap.size w w' := by
  have hu31 := Try.underlying31
  have HR0_2 := Aside0.mk hr0_2
  have HC0_2 := Aside0.mk hc0_2
  clear hr0_2 hc0_2
  have HR0_3 := Aside0.mk hr0_3
  have HC0_3 := Aside0.mk hc0_3
  clear hr0_3 hc0_3
  have HB := Aside0.mk (Below.refl w.heap.size w)
  have H : ((some (([] : List Int) : List Int)).bind fun y229 => (if y229.length + l0_2.length < 140737488355328 then ((some (([] : List Int) : List Int)).bind fun y235 => (if y235.length + l0_3.length < 140737488355328 then (some (a0_0, a0_1, (y229 ++ l0_2), (y235 ++ l0_3))) else (none))) else (none))) = some (r1, r2, r3, r4) := h
  clear h
  obtain ⟨y229, hy229⟩ : ∃ y_ : List Int, y_ = (([] : List Int)) := ⟨_, rfl⟩
  replace H : (if y229.length + l0_2.length < 140737488355328 then ((some (([] : List Int) : List Int)).bind fun y235 => (if y235.length + l0_3.length < 140737488355328 then (some (a0_0, a0_1, (y229 ++ l0_2), (y235 ++ l0_3))) else (none))) else (none)) = some (r1, r2, r3, r4) := by first | (rw [hy229]; with_reducible exact H) | (have H2_ := (Option.bind_some _ _).symm.trans H; rw [hy229]; with_reducible exact H2_) | (have H2_ := (Option.bind_some _ _).symm.trans H; with_reducible exact H2_) | with_reducible exact H | (rw [hy229]; exact H) | exact H
  have Ny229 := Aside0.mk hy229
  clear hy229
  by_cases c2 : y229.length + l0_2.length < 140737488355328
  · rw [if_pos c2] at H
    have LMc2 := Aside0.mk c2
    clear c2
    obtain ⟨y232, hy232⟩ : ∃ y_ : List Int, y_ = (y229 ++ l0_2) := ⟨_, rfl⟩
    replace H : ((some (([] : List Int) : List Int)).bind fun y235 => (if y235.length + l0_3.length < 140737488355328 then (some (a0_0, a0_1, y232, (y235 ++ l0_3))) else (none))) = some (r1, r2, r3, r4) := by first | (rw [hy232]; with_reducible exact H) | (have H2_ := (Option.bind_some _ _).symm.trans H; rw [hy232]; with_reducible exact H2_) | (have H2_ := (Option.bind_some _ _).symm.trans H; with_reducible exact H2_) | with_reducible exact H | (rw [hy232]; exact H) | exact H
    have Ny232 := Aside0.mk hy232
    clear hy232
    obtain ⟨y235, hy235⟩ : ∃ y_ : List Int, y_ = (([] : List Int)) := ⟨_, rfl⟩
    replace H : (if y235.length + l0_3.length < 140737488355328 then (some (a0_0, a0_1, y232, (y235 ++ l0_3))) else (none)) = some (r1, r2, r3, r4) := by first | (rw [hy235]; with_reducible exact H) | (have H2_ := (Option.bind_some _ _).symm.trans H; rw [hy235]; with_reducible exact H2_) | (have H2_ := (Option.bind_some _ _).symm.trans H; with_reducible exact H2_) | with_reducible exact H | (rw [hy235]; exact H) | exact H
    have Ny235 := Aside0.mk hy235
    clear hy235
    by_cases c3 : y235.length + l0_3.length < 140737488355328
    · rw [if_pos c3] at H
      have LMc3 := Aside0.mk c3
      clear c3
      obtain ⟨y238, hy238⟩ : ∃ y_ : List Int, y_ = (y235 ++ l0_3) := ⟨_, rfl⟩
      replace H : (some (a0_0, a0_1, y232, y238)) = some (r1, r2, r3, r4) := by first | (rw [hy238]; with_reducible exact H) | (have H2_ := (Option.bind_some _ _).symm.trans H; rw [hy238]; with_reducible exact H2_) | (have H2_ := (Option.bind_some _ _).symm.trans H; with_reducible exact H2_) | with_reducible exact H | (rw [hy238]; exact H) | exact H
      have Ny238 := Aside0.mk hy238
      clear hy238
      simp only [Option.some.injEq, Prod.mk.injEq] at H
      obtain ⟨rfl, rfl, rfl, rfl⟩ := H
      go_enter Try.func13, Try.ntmps13
      go_wp2_with (first | ((with_reducible refine gate_dst (N := 1) rfl ?_); refine box_event ?hg (N := 1) ?hd (cs := #[.int .i64 a0_0, .int .i64 a0_1, .slice A0_2 l0_2.length c0_2, .slice A0_3 l0_3.length c0_3]) (t := 31) ?hr ?_; (case hd => rfl); (case hg => rfl); (case hr => first | (go_simp; done) | (go_simp; rfl)); intro gb227 hg w4 hbox hb; have n0_ := Aside0.mk (below_step (by repeat (first | (with_reducible first | exact HB.out | apply below_alloc | apply pw_below_drewN | apply below_drew1) | exact HB.out)) hb); have n1_ := Aside0.mk (hbox); have n2_ := Aside0.mk ((by rw [hg]; exact (below_size (by repeat (first | (with_reducible first | exact HB.out | apply below_alloc | apply pw_below_drewN | apply below_drew1) | exact HB.out))) : w.heap.size ≤ gb227)); have n3_ := Aside0.mk ((by rw [hg]; exact (below_size (by repeat (first | (with_reducible first | exact HB.out | apply below_alloc | apply pw_below_drewN | apply below_drew1) | exact HB.out))) : w.heap.size ≤ gb227)); clear HB; have HB := n0_; have BK227 := n1_; have GW227 := n2_; have GE227 := n3_; clear n0_ n1_ n2_ n3_; clear hb hbox hg) | ((with_reducible refine gate_dst (N := 2) rfl ?_); refine box_event ?hg (N := 2) ?hd (cs := #[.int .i64 0, .int .i64 0, .slice none 0 0, .slice none 0 0]) (t := 31) ?hr ?_; (case hd => rfl); (case hg => rfl); (case hr => first | (go_simp; done) | (go_simp; rfl)); intro gb228 hg w5 hbox hb; have n0_ := Aside0.mk (blk_below (g := gb227) (o := .cells #[.int .i64 a0_0, .int .i64 a0_1, .slice A0_2 l0_2.length c0_2, .slice A0_3 l0_3.length c0_3] 31 (0, 0)) (by (with_reducible repeat (first | refine blk_drewN ?_ _ | refine blk_drew ?_ | refine blk_alloc ?_ _)); exact BK227.out) hb); have n1_ := Aside0.mk (below_step (by repeat (first | (with_reducible first | exact HB.out | apply below_alloc | apply pw_below_drewN | apply below_drew1 | refine below_set ?_ GE227.out) | exact HB.out)) hb); have n2_ := Aside0.mk (hbox); have n3_ := Aside0.mk ((by rw [hg]; exact (below_size (by repeat (first | (with_reducible first | exact HB.out | apply below_alloc | apply pw_below_drewN | apply below_drew1 | refine below_set ?_ GE227.out) | exact HB.out))) : w.heap.size ≤ gb228)); have n4_ := Aside0.mk ((by rw [hg]; exact (below_size (by repeat (first | (with_reducible first | exact HB.out | apply below_alloc | apply pw_below_drewN | apply below_drew1 | refine below_set ?_ GE227.out) | exact HB.out))) : w.heap.size ≤ gb228)); have n5_ := Aside0.mk ((by rw [hg]; exact Nat.ne_of_lt (blk_lt (g := gb227) (o := .cells #[.int .i64 a0_0, .int .i64 a0_1, .slice A0_2 l0_2.length c0_2, .slice A0_3 l0_3.length c0_3] 31 (0, 0)) (by (with_reducible repeat (first | refine blk_drewN ?_ _ | refine blk_drew ?_ | refine blk_alloc ?_ _)); exact BK227.out)) : gb227 ≠ gb228)); have n6_ := Aside0.mk ((by rw [hg]; exact Nat.ne_of_gt (blk_lt (g := gb227) (o := .cells #[.int .i64 a0_0, .int .i64 a0_1, .slice A0_2 l0_2.length c0_2, .slice A0_3 l0_3.length c0_3] 31 (0, 0)) (by (with_reducible repeat (first | refine blk_drewN ?_ _ | refine blk_drew ?_ | refine blk_alloc ?_ _)); exact BK227.out)) : gb228 ≠ gb227)); clear BK227; clear HB; have BK227 := n0_; have HB := n1_; have BK228 := n2_; have GW228 := n3_; have GE228 := n4_; have NB227_228 := n5_; have NB228_227 := n6_; clear n0_ n1_ n2_ n3_ n4_ n5_ n6_; clear hb hbox hg) | ((with_reducible refine gate_dst (N := 3) rfl ?_); refine Kd.R_lit (Kd.int .u8) _ 5 ?hg (N := 3) ?hd (xs := ([] : List Int)) (inner := []) (ok := fun _ => True) (okp := fun _ => True) ?hr ?hp (fun _ hk => hk) trivial (Below.refl _ _) (Nat.le_refl _) (by simp) ?_; (case hd => rfl); (case hg => rfl); (case hr => first | (go_simp; done) | (go_simp; rfl)); (case hp => exact (Reps.none _ _)); intro v230 w6 ho7 hb hg_ hnew_; clear hg_ hnew_; (first | rw [← Ny229.out] at ho7 | (simp only [Int.reduceToNat] at ho7; rw [← Ny229.out] at ho7)); have n0_ := Aside0.mk (Kd.R_lower ho7 (below_size (by repeat (first | (with_reducible first | exact HB.out | apply below_alloc | apply pw_below_drewN | apply below_drew1 | refine below_set ?_ GE227.out | refine below_set ?_ GE228.out) | exact HB.out)))); have n1_ := Aside0.mk (blk_below (g := gb227) (o := .cells #[.int .i64 a0_0, .int .i64 a0_1, .slice A0_2 l0_2.length c0_2, .slice A0_3 l0_3.length c0_3] 31 (0, 0)) (by (with_reducible repeat (first | refine blk_drewN ?_ _ | refine blk_drew ?_ | refine blk_alloc ?_ _)); exact BK227.out) hb); have n2_ := Aside0.mk (blk_below (g := gb228) (o := .cells #[.int .i64 0, .int .i64 0, .slice none 0 0, .slice none 0 0] 31 (0, 0)) (by (with_reducible repeat (first | refine blk_drewN ?_ _ | refine blk_drew ?_ | refine blk_alloc ?_ _)); exact BK228.out) hb); have n3_ := Aside0.mk (below_step (by repeat (first | (with_reducible first | exact HB.out | apply below_alloc | apply pw_below_drewN | apply below_drew1 | refine below_set ?_ GE227.out | refine below_set ?_ GE228.out) | exact HB.out)) hb); clear BK227; clear BK228; clear HB; have HO231 := n0_; have BK227 := n1_; have BK228 := n2_; have HB := n3_; clear n0_ n1_ n2_ n3_; clear hb ho7; have hnb8 := NB227_228.out; have hnc8 := NB228_227.out; have hcz9_0 : w6.cell? ⟨gb227, 0, none⟩ = some (.int .i64 a0_0) := (blk_cell BK227.out 0).trans rfl; have hcz9_1 : w6.cell? ⟨gb227, 1, none⟩ = some (.int .i64 a0_1) := (blk_cell BK227.out 1).trans rfl; have hcz9_2 : w6.cell? ⟨gb227, 2, none⟩ = some (.slice A0_2 l0_2.length c0_2) := (blk_cell BK227.out 2).trans rfl; have hcz9_3 : w6.cell? ⟨gb227, 3, none⟩ = some (.slice A0_3 l0_3.length c0_3) := (blk_cell BK227.out 3).trans rfl; have hfz9_0 := blk_frozen BK227.out 0; have hfz9_1 := blk_frozen BK227.out 1; have hfz9_2 := blk_frozen BK227.out 2; have hfz9_3 := blk_frozen BK227.out 3) | ((with_reducible refine gate_builtin (b := .append) (xs := #[.tmp 3, .tmp 5]) rfl ?_); at_builtin; refine Kd.R_append_rows (Kd.int .u8) (w0 := w) w.heap.size rfl (.tmp 3) (.tmp 5) 29 5 (.int .u8 0) 1 rfl Try.underlying29 info5 rfl (by decide) (by omega) v230 y229 l0_2 _ _ _ (fun _ => True) (fun _ => False) rfl rfl ?aO ?aR (fun _ _ h => h) (fun _ h => h.elim) ?aF ?aB ?aS ?aL ?_; (case aR => repeat (first | exact (Kd.C_below HR0_2.out HB.out) | (with_reducible refine Kd.C_alloc ?_ _) | (with_reducible refine Kd.C_drewN ?_ _) | (with_reducible refine Kd.C_drew ?_))); (case aB => exact (by repeat (first | (with_reducible first | exact HB.out | apply below_alloc | apply pw_below_drewN | apply below_drew1 | refine below_set ?_ GE227.out | refine below_set ?_ GE228.out) | exact HB.out))); (case aF => exact (fun _ _ => trivial)); (case aO => exact (by (with_reducible repeat (first | apply Kd.R_alloc | apply Kd.R_drewN | apply Kd.R_drew)); exact HO231.out)); (case aS => exact (below_size (by repeat (first | (with_reducible first | exact HB.out | apply below_alloc | apply pw_below_drewN | apply below_drew1 | refine below_set ?_ GE227.out | refine below_set ?_ GE228.out) | exact HB.out)))); (case aL => have := LMc2.out; omega); intro v233 w10 ho hb hg hat; rw [← Ny232.out] at ho; have n0_ := Aside0.mk (blk_grown (g := gb227) (o := .cells #[.int .i64 a0_0, .int .i64 a0_1, .slice A0_2 l0_2.length c0_2, .slice A0_3 l0_3.length c0_3] 31 (0, 0)) (by (with_reducible repeat (first | refine blk_drewN ?_ _ | refine blk_drew ?_ | refine blk_alloc ?_ _)); exact BK227.out) hg (Kd.R_ne HO231.out BK227.out (by decide))); have n1_ := Aside0.mk (blk_grown (g := gb228) (o := .cells #[.int .i64 0, .int .i64 0, .slice none 0 0, .slice none 0 0] 31 (0, 0)) (by (with_reducible repeat (first | refine blk_drewN ?_ _ | refine blk_drew ?_ | refine blk_alloc ?_ _)); exact BK228.out) hg (Kd.R_ne HO231.out BK228.out (by decide))); have n2_ := Aside0.mk (hb); have n3_ := Aside0.mk (ho); clear BK227; clear BK228; clear HB; clear HO231; have BK227 := n0_; have BK228 := n1_; have HB := n2_; have HO234 := n3_; clear n0_ n1_ n2_ n3_; clear ho hb hg hat; obtain ⟨Ao11, co11, eo11⟩ := Kd.R_slice HO234.out; subst eo11; have hcz12_0 : w10.cell? ⟨gb227, 0, none⟩ = some (.int .i64 a0_0) := (blk_cell BK227.out 0).trans rfl; have hcz12_1 : w10.cell? ⟨gb227, 1, none⟩ = some (.int .i64 a0_1) := (blk_cell BK227.out 1).trans rfl; have hcz12_2 : w10.cell? ⟨gb227, 2, none⟩ = some (.slice A0_2 l0_2.length c0_2) := (blk_cell BK227.out 2).trans rfl; have hcz12_3 : w10.cell? ⟨gb227, 3, none⟩ = some (.slice A0_3 l0_3.length c0_3) := (blk_cell BK227.out 3).trans rfl; have hfz12_0 := blk_frozen BK227.out 0; have hfz12_1 := blk_frozen BK227.out 1; have hfz12_2 := blk_frozen BK227.out 2; have hfz12_3 := blk_frozen BK227.out 3) | ((with_reducible refine gate_dst (N := 8) rfl ?_); refine Kd.R_lit (Kd.int .u8) _ 5 ?hg (N := 8) ?hd (xs := ([] : List Int)) (inner := []) (ok := fun _ => True) (okp := fun _ => True) ?hr ?hp (fun _ hk => hk) trivial (Below.refl _ _) (Nat.le_refl _) (by simp) ?_; (case hd => rfl); (case hg => rfl); (case hr => first | (go_simp; done) | (go_simp; rfl)); (case hp => exact (Reps.none _ _)); intro v236 w13 ho14 hb hg_ hnew_; clear hg_ hnew_; (first | rw [← Ny235.out] at ho14 | (simp only [Int.reduceToNat] at ho14; rw [← Ny235.out] at ho14)); have n0_ := Aside0.mk (Kd.R_elder' (by (with_reducible repeat (first | apply Kd.R_alloc | apply Kd.R_drewN | apply Kd.R_drew)); exact (Kd.R_mono (Kd.R_far (p := ⟨gb227, 2, none⟩) (Kd.R_types HO234.out BK227.out (by decide)) (fun _ hk => hk.2) (.slice Ao11 y232.length co11)) (fun _ h_ => h_.1))) (Kd.R_base ho14) hb); have n1_ := Aside0.mk (Kd.R_lower (Kd.R_new' ho14 (Kd.R_lt (by (with_reducible repeat (first | apply Kd.R_alloc | apply Kd.R_drewN | apply Kd.R_drew)); exact (Kd.R_mono (Kd.R_far (p := ⟨gb227, 2, none⟩) (Kd.R_types HO234.out BK227.out (by decide)) (fun _ hk => hk.2) (.slice Ao11 y232.length co11)) (fun _ h_ => h_.1))))) (below_size (by repeat (first | (with_reducible first | exact HB.out | apply below_alloc | apply pw_below_drewN | apply below_drew1 | refine below_set ?_ GE227.out | refine below_set ?_ GE228.out) | exact HB.out)))); have n2_ := Aside0.mk (blk_below (g := gb227) (o := .cells #[.int .i64 a0_0, .int .i64 a0_1, .slice Ao11 y232.length co11, .slice A0_3 l0_3.length c0_3] 31 (0, 0)) (by (with_reducible repeat (first | refine blk_drewN ?_ _ | refine blk_drew ?_ | refine blk_alloc ?_ _)); refine blk_put (cs := #[.int .i64 a0_0, .int .i64 a0_1, .slice A0_2 l0_2.length c0_2, .slice A0_3 l0_3.length c0_3]) ?_ 2 _ rfl; (with_reducible repeat (first | refine blk_drewN ?_ _ | refine blk_drew ?_ | refine blk_alloc ?_ _)); exact BK227.out) hb); have n3_ := Aside0.mk (blk_below (g := gb228) (o := .cells #[.int .i64 0, .int .i64 0, .slice none 0 0, .slice none 0 0] 31 (0, 0)) (by (with_reducible repeat (first | refine blk_drewN ?_ _ | refine blk_drew ?_ | refine blk_alloc ?_ _)); refine blk_far ?_ NB228_227.out _; (with_reducible repeat (first | refine blk_drewN ?_ _ | refine blk_drew ?_ | refine blk_alloc ?_ _)); exact BK228.out) hb); have n4_ := Aside0.mk (below_step (by repeat (first | (with_reducible first | exact HB.out | apply below_alloc | apply pw_below_drewN | apply below_drew1 | refine below_set ?_ GE227.out | refine below_set ?_ GE228.out) | exact HB.out)) hb); clear HO234; clear BK227; clear BK228; clear HB; have HO234 := n0_; have HO237 := n1_; have BK227 := n2_; have BK228 := n3_; have HB := n4_; clear n0_ n1_ n2_ n3_ n4_; clear hb ho14; have hcz15_0 : w13.cell? ⟨gb227, 0, none⟩ = some (.int .i64 a0_0) := (blk_cell BK227.out 0).trans rfl; have hcz15_1 : w13.cell? ⟨gb227, 1, none⟩ = some (.int .i64 a0_1) := (blk_cell BK227.out 1).trans rfl; have hcz15_2 : w13.cell? ⟨gb227, 2, none⟩ = some (.slice Ao11 y232.length co11) := (blk_cell BK227.out 2).trans rfl; have hcz15_3 : w13.cell? ⟨gb227, 3, none⟩ = some (.slice A0_3 l0_3.length c0_3) := (blk_cell BK227.out 3).trans rfl; have hfz15_0 := blk_frozen BK227.out 0; have hfz15_1 := blk_frozen BK227.out 1; have hfz15_2 := blk_frozen BK227.out 2; have hfz15_3 := blk_frozen BK227.out 3) | ((with_reducible refine gate_builtin (b := .append) (xs := #[.tmp 8, .tmp 10]) rfl ?_); at_builtin; refine Kd.R_append_rows (Kd.int .u8) (w0 := w) w.heap.size rfl (.tmp 8) (.tmp 10) 29 5 (.int .u8 0) 1 rfl Try.underlying29 info5 rfl (by decide) (by omega) v236 y235 l0_3 _ _ _ (fun k_ => some k_ ≠ (.slice Ao11 y232.length co11 : Value).ownBlock) (fun _ => False) rfl rfl ?aO ?aR (fun _ _ h => h) (fun _ h => h.elim) ?aF ?aB ?aS ?aL ?_; (case aR => repeat (first | exact (Kd.C_below HR0_3.out HB.out) | (with_reducible refine Kd.C_alloc ?_ _) | (with_reducible refine Kd.C_drewN ?_ _) | (with_reducible refine Kd.C_drew ?_))); (case aB => exact (by repeat (first | (with_reducible first | exact HB.out | apply below_alloc | apply pw_below_drewN | apply below_drew1 | refine below_set ?_ GE227.out | refine below_set ?_ GE228.out) | exact HB.out))); (case aF => exact (fun k_ hk => Kd.fresh' (Kd.R_lt (by (with_reducible repeat (first | apply Kd.R_alloc | apply Kd.R_drewN | apply Kd.R_drew)); exact HO234.out)) k_ hk)); (case aO => exact (by (with_reducible repeat (first | apply Kd.R_alloc | apply Kd.R_drewN | apply Kd.R_drew)); exact Kd.R_mono HO237.out (fun _ hk => hk.2))); (case aS => exact (below_size (by repeat (first | (with_reducible first | exact HB.out | apply below_alloc | apply pw_below_drewN | apply below_drew1 | refine below_set ?_ GE227.out | refine below_set ?_ GE228.out) | exact HB.out)))); (case aL => have := LMc3.out; omega); intro v239 w16 ho hb hg hat; rw [← Ny238.out] at ho; have n0_ := Aside0.mk (blk_grown (g := gb227) (o := .cells #[.int .i64 a0_0, .int .i64 a0_1, .slice Ao11 y232.length co11, .slice A0_3 l0_3.length c0_3] 31 (0, 0)) (by (with_reducible repeat (first | refine blk_drewN ?_ _ | refine blk_drew ?_ | refine blk_alloc ?_ _)); exact BK227.out) hg (Kd.R_ne HO237.out BK227.out (by decide))); have n1_ := Aside0.mk (blk_grown (g := gb228) (o := .cells #[.int .i64 0, .int .i64 0, .slice none 0 0, .slice none 0 0] 31 (0, 0)) (by (with_reducible repeat (first | refine blk_drewN ?_ _ | refine blk_drew ?_ | refine blk_alloc ?_ _)); exact BK228.out) hg (Kd.R_ne HO237.out BK228.out (by decide))); have n2_ := Aside0.mk (Kd.R_after (ok := (fun _ => True)) (by (with_reducible repeat (first | apply Kd.R_alloc | apply Kd.R_drewN | apply Kd.R_drew)); exact HO234.out) hg hat); have n3_ := Aside0.mk (hb); have n4_ := Aside0.mk (ho); clear BK227; clear BK228; clear HO234; clear HB; clear HO237; have BK227 := n0_; have BK228 := n1_; have HO234 := n2_; have HB := n3_; have HO240 := n4_; clear n0_ n1_ n2_ n3_ n4_; clear ho hb hg hat; obtain ⟨Ao17, co17, eo17⟩ := Kd.R_slice HO240.out; subst eo17; have hcz18_0 : w16.cell? ⟨gb227, 0, none⟩ = some (.int .i64 a0_0) := (blk_cell BK227.out 0).trans rfl; have hcz18_1 : w16.cell? ⟨gb227, 1, none⟩ = some (.int .i64 a0_1) := (blk_cell BK227.out 1).trans rfl; have hcz18_2 : w16.cell? ⟨gb227, 2, none⟩ = some (.slice Ao11 y232.length co11) := (blk_cell BK227.out 2).trans rfl; have hcz18_3 : w16.cell? ⟨gb227, 3, none⟩ = some (.slice A0_3 l0_3.length c0_3) := (blk_cell BK227.out 3).trans rfl; have hfz18_0 := blk_frozen BK227.out 0; have hfz18_1 := blk_frozen BK227.out 1; have hfz18_2 := blk_frozen BK227.out 2; have hfz18_3 := blk_frozen BK227.out 3; have hcz19_0 : w16.cell? ⟨gb228, 0, none⟩ = some (.int .i64 0) := (blk_cell BK228.out 0).trans rfl; have hcz19_1 : w16.cell? ⟨gb228, 1, none⟩ = some (.int .i64 0) := (blk_cell BK228.out 1).trans rfl; have hcz19_2 : w16.cell? ⟨gb228, 2, none⟩ = some (.slice none 0 0) := (blk_cell BK228.out 2).trans rfl; have hcz19_3 : w16.cell? ⟨gb228, 3, none⟩ = some (.slice none 0 0) := (blk_cell BK228.out 3).trans rfl; have hfz19_0 := blk_frozen BK228.out 0; have hfz19_1 := blk_frozen BK228.out 1; have hfz19_2 := blk_frozen BK228.out 2; have hfz19_3 := blk_frozen BK228.out 3))
      refine bodyPost_ret (results_cell_row rfl _ _ gb228 31 #[.int .i64 a0_0, .int .i64 a0_1, .slice Ao11 y232.length co11, .slice Ao17 y238.length co17] (0, 0) _ rfl (by (with_reducible repeat (first | refine blk_drewN ?_ _ | refine blk_drew ?_ | refine blk_alloc ?_ _)); refine blk_put (cs := #[.int .i64 a0_0, .int .i64 a0_1, .slice Ao11 y232.length co11, .slice none 0 0]) ?_ 3 _ rfl; (with_reducible repeat (first | refine blk_drewN ?_ _ | refine blk_drew ?_ | refine blk_alloc ?_ _)); refine blk_put (cs := #[.int .i64 a0_0, .int .i64 a0_1, .slice none 0 0, .slice none 0 0]) ?_ 2 _ rfl; (with_reducible repeat (first | refine blk_drewN ?_ _ | refine blk_drew ?_ | refine blk_alloc ?_ _)); refine blk_put (cs := #[.int .i64 a0_0, .int .i64 0, .slice none 0 0, .slice none 0 0]) ?_ 1 _ rfl; (with_reducible repeat (first | refine blk_drewN ?_ _ | refine blk_drew ?_ | refine blk_alloc ?_ _)); refine blk_put (cs := #[.int .i64 0, .int .i64 0, .slice none 0 0, .slice none 0 0]) ?_ 0 _ rfl; (with_reducible repeat (first | refine blk_drewN ?_ _ | refine blk_drew ?_ | refine blk_alloc ?_ _)); refine blk_far ?_ NB228_227.out _; (with_reducible repeat (first | refine blk_drewN ?_ _ | refine blk_drew ?_ | refine blk_alloc ?_ _)); exact BK228.out) Try.underlying31 rfl (by kernel_rfl)) rfl ?_
      exact ⟨_, _, by first | rfl | (simp [errW_none, errW_some] <;> rfl) | (simp [*, errW_none, errW_some] <;> rfl), by (with_reducible repeat (first | apply Kd.R_alloc | apply Kd.R_drewN | apply Kd.R_drew)); exact Kd.R_mono (Kd.R_far (p := ⟨gb228, 3, none⟩) (Kd.R_far (p := ⟨gb228, 2, none⟩) (Kd.R_far (p := ⟨gb228, 1, none⟩) (Kd.R_far (p := ⟨gb228, 0, none⟩) (Kd.R_far (p := ⟨gb227, 3, none⟩) (Kd.R_types (Kd.R_types HO234.out BK227.out (by decide)) BK228.out (by decide)) (fun _ hk => hk.1.2) (.slice Ao17 y238.length co17)) (fun _ hk => hk.2) (.int .i64 a0_0)) (fun _ hk => hk.2) (.int .i64 a0_1)) (fun _ hk => hk.2) (.slice Ao11 y232.length co11)) (fun _ hk => hk.2) (.slice Ao17 y238.length co17)) (fun _ hk => hk.1.1.2), by (with_reducible repeat (first | apply Kd.R_alloc | apply Kd.R_drewN | apply Kd.R_drew)); exact Kd.R_mono (Kd.R_far (p := ⟨gb228, 3, none⟩) (Kd.R_far (p := ⟨gb228, 2, none⟩) (Kd.R_far (p := ⟨gb228, 1, none⟩) (Kd.R_far (p := ⟨gb228, 0, none⟩) (Kd.R_far (p := ⟨gb227, 3, none⟩) (Kd.R_types (Kd.R_types HO240.out BK227.out (by decide)) BK228.out (by decide)) (fun _ hk => hk.1.2) (.slice Ao17 y238.length co17)) (fun _ hk => hk.2) (.int .i64 a0_0)) (fun _ hk => hk.2) (.int .i64 a0_1)) (fun _ hk => hk.2) (.slice Ao11 y232.length co11)) (fun _ hk => hk.2) (.slice Ao17 y238.length co17)) (fun _ hk => hk.1.1), by repeat (first | (with_reducible first | exact HB.out | apply below_alloc | apply pw_below_drewN | apply below_drew1 | refine below_set ?_ GE227.out | refine below_set ?_ GE228.out) | exact HB.out)⟩
    · rw [if_neg c3] at H
      exact absurd H (by simp)
  · rw [if_neg c2] at H
    exact absurd H (by simp)

end Go.Proofs.Ytnabilhcmplhcaa.Q
end
