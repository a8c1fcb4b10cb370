/-
  Evidence of two votes, the other way round.
-/
import Derived.Test.YtnabilhcmplhcaaLdF
import Derived.Test.YtnabilhcmplhcaaQx8
import Derived.Test.YtnabilhcmplhcaaQx9
set_option linter.unusedVariables false
set_option linter.unusedSimpArgs false
namespace Go.Proofs.Ytnabilhcmplhcaa.Sha
open Go.RowKit Go.Proofs.YtnabilhcmplhcaaW.PrintWords Go.Proofs.YtnabilhcmplhcaaW.PrintLast Go.Proofs.YtnabilhcmplhcaaW.PrintMore Go.Proofs.Ytnabilhcmplhcaa.Q Go.Proofs.Ytnabilhcmplhcaa.Fr Go.Proofs.Ytnabilhcmplhcaa.Oct

set_option maxHeartbeats 8000000 in
set_option maxRecDepth 100000 in
theorem evid_swap (kind view turn slot signer : Int) (c1 s1 : Int) (Ao1 : Option Addr) (co1 : Nat) (op1 : List Int) (As1 : Option Addr) (cs1 : Nat) (sg1 : List Int) (c2 s2 : Int) (Ao2 : Option Addr) (co2 : Nat) (op2 : List Int) (As2 : Option Addr) (cs2 : Nat) (sg2 : List Int) (T1 : Option Addr) (k1 : Nat) (t1 : List Int) (T2 : Option Addr) (k2 : Nat) (t2 : List Int) (w : World) (ho1 : Rd w Ao1 op1) (hco1 : op1.length ≤ co1) (hg1 : Rd w As1 sg1) (hcs1 : sg1.length ≤ cs1) (lo1 : op1.length + sg1.length ≤ 1048576) (ho2 : Rd w Ao2 op2) (hco2 : op2.length ≤ co2) (hg2 : Rd w As2 sg2) (hcs2 : sg2.length ≤ cs2) (lo2 : op2.length + sg2.length ≤ 1048576) (ht1 : Ls w T1 k1 t1) (ht2 : Ls w T2 k2 t2) (lt1 : t1.length ≤ 1048576) (lt2 : t2.length ≤ 1048576) (hcm : 0 < cmpA (bodyA c1 s1 op1 sg1) (bodyA c2 s2 op2 sg2)) :
    Calls Try.prog 27 #[.agg #[.int .i64 kind, .int .i64 view, .int .i64 turn, .int .i64 slot, .int .i64 signer], .agg #[.int .i64 c1, .int .i64 s1, .slice Ao1 op1.length co1, .slice As1 sg1.length cs1], .agg #[.int .i64 c2, .int .i64 s2, .slice Ao2 op2.length co2, .slice As2 sg2.length cs2], .slice T1 t1.length k1, .slice T2 t2.length k2] w fun e w' => ∃ v, e = .returned v ∧ EvAt w' v kind view turn slot signer c2 s2 op2 sg2 t2 c1 s1 op1 sg1 t1 ∧ Below w.heap.size w w' := by
  have HH := Aside0.mk (And.intro ho1 (And.intro hg1 (And.intro lo1 (And.intro ho2 (And.intro hg2 (And.intro lo2 (And.intro ht1 (And.intro ht2 (And.intro lt1 lt2)))))))))
  clear ho1 hg1 lo1 ho2 hg2 lo2 ht1 ht2 lt1 lt2
  obtain ⟨cm, hcmm⟩ : ∃ x, cmpA (bodyA c1 s1 op1 sg1) (bodyA c2 s2 op2 sg2) = x := ⟨_, rfl⟩
  rw [hcmm] at hcm
  have hcd : decide (0 < cm) = true := decide_eq_true hcm
  go_enter Try.func27, Try.ntmps27
  go_wp2_with (first | ((with_reducible refine gate_dst (N := 10) rfl ?_); refine wpList_alloc_abs (by rfl) 48 (by rfl) (.agg Z48) (by kernel_rfl) ?_; intro w3 hb3 hs3 hgZ; (with_reducible refine Aside0.out ?_)))
  refine ⟨?_⟩
  obtain ⟨wa, hwa⟩ : ∃ x, w.alloc (.cells #[.int .i64 kind, .int .i64 view, .int .i64 turn, .int .i64 slot, .int .i64 signer] 67) = x := ⟨_, rfl⟩
  have hba : Below w.heap.size w wa := by rw [← hwa]; exact below_alloc (Below.refl _ _) _
  have hga : wa.heap[w.heap.size]? = some (.cells #[.int .i64 kind, .int .i64 view, .int .i64 turn, .int .i64 slot, .int .i64 signer] 67 (0, 0)) := by rw [← hwa]; exact heap_alloc_new w _
  have hza : wa.heap.size = w.heap.size + 1 := by rw [← hwa, World.size_alloc]
  obtain ⟨wb, hwb⟩ : ∃ x, wa.alloc (.cells #[.int .i64 c1, .int .i64 s1, .slice Ao1 op1.length co1, .slice As1 sg1.length cs1] 31) = x := ⟨_, rfl⟩
  have hbb : Below wa.heap.size wa wb := by rw [← hwb]; exact below_alloc (Below.refl _ _) _
  have hgb : wb.heap[wa.heap.size]? = some (.cells #[.int .i64 c1, .int .i64 s1, .slice Ao1 op1.length co1, .slice As1 sg1.length cs1] 31 (0, 0)) := by rw [← hwb]; exact heap_alloc_new wa _
  have hzb : wb.heap.size = wa.heap.size + 1 := by rw [← hwb, World.size_alloc]
  obtain ⟨wc, hwc⟩ : ∃ x, wb.alloc (.cells #[.int .i64 c2, .int .i64 s2, .slice Ao2 op2.length co2, .slice As2 sg2.length cs2] 31) = x := ⟨_, rfl⟩
  have hbc : Below wb.heap.size wb wc := by rw [← hwc]; exact below_alloc (Below.refl _ _) _
  have hgc : wc.heap[wb.heap.size]? = some (.cells #[.int .i64 c2, .int .i64 s2, .slice Ao2 op2.length co2, .slice As2 sg2.length cs2] 31 (0, 0)) := by rw [← hwc]; exact heap_alloc_new wb _
  have hzc : wc.heap.size = wb.heap.size + 1 := by rw [← hwc, World.size_alloc]
  rw [hwa, hwb, hwc] at hb3 hs3 hgZ
  try rw [hwa, hwb, hwc]
  clear hwa hwb hwc
  have fb := Fr.of_below hbb (fun _ => False)
  have fc := Fr.of_below hbc (fun _ => False)
  have f3 := Fr.of_below hb3 (fun _ => False)
  have hgP := f3.blk (fc.blk (fb.blk hga (fun h => h)) (fun h => h)) (fun h => h)
  have hg1 := f3.blk (fc.blk hgb (fun h => h)) (fun h => h)
  have hg2 := f3.blk hgc (fun h => h)
  have F3 := (((Fr.of_below hba (fun _ => False)).trans fb (fun _ h => h.elim)).trans fc (fun _ h => h.elim)).trans f3 (fun _ h => h.elim)
  rw [show wa.heap.size = w.heap.size + 1 from hza] at hg1
  rw [show wb.heap.size = w.heap.size + 2 by omega] at hg2
  rw [show wc.heap.size = w.heap.size + 3 by omega] at hgZ
  have hz3 : w3.heap.size = w.heap.size + 4 := by omega
  clear hba hga hza hbb hgb hzb hbc hgc hzc hb3 hs3 fb fc f3
  have hS : ∀ w', Fr (fun _ => False) w3 w' → w'.cell? ⟨w.heap.size + 1, 0, none⟩ = some (.int .i64 c1) ∧ w'.cell? ⟨w.heap.size + 1, 1, none⟩ = some (.int .i64 s1) ∧ w'.cell? ⟨w.heap.size + 1, 2, none⟩ = some (.slice Ao1 op1.length co1) ∧ w'.cell? ⟨w.heap.size + 1, 3, none⟩ = some (.slice As1 sg1.length cs1) ∧ w'.cell? ⟨w.heap.size + 2, 0, none⟩ = some (.int .i64 c2) ∧ w'.cell? ⟨w.heap.size + 2, 1, none⟩ = some (.int .i64 s2) ∧ w'.cell? ⟨w.heap.size + 2, 2, none⟩ = some (.slice Ao2 op2.length co2) ∧ w'.cell? ⟨w.heap.size + 2, 3, none⟩ = some (.slice As2 sg2.length cs2) := fun w' hf => by
    have h1 := hf.blk hg1 (fun h => h)
    have h2 := hf.blk hg2 (fun h => h)
    simp [World.cell?, h1, h2]
  have HA : ∀ w1, Fr (fun _ => False) w3 w1 → Calls Try.prog 21 #[.agg #[.int .i64 c1, .int .i64 s1, .slice Ao1 op1.length co1, .slice As1 sg1.length cs1]] w1 fun e w4 => ∃ A2 y2, e = .returned (.slice A2 (bodyA c1 s1 op1 sg1).length y2) ∧ (w4.cell? ⟨w.heap.size + 1, 0, none⟩ = some (.int .i64 c1) ∧ w4.cell? ⟨w.heap.size + 1, 1, none⟩ = some (.int .i64 s1) ∧ w4.cell? ⟨w.heap.size + 1, 2, none⟩ = some (.slice Ao1 op1.length co1) ∧ w4.cell? ⟨w.heap.size + 1, 3, none⟩ = some (.slice As1 sg1.length cs1) ∧ w4.cell? ⟨w.heap.size + 2, 0, none⟩ = some (.int .i64 c2) ∧ w4.cell? ⟨w.heap.size + 2, 1, none⟩ = some (.int .i64 s2) ∧ w4.cell? ⟨w.heap.size + 2, 2, none⟩ = some (.slice Ao2 op2.length co2) ∧ w4.cell? ⟨w.heap.size + 2, 3, none⟩ = some (.slice As2 sg2.length cs2)) ∧ Aside0 (Fr (fun _ => False) w3 w4 ∧ Rd w4 A2 (bodyA c1 s1 op1 sg1)) := by
    intro w1 hf1
    have F := F3.trans hf1 (fun _ h => h.elim)
    refine (body_calls c1 s1 Ao1 co1 op1 As1 cs1 sg1 w1 (HH.out.1.lies F) hco1 (HH.out.2.1.lies F) hcs1 HH.out.2.2.1).mono ?_
    rintro e w4 ⟨A2, y2, rfl, hc2, hO, hb⟩
    have f4 := hf1.trans (Fr.of_below hb (fun _ => False)) (fun _ h => h.elim)
    exact ⟨A2, y2, rfl, hS _ f4, ⟨f4, QB.rd (q_of_own hO)⟩⟩
  have HB : ∀ w1 A2, Aside0 (Fr (fun _ => False) w3 w1 ∧ Rd w1 A2 (bodyA c1 s1 op1 sg1)) → Calls Try.prog 21 #[.agg #[.int .i64 c2, .int .i64 s2, .slice Ao2 op2.length co2, .slice As2 sg2.length cs2]] w1 fun e w4 => ∃ A3 y3, e = .returned (.slice A3 (bodyA c2 s2 op2 sg2).length y3) ∧ (w4.cell? ⟨w.heap.size + 1, 0, none⟩ = some (.int .i64 c1) ∧ w4.cell? ⟨w.heap.size + 1, 1, none⟩ = some (.int .i64 s1) ∧ w4.cell? ⟨w.heap.size + 1, 2, none⟩ = some (.slice Ao1 op1.length co1) ∧ w4.cell? ⟨w.heap.size + 1, 3, none⟩ = some (.slice As1 sg1.length cs1) ∧ w4.cell? ⟨w.heap.size + 2, 0, none⟩ = some (.int .i64 c2) ∧ w4.cell? ⟨w.heap.size + 2, 1, none⟩ = some (.int .i64 s2) ∧ w4.cell? ⟨w.heap.size + 2, 2, none⟩ = some (.slice Ao2 op2.length co2) ∧ w4.cell? ⟨w.heap.size + 2, 3, none⟩ = some (.slice As2 sg2.length cs2)) ∧ Aside0 (Fr (fun _ => False) w3 w4 ∧ Rd w4 A2 (bodyA c1 s1 op1 sg1) ∧ Rd w4 A3 (bodyA c2 s2 op2 sg2)) := by
    intro w1 A2 H
    have F := F3.trans H.out.1 (fun _ h => h.elim)
    refine (body_calls c2 s2 Ao2 co2 op2 As2 cs2 sg2 w1 (HH.out.2.2.2.1.lies F) hco2 (HH.out.2.2.2.2.1.lies F) hcs2 HH.out.2.2.2.2.2.1).mono ?_
    rintro e w4 ⟨A3, y3, rfl, hc3, hO, hb⟩
    have fb := Fr.of_below hb (fun _ => False)
    have f4 := H.out.1.trans fb (fun _ h => h.elim)
    exact ⟨A3, y3, rfl, hS _ f4, ⟨f4, H.out.2.lies fb, QB.rd (q_of_own hO)⟩⟩
  have HC : ∀ w1 A2 y2 A3 y3, Aside0 (Fr (fun _ => False) w3 w1 ∧ Rd w1 A2 (bodyA c1 s1 op1 sg1) ∧ Rd w1 A3 (bodyA c2 s2 op2 sg2)) → Calls Try.prog 39 #[.slice A2 (bodyA c1 s1 op1 sg1).length y2, .slice A3 (bodyA c2 s2 op2 sg2).length y3] w1 fun e w4 => e = .returned (.int .i64 cm) ∧ (w4.cell? ⟨w.heap.size + 1, 0, none⟩ = some (.int .i64 c1) ∧ w4.cell? ⟨w.heap.size + 1, 1, none⟩ = some (.int .i64 s1) ∧ w4.cell? ⟨w.heap.size + 1, 2, none⟩ = some (.slice Ao1 op1.length co1) ∧ w4.cell? ⟨w.heap.size + 1, 3, none⟩ = some (.slice As1 sg1.length cs1) ∧ w4.cell? ⟨w.heap.size + 2, 0, none⟩ = some (.int .i64 c2) ∧ w4.cell? ⟨w.heap.size + 2, 1, none⟩ = some (.int .i64 s2) ∧ w4.cell? ⟨w.heap.size + 2, 2, none⟩ = some (.slice Ao2 op2.length co2) ∧ w4.cell? ⟨w.heap.size + 2, 3, none⟩ = some (.slice As2 sg2.length cs2)) ∧ Aside0 (Fr (fun _ => False) w3 w4) := by
    intro w1 A2 y2 A3 y3 H
    have hb := bcmp_calls A2 y2 (bodyA c1 s1 op1 sg1) A3 y3 (bodyA c2 s2 op2 sg2) w1 H.out.2.1 H.out.2.2
    rw [hcmm] at hb
    refine hb.mono ?_
    rintro e w4 ⟨rfl, hb⟩
    have f4 := H.out.1.trans (Fr.of_below hb (fun _ => False)) (fun _ h => h.elim)
    exact ⟨rfl, hS _ f4, ⟨f4⟩⟩
  have hs3' := hS _ (Fr.refl _ _)
  have HA := Aside0.mk HA
  have HB := Aside0.mk HB
  have HC := Aside0.mk HC
  have HN := Aside0.mk (And.intro F3 (And.intro hgP (And.intro hg1 (And.intro hg2 (And.intro hgZ hz3)))))
  clear hS F3 hgP hg1 hg2 hgZ hz3 hcmm hcm
  go_wp2_with (fail)
  go_region_held3 (fun w' => w'.cell? ⟨w.heap.size + 1, 0, none⟩ = some (.int .i64 c1) ∧ w'.cell? ⟨w.heap.size + 1, 1, none⟩ = some (.int .i64 s1) ∧ w'.cell? ⟨w.heap.size + 1, 2, none⟩ = some (.slice Ao1 op1.length co1) ∧ w'.cell? ⟨w.heap.size + 1, 3, none⟩ = some (.slice As1 sg1.length cs1) ∧ w'.cell? ⟨w.heap.size + 2, 0, none⟩ = some (.int .i64 c2) ∧ w'.cell? ⟨w.heap.size + 2, 1, none⟩ = some (.int .i64 s2) ∧ w'.cell? ⟨w.heap.size + 2, 2, none⟩ = some (.slice Ao2 op2.length co2) ∧ w'.cell? ⟨w.heap.size + 2, 3, none⟩ = some (.slice As2 sg2.length cs2)) (first | exact hs3' | exact hs4 | exact hs5 | exact hs6)
    (first | (go_at_call 39; refine (HC.out _ _ _ _ _ H5).mono ?_; rintro e w6 ⟨rfl, hs6, H6⟩) | (go_at_call 21; refine (HB.out _ _ H4).mono ?_; rintro e w5 ⟨A3, e3, rfl, hs5, H5⟩) | (go_at_call 21; refine (HA.out _ (Fr.refl _ _).of_drew).mono ?_; rintro e w4 ⟨A2, e2, rfl, hs4, H4⟩))
  clear HA HB HC hs3' hs4 hs5 H4 H5
  have hP6 := H6.out.blk HN.out.2.1 (fun h => h)
  have h16 := H6.out.blk HN.out.2.2.1 (fun h => h)
  have h26 := H6.out.blk HN.out.2.2.2.1 (fun h => h)
  have hZ6 := H6.out.blk HN.out.2.2.2.2.1 (fun h => h)
  have F6 := HN.out.1.trans H6.out (fun _ h => h.elim)
  have hz6 : w.heap.size + 4 ≤ w6.heap.size := by have := HN.out.2.2.2.2.2; have := H6.out.size; omega
  have y : w6.cell? ⟨w.heap.size + 1, 0, none⟩ = some (.int .i64 c1) ∧ w6.cell? ⟨w.heap.size + 1, 1, none⟩ = some (.int .i64 s1) ∧ w6.cell? ⟨w.heap.size + 1, 2, none⟩ = some (.slice Ao1 op1.length co1) ∧ w6.cell? ⟨w.heap.size + 1, 3, none⟩ = some (.slice As1 sg1.length cs1) ∧ w6.cell? ⟨w.heap.size + 2, 0, none⟩ = some (.int .i64 c2) ∧ w6.cell? ⟨w.heap.size + 2, 1, none⟩ = some (.int .i64 s2) ∧ w6.cell? ⟨w.heap.size + 2, 2, none⟩ = some (.slice Ao2 op2.length co2) ∧ w6.cell? ⟨w.heap.size + 2, 3, none⟩ = some (.slice As2 sg2.length cs2) := by simp [World.cell?, h16, h26]
  obtain ⟨y0, y1, y2, y3, y4, y5, y6, y7⟩ := y
  clear hs6
  go_wp2_with (first | ((with_reducible refine gate_store (p := 6) rfl ?_); refine Aside0.out ?_))
  refine ⟨?_⟩
  refine wpList_store_abs (by rfl) 31 _ _ (by rfl) (w.heap.size + 1) #[.int .i64 c2, .int .i64 s2, .slice Ao2 op2.length co2, .slice As2 sg2.length cs2] (by rfl) (by rfl) 31 #[.int .i64 c1, .int .i64 s1, .slice Ao1 op1.length co1, .slice As1 sg1.length cs1] h16 (by kernel_rfl) (by rfl) (by simp [Value.oneCell']) ?_
  intro w7 hf7 hz7 hg7
  clear y0 y1 y2 y3 y4 y5 y6 y7
  go_wp2_with (first | ((with_reducible refine gate_store (p := 7) rfl ?_); refine Aside0.out ?_))
  refine ⟨?_⟩
  refine wpList_store_abs (by rfl) 31 _ _ (by rfl) (w.heap.size + 2) #[.int .i64 c1, .int .i64 s1, .slice Ao1 op1.length co1, .slice As1 sg1.length cs1] (by rfl) (by rfl) 31 #[.int .i64 c2, .int .i64 s2, .slice Ao2 op2.length co2, .slice As2 sg2.length cs2] (hf7.blk h26 (fun e => by omega)) (by kernel_rfl) (by rfl) (by simp [Value.oneCell']) ?_
  intro w8 hf8 hz8 hY8
  have hX8 := hf8.blk hg7 (fun e => by omega)
  have hP8 := hf8.blk (hf7.blk hP6 (fun e => by omega)) (fun e => by omega)
  have hZ8 := hf8.blk (hf7.blk hZ6 (fun e => by omega)) (fun e => by omega)
  have F8 : Fr (fun _ => False) w w8 := (F6.trans hf7 (fun k hk => .inr (by omega))).trans hf8 (fun k hk => .inr (by omega))
  have hz88 : w.heap.size + 4 ≤ w8.heap.size := by omega
  clear hf7 hz7 hg7 hf8 hz8
  clear hP6 h16 h26 hZ6 F6 hz6 H6 HN
  have hS : ∀ w', Fr (fun _ => False) w8 w' → w'.cell? ⟨w.heap.size, 0, none⟩ = some (.int .i64 kind) ∧ w'.cell? ⟨w.heap.size, 1, none⟩ = some (.int .i64 view) ∧ w'.cell? ⟨w.heap.size, 2, none⟩ = some (.int .i64 turn) ∧ w'.cell? ⟨w.heap.size, 3, none⟩ = some (.int .i64 slot) ∧ w'.cell? ⟨w.heap.size, 4, none⟩ = some (.int .i64 signer) ∧ w'.cell? ⟨w.heap.size + 1, 0, none⟩ = some (.int .i64 c2) ∧ w'.cell? ⟨w.heap.size + 1, 1, none⟩ = some (.int .i64 s2) ∧ w'.cell? ⟨w.heap.size + 1, 2, none⟩ = some (.slice Ao2 op2.length co2) ∧ w'.cell? ⟨w.heap.size + 1, 3, none⟩ = some (.slice As2 sg2.length cs2) ∧ w'.cell? ⟨w.heap.size + 2, 0, none⟩ = some (.int .i64 c1) ∧ w'.cell? ⟨w.heap.size + 2, 1, none⟩ = some (.int .i64 s1) ∧ w'.cell? ⟨w.heap.size + 2, 2, none⟩ = some (.slice Ao1 op1.length co1) ∧ w'.cell? ⟨w.heap.size + 2, 3, none⟩ = some (.slice As1 sg1.length cs1) := fun w' hf => by
    have h0 := hf.blk hP8 (fun h => h)
    have h1 := hf.blk hX8 (fun h => h)
    have h2 := hf.blk hY8 (fun h => h)
    simp [World.cell?, h0, h1, h2]
  have HD : ∀ w1, Fr (fun _ => False) w8 w1 → Calls Try.prog 24 #[.agg #[.int .i64 c2, .int .i64 s2, .slice Ao2 op2.length co2, .slice As2 sg2.length cs2]] w1 fun e w2 => ∃ B1 d1 B2 d2, e = .returned (.agg #[.int .i64 c2, .int .i64 s2, .slice B1 op2.length d1, .slice B2 sg2.length d2]) ∧ (w2.cell? ⟨w.heap.size, 0, none⟩ = some (.int .i64 kind) ∧ w2.cell? ⟨w.heap.size, 1, none⟩ = some (.int .i64 view) ∧ w2.cell? ⟨w.heap.size, 2, none⟩ = some (.int .i64 turn) ∧ w2.cell? ⟨w.heap.size, 3, none⟩ = some (.int .i64 slot) ∧ w2.cell? ⟨w.heap.size, 4, none⟩ = some (.int .i64 signer) ∧ w2.cell? ⟨w.heap.size + 1, 0, none⟩ = some (.int .i64 c2) ∧ w2.cell? ⟨w.heap.size + 1, 1, none⟩ = some (.int .i64 s2) ∧ w2.cell? ⟨w.heap.size + 1, 2, none⟩ = some (.slice Ao2 op2.length co2) ∧ w2.cell? ⟨w.heap.size + 1, 3, none⟩ = some (.slice As2 sg2.length cs2) ∧ w2.cell? ⟨w.heap.size + 2, 0, none⟩ = some (.int .i64 c1) ∧ w2.cell? ⟨w.heap.size + 2, 1, none⟩ = some (.int .i64 s1) ∧ w2.cell? ⟨w.heap.size + 2, 2, none⟩ = some (.slice Ao1 op1.length co1) ∧ w2.cell? ⟨w.heap.size + 2, 3, none⟩ = some (.slice As1 sg1.length cs1)) ∧ Aside0 (Fr (fun _ => False) w1 w2 ∧ Fr (fun _ => False) w8 w2 ∧ Lo (w.heap.size + 4) w2 B1 d1 op2 ∧ Lo (w.heap.size + 4) w2 B2 d2 sg2) := by
    intro w1 hf1
    have F := F8.trans hf1 (fun _ h => h.elim)
    refine (clone_calls c2 s2 Ao2 co2 op2 As2 cs2 sg2 w1 (HH.out.2.2.2.1.lies F) hco2 (HH.out.2.2.2.2.1.lies F) hcs2 HH.out.2.2.2.2.2.1).mono ?_
    rintro e w2 ⟨B1, d1, B2, d2, rfl, h1, h2, o1, o2, hb⟩
    have fb := Fr.of_below hb (fun _ => False)
    have f2 := hf1.trans fb (fun _ h => h.elim)
    exact ⟨B1, d1, B2, d2, rfl, hS _ f2, ⟨fb, f2, ⟨⟨h1, fun k hk => (q_typed (q_of_own o1) k hk).2⟩, fun k hk => by have := o1.base k hk; have := hf1.size; omega⟩, ⟨⟨h2, fun k hk => (q_typed (q_of_own o2) k hk).2⟩, fun k hk => by have := o2.base k hk; have := hf1.size; omega⟩⟩⟩
  have HE : ∀ w1, Fr (fun _ => False) w8 w1 → Calls Try.prog 24 #[.agg #[.int .i64 c1, .int .i64 s1, .slice Ao1 op1.length co1, .slice As1 sg1.length cs1]] w1 fun e w2 => ∃ B1 d1 B2 d2, e = .returned (.agg #[.int .i64 c1, .int .i64 s1, .slice B1 op1.length d1, .slice B2 sg1.length d2]) ∧ (w2.cell? ⟨w.heap.size, 0, none⟩ = some (.int .i64 kind) ∧ w2.cell? ⟨w.heap.size, 1, none⟩ = some (.int .i64 view) ∧ w2.cell? ⟨w.heap.size, 2, none⟩ = some (.int .i64 turn) ∧ w2.cell? ⟨w.heap.size, 3, none⟩ = some (.int .i64 slot) ∧ w2.cell? ⟨w.heap.size, 4, none⟩ = some (.int .i64 signer) ∧ w2.cell? ⟨w.heap.size + 1, 0, none⟩ = some (.int .i64 c2) ∧ w2.cell? ⟨w.heap.size + 1, 1, none⟩ = some (.int .i64 s2) ∧ w2.cell? ⟨w.heap.size + 1, 2, none⟩ = some (.slice Ao2 op2.length co2) ∧ w2.cell? ⟨w.heap.size + 1, 3, none⟩ = some (.slice As2 sg2.length cs2) ∧ w2.cell? ⟨w.heap.size + 2, 0, none⟩ = some (.int .i64 c1) ∧ w2.cell? ⟨w.heap.size + 2, 1, none⟩ = some (.int .i64 s1) ∧ w2.cell? ⟨w.heap.size + 2, 2, none⟩ = some (.slice Ao1 op1.length co1) ∧ w2.cell? ⟨w.heap.size + 2, 3, none⟩ = some (.slice As1 sg1.length cs1)) ∧ Aside0 (Fr (fun _ => False) w1 w2 ∧ Fr (fun _ => False) w8 w2 ∧ Lo (w.heap.size + 4) w2 B1 d1 op1 ∧ Lo (w.heap.size + 4) w2 B2 d2 sg1) := by
    intro w1 hf1
    have F := F8.trans hf1 (fun _ h => h.elim)
    refine (clone_calls c1 s1 Ao1 co1 op1 As1 cs1 sg1 w1 (HH.out.1.lies F) hco1 (HH.out.2.1.lies F) hcs1 HH.out.2.2.1).mono ?_
    rintro e w2 ⟨B1, d1, B2, d2, rfl, h1, h2, o1, o2, hb⟩
    have fb := Fr.of_below hb (fun _ => False)
    have f2 := hf1.trans fb (fun _ h => h.elim)
    exact ⟨B1, d1, B2, d2, rfl, hS _ f2, ⟨fb, f2, ⟨⟨h1, fun k hk => (q_typed (q_of_own o1) k hk).2⟩, fun k hk => by have := o1.base k hk; have := hf1.size; omega⟩, ⟨⟨h2, fun k hk => (q_typed (q_of_own o2) k hk).2⟩, fun k hk => by have := o2.base k hk; have := hf1.size; omega⟩⟩⟩
  have HT : ∀ w1, Fr (fun _ => False) w8 w1 → Calls Try.prog 25 #[.slice T2 t2.length k2] w1 fun e w2 => ∃ B d, e = .returned (.slice B t2.length d) ∧ (w2.cell? ⟨w.heap.size, 0, none⟩ = some (.int .i64 kind) ∧ w2.cell? ⟨w.heap.size, 1, none⟩ = some (.int .i64 view) ∧ w2.cell? ⟨w.heap.size, 2, none⟩ = some (.int .i64 turn) ∧ w2.cell? ⟨w.heap.size, 3, none⟩ = some (.int .i64 slot) ∧ w2.cell? ⟨w.heap.size, 4, none⟩ = some (.int .i64 signer) ∧ w2.cell? ⟨w.heap.size + 1, 0, none⟩ = some (.int .i64 c2) ∧ w2.cell? ⟨w.heap.size + 1, 1, none⟩ = some (.int .i64 s2) ∧ w2.cell? ⟨w.heap.size + 1, 2, none⟩ = some (.slice Ao2 op2.length co2) ∧ w2.cell? ⟨w.heap.size + 1, 3, none⟩ = some (.slice As2 sg2.length cs2) ∧ w2.cell? ⟨w.heap.size + 2, 0, none⟩ = some (.int .i64 c1) ∧ w2.cell? ⟨w.heap.size + 2, 1, none⟩ = some (.int .i64 s1) ∧ w2.cell? ⟨w.heap.size + 2, 2, none⟩ = some (.slice Ao1 op1.length co1) ∧ w2.cell? ⟨w.heap.size + 2, 3, none⟩ = some (.slice As1 sg1.length cs1)) ∧ Aside0 (Fr (fun _ => False) w1 w2 ∧ Fr (fun _ => False) w8 w2 ∧ Lo (w.heap.size + 4) w2 B d t2) := by
    intro w1 hf1
    have F := F8.trans hf1 (fun _ h => h.elim)
    refine (sclone_calls T2 k2 t2 w1 (HH.out.2.2.2.2.2.2.2.1.2.lies F) HH.out.2.2.2.2.2.2.2.1.1 HH.out.2.2.2.2.2.2.2.2.2).mono ?_
    rintro e w2 ⟨B, d, rfl, h1, o1, hb⟩
    have fb := Fr.of_below hb (fun _ => False)
    have f2 := hf1.trans fb (fun _ h => h.elim)
    exact ⟨B, d, rfl, hS _ f2, ⟨fb, f2, ⟨⟨h1, fun k hk => (q_typed (q_of_own o1) k hk).2⟩, fun k hk => by have := o1.base k hk; have := hf1.size; omega⟩⟩⟩
  have HU : ∀ w1, Fr (fun _ => False) w8 w1 → Calls Try.prog 25 #[.slice T1 t1.length k1] w1 fun e w2 => ∃ B d, e = .returned (.slice B t1.length d) ∧ (w2.cell? ⟨w.heap.size, 0, none⟩ = some (.int .i64 kind) ∧ w2.cell? ⟨w.heap.size, 1, none⟩ = some (.int .i64 view) ∧ w2.cell? ⟨w.heap.size, 2, none⟩ = some (.int .i64 turn) ∧ w2.cell? ⟨w.heap.size, 3, none⟩ = some (.int .i64 slot) ∧ w2.cell? ⟨w.heap.size, 4, none⟩ = some (.int .i64 signer) ∧ w2.cell? ⟨w.heap.size + 1, 0, none⟩ = some (.int .i64 c2) ∧ w2.cell? ⟨w.heap.size + 1, 1, none⟩ = some (.int .i64 s2) ∧ w2.cell? ⟨w.heap.size + 1, 2, none⟩ = some (.slice Ao2 op2.length co2) ∧ w2.cell? ⟨w.heap.size + 1, 3, none⟩ = some (.slice As2 sg2.length cs2) ∧ w2.cell? ⟨w.heap.size + 2, 0, none⟩ = some (.int .i64 c1) ∧ w2.cell? ⟨w.heap.size + 2, 1, none⟩ = some (.int .i64 s1) ∧ w2.cell? ⟨w.heap.size + 2, 2, none⟩ = some (.slice Ao1 op1.length co1) ∧ w2.cell? ⟨w.heap.size + 2, 3, none⟩ = some (.slice As1 sg1.length cs1)) ∧ w2.heap[w.heap.size + 3]? = some (.cells Z48 48 (0, 0)) ∧ Aside0 (Fr (fun _ => False) w1 w2 ∧ Fr (fun _ => False) w8 w2 ∧ Lo (w.heap.size + 4) w2 B d t1) := by
    intro w1 hf1
    have F := F8.trans hf1 (fun _ h => h.elim)
    refine (sclone_calls T1 k1 t1 w1 (HH.out.2.2.2.2.2.2.1.2.lies F) HH.out.2.2.2.2.2.2.1.1 HH.out.2.2.2.2.2.2.2.2.1).mono ?_
    rintro e w2 ⟨B, d, rfl, h1, o1, hb⟩
    have fb := Fr.of_below hb (fun _ => False)
    have f2 := hf1.trans fb (fun _ h => h.elim)
    exact ⟨B, d, rfl, hS _ f2, f2.blk hZ8 (fun h => h), ⟨fb, f2, ⟨⟨h1, fun k hk => (q_typed (q_of_own o1) k hk).2⟩, fun k hk => by have := o1.base k hk; have := hf1.size; omega⟩⟩⟩
  have HS9 : ∀ u u', (u.cell? ⟨w.heap.size, 0, none⟩ = some (.int .i64 kind) ∧ u.cell? ⟨w.heap.size, 1, none⟩ = some (.int .i64 view) ∧ u.cell? ⟨w.heap.size, 2, none⟩ = some (.int .i64 turn) ∧ u.cell? ⟨w.heap.size, 3, none⟩ = some (.int .i64 slot) ∧ u.cell? ⟨w.heap.size, 4, none⟩ = some (.int .i64 signer) ∧ u.cell? ⟨w.heap.size + 1, 0, none⟩ = some (.int .i64 c2) ∧ u.cell? ⟨w.heap.size + 1, 1, none⟩ = some (.int .i64 s2) ∧ u.cell? ⟨w.heap.size + 1, 2, none⟩ = some (.slice Ao2 op2.length co2) ∧ u.cell? ⟨w.heap.size + 1, 3, none⟩ = some (.slice As2 sg2.length cs2) ∧ u.cell? ⟨w.heap.size + 2, 0, none⟩ = some (.int .i64 c1) ∧ u.cell? ⟨w.heap.size + 2, 1, none⟩ = some (.int .i64 s1) ∧ u.cell? ⟨w.heap.size + 2, 2, none⟩ = some (.slice Ao1 op1.length co1) ∧ u.cell? ⟨w.heap.size + 2, 3, none⟩ = some (.slice As1 sg1.length cs1)) → Fr (fun k => k = w.heap.size + 3) u u' → u'.cell? ⟨w.heap.size, 0, none⟩ = some (.int .i64 kind) ∧ u'.cell? ⟨w.heap.size, 1, none⟩ = some (.int .i64 view) ∧ u'.cell? ⟨w.heap.size, 2, none⟩ = some (.int .i64 turn) ∧ u'.cell? ⟨w.heap.size, 3, none⟩ = some (.int .i64 slot) ∧ u'.cell? ⟨w.heap.size, 4, none⟩ = some (.int .i64 signer) ∧ u'.cell? ⟨w.heap.size + 1, 0, none⟩ = some (.int .i64 c2) ∧ u'.cell? ⟨w.heap.size + 1, 1, none⟩ = some (.int .i64 s2) ∧ u'.cell? ⟨w.heap.size + 1, 2, none⟩ = some (.slice Ao2 op2.length co2) ∧ u'.cell? ⟨w.heap.size + 1, 3, none⟩ = some (.slice As2 sg2.length cs2) ∧ u'.cell? ⟨w.heap.size + 2, 0, none⟩ = some (.int .i64 c1) ∧ u'.cell? ⟨w.heap.size + 2, 1, none⟩ = some (.int .i64 s1) ∧ u'.cell? ⟨w.heap.size + 2, 2, none⟩ = some (.slice Ao1 op1.length co1) ∧ u'.cell? ⟨w.heap.size + 2, 3, none⟩ = some (.slice As1 sg1.length cs1) := fun u u' h hf => by
    obtain ⟨h0, h1, h2, h3, h4, h5, h6, h7, h8, h9, h10, h11, h12⟩ := h
    exact ⟨hf.cell h0 (fun e => by simp only at e; omega), hf.cell h1 (fun e => by simp only at e; omega), hf.cell h2 (fun e => by simp only at e; omega), hf.cell h3 (fun e => by simp only at e; omega), hf.cell h4 (fun e => by simp only at e; omega), hf.cell h5 (fun e => by simp only at e; omega), hf.cell h6 (fun e => by simp only at e; omega), hf.cell h7 (fun e => by simp only at e; omega), hf.cell h8 (fun e => by simp only at e; omega), hf.cell h9 (fun e => by simp only at e; omega), hf.cell h10 (fun e => by simp only at e; omega), hf.cell h11 (fun e => by simp only at e; omega), hf.cell h12 (fun e => by simp only at e; omega)⟩
  have hs8 := hS _ (Fr.refl _ _)
  have HD := Aside0.mk HD
  have HE := Aside0.mk HE
  have HT := Aside0.mk HT
  have HU := Aside0.mk HU
  have HS9 := Aside0.mk HS9
  have HF := Aside0.mk (And.intro F8 hz88)
  clear hS F8 hX8 hY8 hP8 hZ8 hz88
  go_wp2_with (fail)
  refine wp_region_held_drew (S := (fun w' => w'.cell? ⟨w.heap.size, 0, none⟩ = some (.int .i64 kind) ∧ w'.cell? ⟨w.heap.size, 1, none⟩ = some (.int .i64 view) ∧ w'.cell? ⟨w.heap.size, 2, none⟩ = some (.int .i64 turn) ∧ w'.cell? ⟨w.heap.size, 3, none⟩ = some (.int .i64 slot) ∧ w'.cell? ⟨w.heap.size, 4, none⟩ = some (.int .i64 signer) ∧ w'.cell? ⟨w.heap.size + 1, 0, none⟩ = some (.int .i64 c2) ∧ w'.cell? ⟨w.heap.size + 1, 1, none⟩ = some (.int .i64 s2) ∧ w'.cell? ⟨w.heap.size + 1, 2, none⟩ = some (.slice Ao2 op2.length co2) ∧ w'.cell? ⟨w.heap.size + 1, 3, none⟩ = some (.slice As2 sg2.length cs2) ∧ w'.cell? ⟨w.heap.size + 2, 0, none⟩ = some (.int .i64 c1) ∧ w'.cell? ⟨w.heap.size + 2, 1, none⟩ = some (.int .i64 s1) ∧ w'.cell? ⟨w.heap.size + 2, 2, none⟩ = some (.slice Ao1 op1.length co1) ∧ w'.cell? ⟨w.heap.size + 2, 3, none⟩ = some (.slice As1 sg1.length cs1))) (by kernel_rfl) hs8 (fun hHeld => ?_)
  refine wpAnyH_take (i := 0) (oi := ⟨some 21, _, _, _, _, _⟩) (v := (.pointer (some ⟨w.heap.size, 0, none⟩))) rfl (by kernel_rfl) (by kernel_rfl) (by kernel_rfl) (fun _ _ _ h => h) (Or.inl ⟨by rfl, by (intro w' hSw; (try dsimp only at hSw); go_simp)⟩) (by assumption) ?_
  try simp only [Act.put, List.setIfInBounds_toArray, List.set_cons_zero, List.set_cons_succ]
  refine wpAnyH_take (i := 1) (oi := ⟨some 22, _, _, _, _, _⟩) (v := (.int .i64 kind)) rfl (by kernel_rfl) (by kernel_rfl) (by kernel_rfl) (fun _ _ _ h => h) (Or.inl ⟨by rfl, by (intro w' hSw; (try dsimp only at hSw); go_simp)⟩) (by assumption) ?_
  try simp only [Act.put, List.setIfInBounds_toArray, List.set_cons_zero, List.set_cons_succ]
  refine wpAnyH_take (i := 2) (oi := ⟨some 23, _, _, _, _, _⟩) (v := (.pointer (some ⟨w.heap.size, 1, none⟩))) rfl (by kernel_rfl) (by kernel_rfl) (by kernel_rfl) (fun _ _ _ h => h) (Or.inl ⟨by rfl, by (intro w' hSw; (try dsimp only at hSw); go_simp)⟩) (by assumption) ?_
  try simp only [Act.put, List.setIfInBounds_toArray, List.set_cons_zero, List.set_cons_succ]
  refine wpAnyH_take (i := 3) (oi := ⟨some 24, _, _, _, _, _⟩) (v := (.agg #[.int .i64 view, .int .i64 turn])) rfl (by kernel_rfl) (by kernel_rfl) (by kernel_rfl) (fun _ _ _ h => h) (Or.inl ⟨by rfl, by (intro w' hSw; (try dsimp only at hSw); go_simp)⟩) (by assumption) ?_
  try simp only [Act.put, List.setIfInBounds_toArray, List.set_cons_zero, List.set_cons_succ]
  refine wpAnyH_take (i := 4) (oi := ⟨some 25, _, _, _, _, _⟩) (v := (.pointer (some ⟨w.heap.size, 3, none⟩))) rfl (by kernel_rfl) (by kernel_rfl) (by kernel_rfl) (fun _ _ _ h => h) (Or.inl ⟨by rfl, by (intro w' hSw; (try dsimp only at hSw); go_simp)⟩) (by assumption) ?_
  try simp only [Act.put, List.setIfInBounds_toArray, List.set_cons_zero, List.set_cons_succ]
  refine wpAnyH_take (i := 5) (oi := ⟨some 26, _, _, _, _, _⟩) (v := (.int .i64 slot)) rfl (by kernel_rfl) (by kernel_rfl) (by kernel_rfl) (fun _ _ _ h => h) (Or.inl ⟨by rfl, by (intro w' hSw; (try dsimp only at hSw); go_simp)⟩) (by assumption) ?_
  try simp only [Act.put, List.setIfInBounds_toArray, List.set_cons_zero, List.set_cons_succ]
  refine wpAnyH_take (i := 6) (oi := ⟨some 27, _, _, _, _, _⟩) (v := (.pointer (some ⟨w.heap.size, 4, none⟩))) rfl (by kernel_rfl) (by kernel_rfl) (by kernel_rfl) (fun _ _ _ h => h) (Or.inl ⟨by rfl, by (intro w' hSw; (try dsimp only at hSw); go_simp)⟩) (by assumption) ?_
  try simp only [Act.put, List.setIfInBounds_toArray, List.set_cons_zero, List.set_cons_succ]
  refine wpAnyH_take (i := 7) (oi := ⟨some 28, _, _, _, _, _⟩) (v := (.int .i64 signer)) rfl (by kernel_rfl) (by kernel_rfl) (by kernel_rfl) (fun _ _ _ h => h) (Or.inl ⟨by rfl, by (intro w' hSw; (try dsimp only at hSw); go_simp)⟩) (by assumption) ?_
  try simp only [Act.put, List.setIfInBounds_toArray, List.set_cons_zero, List.set_cons_succ]
  refine wpAnyH_take (i := 8) (oi := ⟨some 29, _, _, _, _, _⟩) (v := (.agg #[.int .i64 c2, .int .i64 s2, .slice Ao2 op2.length co2, .slice As2 sg2.length cs2])) rfl (by kernel_rfl) (by kernel_rfl) (by kernel_rfl) (fun _ _ _ h => h) (Or.inl ⟨by rfl, by (intro w' hSw; (try dsimp only at hSw); go_simp)⟩) (by assumption) ?_
  try simp only [Act.put, List.setIfInBounds_toArray, List.set_cons_zero, List.set_cons_succ]
  refine wpAnyH_take (i := 10) (oi := ⟨some 31, _, _, _, _, _⟩) (v := (.slice T2 t2.length k2)) rfl (by kernel_rfl) (by kernel_rfl) (by kernel_rfl) (fun _ _ _ h => h) (Or.inl ⟨by rfl, by (intro w' hSw; (try dsimp only at hSw); go_simp)⟩) (by assumption) ?_
  try simp only [Act.put, List.setIfInBounds_toArray, List.set_cons_zero, List.set_cons_succ]
  refine wpAnyH_take (i := 12) (oi := ⟨some 33, _, _, _, _, _⟩) (v := (.agg #[.int .i64 c1, .int .i64 s1, .slice Ao1 op1.length co1, .slice As1 sg1.length cs1])) rfl (by kernel_rfl) (by kernel_rfl) (by kernel_rfl) (fun _ _ _ h => h) (Or.inl ⟨by rfl, by (intro w' hSw; (try dsimp only at hSw); go_simp)⟩) (by assumption) ?_
  try simp only [Act.put, List.setIfInBounds_toArray, List.set_cons_zero, List.set_cons_succ]
  refine wpAnyH_take (i := 14) (oi := ⟨some 35, _, _, _, _, _⟩) (v := (.slice T1 t1.length k1)) rfl (by kernel_rfl) (by kernel_rfl) (by kernel_rfl) (fun _ _ _ h => h) (Or.inl ⟨by rfl, by (intro w' hSw; (try dsimp only at hSw); go_simp)⟩) (by assumption) ?_
  try simp only [Act.put, List.setIfInBounds_toArray, List.set_cons_zero, List.set_cons_succ]
  refine wpAnyH_ready (rs := [9]) (by kernel_rfl) (by simp) ?_
  refine AllReadyH.cons (o := ⟨some 30, _, _, _, _, _⟩) rfl (fun K hK => ?_) AllReadyH.nil
  go_simp
  go_at_call 24
  refine (HD.out _ (Fr.refl _ _).of_drew).mono ?_
  rintro e w9 ⟨B1, d1, B2, d2, rfl, hs9, H9⟩
  refine hK.out _ _ hs9 (fun hHeld => ?_)
  try simp only [Act.put, List.setIfInBounds_toArray, List.set_cons_zero, List.set_cons_succ]
  refine wpAnyH_ready (rs := [11]) (by kernel_rfl) (by simp) ?_
  refine AllReadyH.cons (o := ⟨some 32, _, _, _, _, _⟩) rfl (fun K hK => ?_) AllReadyH.nil
  go_simp
  go_at_call 25
  refine (HT.out _ H9.out.2.1).mono ?_
  rintro e w10 ⟨B3, d3, rfl, hs10, H10⟩
  refine hK.out _ _ hs10 (fun hHeld => ?_)
  try simp only [Act.put, List.setIfInBounds_toArray, List.set_cons_zero, List.set_cons_succ]
  refine wpAnyH_ready (rs := [13]) (by kernel_rfl) (by simp) ?_
  refine AllReadyH.cons (o := ⟨some 34, _, _, _, _, _⟩) rfl (fun K hK => ?_) AllReadyH.nil
  go_simp
  go_at_call 24
  refine (HE.out _ H10.out.2.1).mono ?_
  rintro e w11 ⟨B4, d4, B5, d5, rfl, hs11, H11⟩
  refine hK.out _ _ hs11 (fun hHeld => ?_)
  try simp only [Act.put, List.setIfInBounds_toArray, List.set_cons_zero, List.set_cons_succ]
  refine wpAnyH_ready (rs := [15]) (by kernel_rfl) (by simp) ?_
  refine AllReadyH.cons (o := ⟨some 36, _, _, _, _, _⟩) rfl (fun K hK => ?_) AllReadyH.nil
  go_simp
  go_at_call 25
  refine (HU.out _ H11.out.2.1).mono ?_
  rintro e w12 ⟨B6, d6, rfl, hs12, hZ12, H12⟩
  refine hK.out _ _ hs12 (fun hHeld => ?_)
  try simp only [Act.put, List.setIfInBounds_toArray, List.set_cons_zero, List.set_cons_succ]
  refine wpAnyH_take (i := 16) (oi := ⟨some 37, _, _, _, _, _⟩) (v := (.agg #[.int .i64 13, .int .i64 view, .int .i64 turn, .int .i64 slot, .int .i64 signer, .int .i64 0, .int .i64 kind, .int .i64 0, .int .i64 c2, .int .i64 s2, .slice B1 op2.length d1, .slice B2 sg2.length d2, .int .i64 c1, .int .i64 s1, .slice B4 op1.length d4, .slice B5 sg1.length d5, .slice B6 t1.length d6, .slice B3 t2.length d3, .slice none 0 0, .slice none 0 0, .slice none 0 0, .slice none 0 0, .slice none 0 0])) rfl (by kernel_rfl) (by kernel_rfl) (by kernel_rfl) (fun _ _ _ h => h) (Or.inl ⟨by rfl, by (intro w' hSw; (try dsimp only at hSw); go_simp)⟩) (by assumption) ?_
  try simp only [Act.put, List.setIfInBounds_toArray, List.set_cons_zero, List.set_cons_succ]
  refine wpAnyH_ready (rs := [17]) (by kernel_rfl) (by simp) ?_
  refine AllReadyH.cons (o := ⟨none, _, _, _, _, _⟩) rfl (fun K hK => ?_) AllReadyH.nil
  rw [if_pos (by rfl)]
  refine wp_store_abs 48 _ _ (by rfl) (w.heap.size + 3) #[.int .i64 13, .int .i64 view, .int .i64 turn, .int .i64 slot, .int .i64 signer, .int .i64 0, .int .i64 kind, .int .i64 0, .int .i64 c2, .int .i64 s2, .slice B1 op2.length d1, .slice B2 sg2.length d2, .int .i64 c1, .int .i64 s1, .slice B4 op1.length d4, .slice B5 sg1.length d5, .slice B6 t1.length d6, .slice B3 t2.length d3, .slice none 0 0, .slice none 0 0, .slice none 0 0, .slice none 0 0, .slice none 0 0] (by rfl) (by rfl) 48 Z48 hZ12 (by kernel_rfl) (by rfl) (by simp [Value.oneCell']) ?_
  intro w13 hf13 hz13 hg13
  have hs13 := HS9.out _ _ hs12 hf13
  refine hK.out _ _ hs13 (fun hHeld => ?_)
  try simp only [Act.put, List.setIfInBounds_toArray, List.set_cons_zero, List.set_cons_succ]
  refine wpAnyH_done (by kernel_rfl) ?_ _
  clear hs8 hs9 hs10 hs11 hs12 hs13 hHeld HD HE HT HU HS9
  go_wp2
  refine bodyPost_ret (results_cell_row (by rfl) _ _ (w.heap.size + 3) 48 #[.int .i64 13, .int .i64 view, .int .i64 turn, .int .i64 slot, .int .i64 signer, .int .i64 0, .int .i64 kind, .int .i64 0, .int .i64 c2, .int .i64 s2, .slice B1 op2.length d1, .slice B2 sg2.length d2, .int .i64 c1, .int .i64 s1, .slice B4 op1.length d4, .slice B5 sg1.length d5, .slice B6 t1.length d6, .slice B3 t2.length d3, .slice none 0 0, .slice none 0 0, .slice none 0 0, .slice none 0 0, .slice none 0 0] (0, 0) _ (by rfl) hg13 Try.underlying48 (by rfl) (by kernel_rfl)) rfl ?_
  have F12 := HF.out.1.trans H12.out.2.1 (fun _ h => h.elim)
  have f1112 := H12.out.1
  have f1012 := H11.out.1.trans f1112 (fun _ h => h.elim)
  have f912 := H10.out.1.trans f1012 (fun _ h => h.elim)
  have hL : ∀ {A : Option Addr} {c : Nat} {l : List Int}, Lo (w.heap.size + 4) w12 A c l → Lt w13 A c l := fun h => ⟨⟨h.1.1.1, h.1.1.2.fr hf13 (fun ad e h2 => by have := h.2 ad.block (by subst e; rfl); omega)⟩, fun k hk => (h.1.2 k hk).imp (fun cells hc => hf13.blk hc (fun e => by have := h.2 k hk; omega))⟩
  exact ⟨_, rfl, ⟨B1, d1, B2, d2, B3, d3, B4, d4, B5, d5, B6, d6, rfl, hL (H9.out.2.2.1.fr f912), hL (H9.out.2.2.2.fr f912), hL (H10.out.2.2.fr f1012), hL (H11.out.2.2.1.fr f1112), hL (H11.out.2.2.2.fr f1112), hL H12.out.2.2⟩, frB (F12.trans hf13 (fun k hk => .inr (by omega)))⟩
end Go.Proofs.Ytnabilhcmplhcaa.Sha
