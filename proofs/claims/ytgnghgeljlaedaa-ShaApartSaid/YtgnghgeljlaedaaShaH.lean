/-
  The document's schedule, whole.
-/
import Derived.Test.YtgnghgeljlaedaaShaG
set_option linter.unusedVariables false
set_option linter.unusedSimpArgs false
namespace Go.Proofs.Ytgnghgeljlaedaa.Sha
open Go.RowKit Go.Proofs.YtgnghgeljlaedaaW.PrintWords Go.Proofs.YtgnghgeljlaedaaW.PrintLast Go.Proofs.YtgnghgeljlaedaaW.PrintMore Go.Proofs.Ytgnghgeljlaedaa.Q Go.Proofs.Ytgnghgeljlaedaa.Fr Go.Proofs.Ytgnghgeljlaedaa.Oct

set_option maxHeartbeats 8000000 in
set_option maxRecDepth 100000 in
theorem exitB (u : Nat → Value) (w : World) (Q : Exit → Act → World → Prop) (hQ : ∀ a', Fm 74 a' → sl a' 2 = u 2 → sl a' 3 = u 3 → Q (.exit 2) a' w) :
    Code.wp Try.prog (bodyN Try.f44 1) Q ⟨#[u 0, u 1, u 2, u 3, u 4, .int .i64 64, u 6, u 7, u 8, u 9, u 10, u 11, u 12, u 13, u 14, u 15, u 16, u 17, u 18, u 19, u 20, u 21, u 22, u 23, u 24, u 25, u 26, u 27, u 28, u 29, u 30, u 31, u 32, u 33, u 34, u 35, u 36, u 37, u 38, u 39, u 40, u 41, u 42, u 43, u 44, u 45, u 46, u 47, u 48, u 49, u 50, u 51, u 52, u 53, u 54, u 55, u 56, u 57, u 58, u 59, u 60, u 61, u 62, u 63, u 64, u 65, u 66, u 67, u 68, u 69, u 70, u 71, u 72, u 73], []⟩ w := by
  conv => arg 2; whnf
  go_wp2
  exact hQ _ ⟨rfl, rfl⟩ rfl rfl
theorem loopB (gr gw : Nat) (P : List Int) (w0 : World)
    (Q : Exit → Act → World → Prop) (hQ : ∀ a' w', Fm 74 a' → sl a' 2 = .pointer (some ⟨gr, 0, none⟩) → sl a' 3 = .pointer (some ⟨gw, 0, none⟩) → Fr (fun k => k = gw) w0 w' → w'.heap[gw]? = some (.cells (encs (Value.int .u32) (sched P 64)).toArray 67 (0, 0)) → Q (.exit 2) a' w')
    (a : Act) (w : World) (h : JB gr gw P w0 0 a w) : (Code.loop (bodyN Try.f44 1)).wp Try.prog Q a w := by
  refine wp_loop_up 48 (JB gr gw P w0) h ?_
  rintro t a w ht ⟨hF, h2, h3, h5, hf, hw⟩
  have ha := fm74 hF
  by_cases h64 : t = 48
  · subst h64
    rw [h5] at ha
    rw [ha]
    exact exitB (sl a) w _ fun a' b0 b1 b2 => hQ _ _ b0 (b1.trans h2) (b2.trans h3) hf hw
  · have e1 : ((t + 1 + 16 : Nat) : Int) = ((t + 16 : Nat) : Int) + 1 := by omega
    rw [h2, h3, h5] at ha
    rw [ha]
    refine roundB (sl a) gr gw ((t + 16 : Nat) : Int) (by omega) (by omega) w0 w _ (sched_len P _) hw hf _ ?_
    intro a' w' b0 b2 b3 b4 b5 b6
    refine ⟨by omega, b0, b2, b3, by rw [b4, e1], b5, ?_⟩
    have e2 : sched P ((t + 16) + 1) = (sched P (t + 16)).set (t + 16) (sch (sched P (t + 16)) ((t + 16 : Nat) : Int)) := by
      rw [sched, if_neg (by omega)]
    rw [b6, show t + 1 + 16 = (t + 16) + 1 by omega, e2, Int.toNat_natCast]

set_option maxHeartbeats 8000000 in
set_option maxRecDepth 100000 in
theorem schedule_calls (A : Option Addr) (c : Nat) (P : List Int) (hP : P.length = 64) (hB : Bys P) (hc : 64 ≤ c) (w : World) (hr : Kd.C (Kd.int .u8) w A P.length P) :
    Calls Try.prog 44 #[.slice A 64 c] w fun e w' => e = .returned (.agg (encs (Value.int .u32) (sched P 64)).toArray) ∧ Below w.heap.size w w' := by
  have HR := Aside0.mk hr
  clear hr
  have hlen : (encs (Value.int .u32) (sched P 64)).toArray.size = 64 := by simp [encs, sched_len]
  have hone : (encs (Value.int .u32) (sched P 64)).toArray.all (·.oneCell') = true := by simp [encs, Value.oneCell']
  obtain ⟨cs, hcs⟩ : ∃ cs, (encs (Value.int .u32) (sched P 64)).toArray = cs := ⟨_, rfl⟩
  rw [hcs] at hlen hone
  rw [hcs]
  have hi : (Try.prog.info? 67).map (·.size) = some cs.size := by rw [hlen]; kernel_rfl
  have HO := Aside0.mk hone
  have HI := Aside0.mk hi
  have HL := Aside0.mk hlen
  have HX := Aside0.mk hcs
  clear hone hcs hi hlen
  go_enter Try.func44, Try.ntmps44
  go_wp2_with (first | ((with_reducible refine gate_dst (N := 2) rfl ?_); refine wpList_alloc_abs (by rfl) 67 (by rfl) (.agg ZT) (by kernel_rfl) ?_; intro w1 hb1 hs1 hg1) | ((with_reducible refine gate_dst (N := 8) rfl ?_); refine wpList_build_abs (by rfl) 67 _ (by rfl) ZT (by kernel_rfl) ?_) | ((with_reducible refine gate_dst (N := 3) rfl ?_); refine wpList_alloc_abs (by rfl) 67 (by rfl) (.agg ZT) (by kernel_rfl) ?_; intro w2 hb2 hs2 hg2) | ((with_reducible refine gate_store (p := 3) rfl ?_); refine wpList_store_abs (by rfl) 67 _ _ (by rfl) w1.heap.size ZT (by rfl) (by rfl) 67 ZT hg2 (by kernel_rfl) (by rfl) (by decide +kernel) ?_; intro w3 hf3 hs3 hg3))
  have lr : w.heap.size < w2.heap.size := by omega
  have hr3 : w3.heap[w.heap.size]? = some (.cells ZT 67 (0, 0)) := hf3.blk ((Fr.of_below hb2 (fun _ => False)).blk hg1 (fun h => h)) (fun h => by omega)
  have F3 : Fr (fun _ => False) w w3 := ((Fr.of_below hb1 _).trans (Fr.of_below hb2 (fun _ => False)) (fun i h => h.elim)).trans hf3 (fun i h => .inr (by omega))
  have lA : ∀ w', Fr (fun k => k = w.heap.size + 1) w3 w' → Kd.C (Kd.int .u8) w' A P.length P := fun w' h => (F3.trans h (S := fun _ => False) (fun i h2 => .inr (by omega))).C HR.out (fun i h => h.elim)
  rw [hs1] at hg3
  clear hf3 hb2 hg2 hg1 hb1 HR
  refine loopA A c w.heap.size (w.heap.size + 1) P hP hB hc w3 lA _ ?_ _ _ ⟨⟨rfl, rfl⟩, rfl, rfl, rfl, rfl, Fr.refl _ _, hg3⟩
  clear lA hg3
  intro a' w4 hF j2 j3 jf jw
  rw [fm74 hF, j2, j3]
  have F4 : Fr (fun _ => False) w w4 := F3.trans jf (fun i h => .inr (by omega))
  have hr4 := jf.blk hr3 (fun h => by omega)
  clear hr3 F3 jf hF j2 j3
  have HW := Aside0.mk jw
  have HF := Aside0.mk F4
  have HR := Aside0.mk hr4
  clear jw F4 hr4
  go_wp2
  refine loopB w.heap.size (w.heap.size + 1) P w4 _ ?_ _ _ ⟨⟨rfl, rfl⟩, rfl, rfl, rfl, Fr.refl _ _, HW.out⟩
  intro a' w5 hF j2 j3 jf jw
  rw [fm74 hF, j2, j3]
  have hr5 := jf.blk HR.out (fun h => by omega)
  have F5 : Fr (fun _ => False) w w5 := HF.out.trans jf (fun i h => .inr (by omega))
  clear HR HF HW jf hF j2 j3
  rw [HX.out] at jw
  have HW := Aside0.mk jw
  have HF := Aside0.mk F5
  have HR := Aside0.mk hr5
  clear jw F5 hr5 HX
  go_wp2_with (first | ((with_reducible refine gate_dst (N := 73) rfl ?_); refine wpList_load_row (by rfl) 67 _ (by rfl) (w.heap.size + 1) (by rfl) _ cs _ _ HW.out Try.underlying67 (by rfl) HI.out ?_) | ((with_reducible refine gate_store (p := 2) rfl ?_); refine wpList_store_abs (by rfl) 67 _ _ (by rfl) w.heap.size cs (by rfl) (by rfl) 67 ZT HR.out HI.out (by rw [HL.out]; exact ZT_size) HO.out ?_; intro w6 hf6 hs6 hg6))
  refine bodyPost_ret (results_cell_row (by rfl) _ _ w.heap.size 67 cs (0, 0) _ (by rfl) hg6 Try.underlying67 (by rfl) HI.out) rfl ?_
  exact ⟨rfl, (HF.out.trans hf6 (S := fun _ => False) (fun i h => .inr (by omega))).below _ (Nat.le_refl _) (fun i h => h.elim)⟩
end Go.Proofs.Ytgnghgeljlaedaa.Sha
