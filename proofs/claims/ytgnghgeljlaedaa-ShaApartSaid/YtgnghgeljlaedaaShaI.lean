/-
  The document's block: a round.
-/
import Derived.Test.YtgnghgeljlaedaaShaH
set_option linter.unusedVariables false
set_option linter.unusedSimpArgs false
namespace Go.Proofs.Ytgnghgeljlaedaa.Sha
open Go.RowKit Go.Proofs.YtgnghgeljlaedaaW.PrintWords Go.Proofs.YtgnghgeljlaedaaW.PrintLast Go.Proofs.YtgnghgeljlaedaaW.PrintMore Go.Proofs.Ytgnghgeljlaedaa.Q Go.Proofs.Ytgnghgeljlaedaa.Fr Go.Proofs.Ytgnghgeljlaedaa.Oct

theorem add_wrap (a b : Int) : (a + b) % 4294967296 = (a + IntKind.u32.wrap b) % 4294967296 := by rw [IntKind.wrap_u32]; omega
set_option maxHeartbeats 8000000 in
set_option maxRecDepth 100000 in
theorem roundR (u : Nat → Value) (gb gr gk gw gv : Nat) (t : Int) (ht0 : 0 ≤ t) (ht : t < 64) (w0 w : World) (va vb vc vd ve vf vg vh kt wt : Int)
   (hv : w.heap[gv]? = some (.cells (encs (Value.int .u32) [va, vb, vc, vd, ve, vf, vg, vh]).toArray 50 (0, 0)))
   (hk : w.cell? ⟨gk, t.toNat, none⟩ = some (.int .u32 kt)) (hw : w.cell? ⟨gw, t.toNat, none⟩ = some (.int .u32 wt)) (hf : Fr (fun k => k = gv) w0 w)
   (Q : Exit → Act → World → Prop) (hQ : ∀ a' w', Fm 113 a' → sl a' 2 = .pointer (some ⟨gb, 0, none⟩) → sl a' 4 = .pointer (some ⟨gr, 0, none⟩) → sl a' 5 = .pointer (some ⟨gw, 0, none⟩) → sl a' 6 = .pointer (some ⟨gk, 0, none⟩) → sl a' 7 = .pointer (some ⟨gv, 0, none⟩) → sl a' 8 = .int .i64 (t + 1) →
      Fr (fun k => k = gv) w0 w' → w'.heap[gv]? = some (.cells (encs (Value.int .u32) (rnd [va, vb, vc, vd, ve, vf, vg, vh] kt wt)).toArray 50 (0, 0)) → Q .normal a' w') :
    Code.wp Try.prog (bodyN Try.f35 0) Q ⟨#[u 0, u 1, .pointer (some ⟨gb, 0, none⟩), u 3, .pointer (some ⟨gr, 0, none⟩), .pointer (some ⟨gw, 0, none⟩), .pointer (some ⟨gk, 0, none⟩), .pointer (some ⟨gv, 0, none⟩), .int .i64 t, u 9, u 10, u 11, u 12, u 13, u 14, u 15, u 16, u 17, u 18, u 19, u 20, u 21, u 22, u 23, u 24, u 25, u 26, u 27, u 28, u 29, u 30, u 31, u 32, u 33, u 34, u 35, u 36, u 37, u 38, u 39, u 40, u 41, u 42, u 43, u 44, u 45, u 46, u 47, u 48, u 49, u 50, u 51, u 52, u 53, u 54, u 55, u 56, u 57, u 58, u 59, u 60, u 61, u 62, u 63, u 64, u 65, u 66, u 67, u 68, u 69, u 70, u 71, u 72, u 73, u 74, u 75, u 76, u 77, u 78, u 79, u 80, u 81, u 82, u 83, u 84, u 85, u 86, u 87, u 88, u 89, u 90, u 91, u 92, u 93, u 94, u 95, u 96, u 97, u 98, u 99, u 100, u 101, u 102, u 103, u 104, u 105, u 106, u 107, u 108, u 109, u 110, u 111, u 112], []⟩ w := by
  conv => arg 2; whnf
  have c0 := decide_eq_true ht
  go_wp2
  refine region_tail 17 (by kernel_rfl) (by kernel_rfl) ?_
  intro w3 e3
  have e4 : ∀ p, w3.cell? p = w.cell? p := fun p => by rw [e3]; simp
  rw [← e4] at hk hw
  have hv3 : w3.heap[gv]? = some (.cells (encs (Value.int .u32) [va, vb, vc, vd, ve, vf, vg, vh]).toArray 50 (0, 0)) := by rw [e3]; exact hv
  have hf3 : Fr (fun k => k = gv) w0 w3 := by rw [e3]; exact hf.of_drew
  clear hv hf e4 e3
  have HV := Aside0.mk hv3
  have HF := Aside0.mk hf3
  obtain ⟨v0, v1, v2, v3, v4, v5, v6, v7⟩ := cells8 hv3
  clear hv3 hf3
  simp only [List.take_succ_cons, List.take_zero, List.drop_succ_cons, List.drop_zero]
  repeat still_step
  refine wpStill_nil ?_
  go_wp2
  refine region_tail 28 (by kernel_rfl) (by kernel_rfl) ?_
  intro w4 e3
  have e4 : ∀ p, w4.cell? p = w3.cell? p := fun p => by rw [e3]; simp
  rw [← e4] at v0 v1 v2 v3 v4 v5 v6 v7 hk hw
  have hv : w4.heap[gv]? = some (.cells (encs (Value.int .u32) [va, vb, vc, vd, ve, vf, vg, vh]).toArray 50 (0, 0)) := by rw [e3]; exact HV.out
  have hf : Fr (fun k => k = gv) w0 w4 := by rw [e3]; exact (HF.out).of_drew
  clear HV HF e4 e3
  have HV := Aside0.mk hv
  have HF := Aside0.mk hf
  clear hv hf
  simp only [List.take_succ_cons, List.take_zero, List.drop_succ_cons, List.drop_zero]
  repeat (first | still_step | still_call (turn_same _ _ (by simp [turnable]) _))
  refine wpStill_nil ?_
  go_wp2_with (fail)
  generalize hT1 : IntKind.u32.wrap (IntKind.u32.wrap (IntKind.u32.wrap (IntKind.u32.wrap (vh + Go.bits .xor .u32 (Go.bits .xor .u32 (rotr ve 6) (rotr ve 11)) (rotr ve 25)) + Go.bits .or .u32 (Go.bits .and .u32 ve vf) (Go.bits .and .u32 (Go.bits .xor .u32 ve 4294967295) vg)) + kt) + wt) = T1
  refine (turn_same _ _ (by simp [turnable]) _).mono ?_
  rintro e w' ⟨rfl, rfl⟩
  go_wp2_with (fail)
  refine (turn_same _ _ (by simp [turnable]) _).mono ?_
  rintro e w' ⟨rfl, rfl⟩
  go_wp2_with (fail)
  refine (turn_same _ _ (by simp [turnable]) _).mono ?_
  rintro e w' ⟨rfl, rfl⟩
  have hv5 := HV.out
  go_wp2_with (first | ((with_reducible refine gate_store (p := 7) rfl ?_); refine Aside0.out ?_))
  refine ⟨?_⟩
  refine wpList_store_abs (by rfl) 50 _ _ (by rfl) gv _ (by rfl) (by rfl) 50 _ hv5 (by kernel_rfl) (by rfl) (by simp [Value.oneCell']) ?_
  intro w6 hf6 hs6 hg6
  go_wp2
  refine hQ _ _ ⟨rfl, rfl⟩ rfl rfl rfl rfl rfl rfl ?_ ?_
  · exact HF.out.trans hf6 (fun i h => .inl h)
  · rw [hg6, ← hT1, ch32, maj32, add_wrap _ (Go.bits .xor .u32 (Go.bits .xor .u32 (rotr va 2) (rotr va 13)) (rotr va 22) + _)]
    rfl
end Go.Proofs.Ytgnghgeljlaedaa.Sha
