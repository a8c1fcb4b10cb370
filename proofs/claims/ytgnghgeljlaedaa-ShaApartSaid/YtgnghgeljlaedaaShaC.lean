/-
  SHA's block, the second loop: the 64 rounds.
-/
import Derived.Test.YtgnghgeljlaedaaShaA
import Derived.Laws.CopyOwn
set_option linter.unusedVariables false
set_option linter.unusedSimpArgs false
namespace Go.Proofs.Ytgnghgeljlaedaa.Sha
open Go.RowKit Go.Proofs.YtgnghgeljlaedaaW.PrintWords Go.Proofs.YtgnghgeljlaedaaW.PrintLast Go.Proofs.YtgnghgeljlaedaaW.PrintMore Go.Proofs.Ytgnghgeljlaedaa.Q Go.Proofs.Ytgnghgeljlaedaa.Fr

theorem cells8 {w : World} {gv : Nat} {t : TypeId} {a b c d e f g h : Int} (hv : w.heap[gv]? = some (.cells (encs (Value.int .u32) [a, b, c, d, e, f, g, h]).toArray t (0, 0))) :
    w.cell? ⟨gv, 0, none⟩ = some (.int .u32 a) ∧ w.cell? ⟨gv, 1, none⟩ = some (.int .u32 b) ∧ w.cell? ⟨gv, 2, none⟩ = some (.int .u32 c) ∧ w.cell? ⟨gv, 3, none⟩ = some (.int .u32 d) ∧
    w.cell? ⟨gv, 4, none⟩ = some (.int .u32 e) ∧ w.cell? ⟨gv, 5, none⟩ = some (.int .u32 f) ∧ w.cell? ⟨gv, 6, none⟩ = some (.int .u32 g) ∧ w.cell? ⟨gv, 7, none⟩ = some (.int .u32 h) := by
  simp [World.cell?, hv, encs]

set_option maxHeartbeats 8000000 in
set_option maxRecDepth 100000 in
theorem round2 (u : Nat → Value) (gk gw gv : Nat) (t : Int) (ht0 : 0 ≤ t) (ht : t < 64) (w0 w : World) (va vb vc vd ve vf vg vh kt wt : Int)
   (hv : w.heap[gv]? = some (.cells (encs (Value.int .u32) [va, vb, vc, vd, ve, vf, vg, vh]).toArray 53 (0, 0)))
   (hk : w.cell? ⟨gk, t.toNat, none⟩ = some (.int .u32 kt)) (hw : w.cell? ⟨gw, t.toNat, none⟩ = some (.int .u32 wt)) (hf : Fr (fun k => k = gv) w0 w)
   (Q : Exit → Act → World → Prop) (hQ : ∀ a' w', Fm 187 a' → sl a' 0 = u 0 → sl a' 4 = .pointer (some ⟨gk, 0, none⟩) → sl a' 5 = .pointer (some ⟨gw, 0, none⟩) → sl a' 9 = .pointer (some ⟨gv, 0, none⟩) → sl a' 98 = .int .i64 (t + 1) →
      Fr (fun k => k = gv) w0 w' → w'.heap[gv]? = some (.cells (encs (Value.int .u32) (rnd [va, vb, vc, vd, ve, vf, vg, vh] kt wt)).toArray 53 (0, 0)) → Q .normal a' w') :
    Code.wp Try.prog (bodyN Try.f37 1) Q ⟨#[u 0, u 1, u 2, u 3, .pointer (some ⟨gk, 0, none⟩), .pointer (some ⟨gw, 0, none⟩), u 6, u 7, u 8, .pointer (some ⟨gv, 0, none⟩), u 10, u 11, u 12, u 13, u 14, u 15, u 16, u 17, u 18, u 19, u 20, u 21, u 22, u 23, u 24, u 25, u 26, u 27, u 28, u 29, u 30, u 31, u 32, u 33, u 34, u 35, u 36, u 37, u 38, u 39, u 40, u 41, u 42, u 43, u 44, u 45, u 46, u 47, u 48, u 49, u 50, u 51, u 52, u 53, u 54, u 55, u 56, u 57, u 58, u 59, u 60, u 61, u 62, u 63, u 64, u 65, u 66, u 67, u 68, u 69, u 70, u 71, u 72, u 73, u 74, u 75, u 76, u 77, u 78, u 79, u 80, u 81, u 82, u 83, u 84, u 85, u 86, u 87, u 88, u 89, u 90, u 91, u 92, u 93, u 94, u 95, u 96, u 97, .int .i64 t, u 99, u 100, u 101, u 102, u 103, u 104, u 105, u 106, u 107, u 108, u 109, u 110, u 111, u 112, u 113, u 114, u 115, u 116, u 117, u 118, u 119, u 120, u 121, u 122, u 123, u 124, u 125, u 126, u 127, u 128, u 129, u 130, u 131, u 132, u 133, u 134, u 135, u 136, u 137, u 138, u 139, u 140, u 141, u 142, u 143, u 144, u 145, u 146, u 147, u 148, u 149, u 150, u 151, u 152, u 153, u 154, u 155, u 156, u 157, u 158, u 159, u 160, u 161, u 162, u 163, u 164, u 165, u 166, u 167, u 168, u 169, u 170, u 171, u 172, u 173, u 174, u 175, u 176, u 177, u 178, u 179, u 180, u 181, u 182, u 183, u 184, u 185, u 186], []⟩ w := by
  conv => arg 2; whnf
  have c0 := decide_eq_true ht
  go_wp2
  have HV := Aside0.mk hv
  have HF := Aside0.mk hf
  obtain ⟨v0, v1, v2, v3, v4, v5, v6, v7⟩ := cells8 hv
  clear hv hf
  go_quiet (fail)
  go_wp2
  refine region_tail 30 (by kernel_rfl) (by kernel_rfl) ?_
  intro w3 e3
  have e4 : ∀ p, w3.cell? p = w.cell? p := fun p => by rw [e3]; simp
  rw [← e4] at v0 v1 v2 v3 v4 v5 v6 v7 hk hw
  have hv : w3.heap[gv]? = some (.cells (encs (Value.int .u32) [va, vb, vc, vd, ve, vf, vg, vh]).toArray 53 (0, 0)) := by rw [e3]; simpa using HV.out
  have hf : Fr (fun k => k = gv) w0 w3 := by rw [e3]; exact (HF.out.of_drewN nq).of_drew
  clear HV HF e4 e3
  have HV := Aside0.mk hv
  have HF := Aside0.mk hf
  clear hv hf
  simp only [List.take_succ_cons, List.take_zero, List.drop_succ_cons, List.drop_zero]
  repeat (first | still_step | still_call (ror_same _ _ (by simp [turnable]) _))
  refine wpStill_nil ?_
  go_wp2
  generalize hT1 : IntKind.u32.wrap (IntKind.u32.wrap (IntKind.u32.wrap (IntKind.u32.wrap (vh + Go.bits .xor .u32 (Go.bits .xor .u32 (rotr ve 6) (rotr ve 11)) (rotr ve 25)) + Go.bits .xor .u32 (Go.bits .and .u32 ve vf) (Go.bits .and .u32 (Go.bits .xor .u32 IntKind.u32.max ve) vg)) + kt) + wt) = T1
  refine region_tail 24 (by kernel_rfl) (by kernel_rfl) ?_
  intro w4 e3
  have e4 : ∀ p, w4.cell? p = w3.cell? p := fun p => by rw [e3]; simp
  rw [← e4] at v0 v1 v2 v3 v4 v5 v6 v7
  have hv : w4.heap[gv]? = some (.cells (encs (Value.int .u32) [va, vb, vc, vd, ve, vf, vg, vh]).toArray 53 (0, 0)) := by rw [e3]; exact HV.out
  have hf : Fr (fun k => k = gv) w0 w4 := by rw [e3]; exact (HF.out).of_drew
  clear HV HF e4 e3 hw hk
  have HV := Aside0.mk hv
  have HF := Aside0.mk hf
  clear hv hf
  simp only [List.take_succ_cons, List.take_zero, List.drop_succ_cons, List.drop_zero]
  repeat (first | still_step | still_call (ror_same _ _ (by simp [turnable]) _))
  refine wpStill_nil ?_
  go_wp2
  generalize hT2 : IntKind.u32.wrap (Go.bits .xor .u32 (Go.bits .xor .u32 (rotr va 2) (rotr va 13)) (rotr va 22) + Go.bits .xor .u32 (Go.bits .xor .u32 (Go.bits .and .u32 va vb) (Go.bits .and .u32 va vc)) (Go.bits .and .u32 vb vc)) = T2
  refine region_tail 2 (by kernel_rfl) (by kernel_rfl) ?_
  intro w5 e3
  have hv : w5.heap[gv]? = some (.cells (encs (Value.int .u32) [va, vb, vc, vd, ve, vf, vg, vh]).toArray 53 (0, 0)) := by rw [e3]; exact HV.out
  have hf : Fr (fun k => k = gv) w0 w5 := by rw [e3]; exact (HF.out).of_drew
  clear HV HF v0 v1 v2 v3 v4 v5 v6 v7
  have HF := Aside0.mk hf
  have HV := Aside0.mk hv
  clear hf e3 hv
  simp only [List.take_succ_cons, List.take_zero, List.drop_succ_cons, List.drop_zero]
  repeat still_step
  refine wpStill_nil ?_
  have hv := HV.out
  refine wpList_copy_own (by rfl) (.tmp 159) (.tmp 160) 72 72 (by rfl) 49 Try.underlying72 (by kernel_rfl) gv 1 7 7 ⟨gv, 0, none⟩ 7 8 (by rfl) (by rfl) _ 53 hv (encs (Value.int .u32) [va, vb, vc, vd, ve, vf, vg]) (by rfl) ?_ (by simp [encs]) (by simp [encs, Value.oneCell']) ?_
  · obtain ⟨v0, v1, v2, v3, v4, v5, v6, v7⟩ := cells8 hv
    intro j v hj
    have : j < 7 := by simpa [encs] using (List.getElem?_eq_some_iff.1 hj).1
    rcases (show j = 0 ∨ j = 1 ∨ j = 2 ∨ j = 3 ∨ j = 4 ∨ j = 5 ∨ j = 6 by omega) with rfl|rfl|rfl|rfl|rfl|rfl|rfl <;> (obtain rfl := Option.some.inj hj; assumption)
  have hv2 := setRow_heap w5 gv _ ((encs (Value.int .u32) [va, va, vb, vc, vd, ve, vf, vg]).toArray) 53 _ hv
  have hf2 : Fr (fun k => k = gv) w5 (w5.setRow gv ((encs (Value.int .u32) [va, va, vb, vc, vd, ve, vf, vg]).toArray)) := ⟨rfl, rfl, rfl, by simp [World.setRow], fun k _ hk => setRow_other w5 gv k _ (fun e => hk e)⟩
  rw [show ((encs (Value.int .u32) [va, vb, vc, vd, ve, vf, vg, vh]).toArray.toList.take 1 ++ (encs (Value.int .u32) [va, vb, vc, vd, ve, vf, vg] ++ (encs (Value.int .u32) [va, vb, vc, vd, ve, vf, vg, vh]).toArray.toList.drop (1 + (encs (Value.int .u32) [va, vb, vc, vd, ve, vf, vg]).length))).toArray = (encs (Value.int .u32) [va, va, vb, vc, vd, ve, vf, vg]).toArray by simp [encs]]
  have hf3 := HF.out.trans hf2 (fun i h => .inl h)
  clear HF HV hv hf2
  generalize (w5.setRow gv ((encs (Value.int .u32) [va, va, vb, vc, vd, ve, vf, vg]).toArray)) = w6 at *
  have HV := Aside0.mk hv2
  have HF := Aside0.mk hf3
  obtain ⟨v0, v1, v2, v3, v4, v5, v6, v7⟩ := cells8 hv2
  have z4 := frozenV hv2 4
  have z0 := frozenV hv2 0
  clear hv2 hf3
  go_wp2
  refine hQ _ _ ⟨rfl, rfl⟩ rfl rfl rfl rfl rfl ((HF.out.setCell (.inl rfl) _).setCell (.inl rfl) _) ?_
  have b1 := heap_putV HV.out 4 (by simp) ((vd + T1) % 4294967296)
  have b2 := heap_putV b1 0 (by simp) ((T1 + T2) % 4294967296)
  rw [b2, ← hT1, ← hT2]
  rfl

set_option maxHeartbeats 8000000 in
set_option maxRecDepth 100000 in
theorem exit2 (u : Nat → Value) (gk gw gv : Nat) (w : World) (Q : Exit → Act → World → Prop) (hQ : ∀ a', Fm 187 a' → sl a' 0 = u 0 → sl a' 4 = .pointer (some ⟨gk, 0, none⟩) → sl a' 5 = .pointer (some ⟨gw, 0, none⟩) → sl a' 9 = .pointer (some ⟨gv, 0, none⟩) → sl a' 98 = .int .i64 64 → Q (.exit 2) a' w) :
    Code.wp Try.prog (bodyN Try.f37 1) Q ⟨#[u 0, u 1, u 2, u 3, .pointer (some ⟨gk, 0, none⟩), .pointer (some ⟨gw, 0, none⟩), u 6, u 7, u 8, .pointer (some ⟨gv, 0, none⟩), u 10, u 11, u 12, u 13, u 14, u 15, u 16, u 17, u 18, u 19, u 20, u 21, u 22, u 23, u 24, u 25, u 26, u 27, u 28, u 29, u 30, u 31, u 32, u 33, u 34, u 35, u 36, u 37, u 38, u 39, u 40, u 41, u 42, u 43, u 44, u 45, u 46, u 47, u 48, u 49, u 50, u 51, u 52, u 53, u 54, u 55, u 56, u 57, u 58, u 59, u 60, u 61, u 62, u 63, u 64, u 65, u 66, u 67, u 68, u 69, u 70, u 71, u 72, u 73, u 74, u 75, u 76, u 77, u 78, u 79, u 80, u 81, u 82, u 83, u 84, u 85, u 86, u 87, u 88, u 89, u 90, u 91, u 92, u 93, u 94, u 95, u 96, u 97, .int .i64 64, u 99, u 100, u 101, u 102, u 103, u 104, u 105, u 106, u 107, u 108, u 109, u 110, u 111, u 112, u 113, u 114, u 115, u 116, u 117, u 118, u 119, u 120, u 121, u 122, u 123, u 124, u 125, u 126, u 127, u 128, u 129, u 130, u 131, u 132, u 133, u 134, u 135, u 136, u 137, u 138, u 139, u 140, u 141, u 142, u 143, u 144, u 145, u 146, u 147, u 148, u 149, u 150, u 151, u 152, u 153, u 154, u 155, u 156, u 157, u 158, u 159, u 160, u 161, u 162, u 163, u 164, u 165, u 166, u 167, u 168, u 169, u 170, u 171, u 172, u 173, u 174, u 175, u 176, u 177, u 178, u 179, u 180, u 181, u 182, u 183, u 184, u 185, u 186], []⟩ w := by
  conv => arg 2; whnf
  go_wp2
  exact hQ _ ⟨rfl, rfl⟩ rfl rfl rfl rfl rfl
/-- The second loop's relation. -/
def J2 (sp : Value) (gk gw gv : Nat) (K W V : List Int) (w0 : World) (t : Nat) (a : Act) (w : World) : Prop :=
  Fm 187 a ∧ sl a 0 = sp ∧ sl a 4 = .pointer (some ⟨gk, 0, none⟩) ∧ sl a 5 = .pointer (some ⟨gw, 0, none⟩) ∧ sl a 9 = .pointer (some ⟨gv, 0, none⟩) ∧ sl a 98 = .int .i64 (t : Int) ∧
    Fr (fun k => k = gv) w0 w ∧ w.heap[gv]? = some (.cells (encs (Value.int .u32) (rnds K W V t)).toArray 53 (0, 0))
theorem loop2 (sp : Value) (gk gw gv : Nat) (K W V : List Int) (tk tw : TypeId) (w0 : World) (hV : V.length = 8) (hK : K.length = 64) (hW : W.length = 64) (hk : w0.heap[gk]? = some (.cells (encs (Value.int .u32) K).toArray tk (0, 0)))
    (hw : w0.heap[gw]? = some (.cells (encs (Value.int .u32) W).toArray tw (0, 0))) (hnk : gk ≠ gv) (hnw : gw ≠ gv)
    (Q : Exit → Act → World → Prop) (hQ : ∀ a' w', J2 sp gk gw gv K W V w0 64 a' w' → Q (.exit 2) a' w') (a : Act) (w : World) (h : J2 sp gk gw gv K W V w0 0 a w) : (Code.loop (bodyN Try.f37 1)).wp Try.prog Q a w := by
  refine wp_loop_up 64 (J2 sp gk gw gv K W V w0) h ?_
  rintro t a w ht ⟨hF, h0, h4, h5, h9, h98, hf, hv⟩
  have ha := fm187 hF
  rw [h4, h5, h9, h98] at ha
  by_cases h64 : t = 64
  · subst h64
    rw [ha]
    exact exit2 (sl a) gk gw gv w _ fun a' b0 b1 b2 b3 b4 b5 => hQ _ _ ⟨b0, b1.trans h0, b2, b3, b4, b5, hf, hv⟩
  · have e1 : ((t + 1 : Nat) : Int) = (t : Int) + 1 := by omega
    obtain ⟨va, vb, vc, vd, ve, vf, vg, vh, hx⟩ := eight ((rnds_len K W V t).trans hV)
    rw [hx] at hv
    have ck := cellV (hf.blk hk hnk) (t : Int) (by omega) (by omega)
    have cw := cellV (hf.blk hw hnw) (t : Int) (by omega) (by omega)
    rw [ha]
    refine round2 (sl a) gk gw gv t (by omega) (by omega) w0 w va vb vc vd ve vf vg vh (K.getD t 0) (W.getD t 0) hv ck cw hf _ ?_
    intro a' w' b0 b1 b2 b3 b4 b5 b6 b7
    refine ⟨by omega, b0, b1.trans h0, b2, b3, b4, by rw [b5, e1], b6, ?_⟩
    rw [b7, rnds, hx]
end Go.Proofs.Ytgnghgeljlaedaa.Sha
