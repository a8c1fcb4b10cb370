/-
  SHA's block, the first loop: the 64 words.
-/
import Derived.Test.YtgnghgeljlaedaaShaA
set_option linter.unusedVariables false
set_option linter.unusedSimpArgs false
namespace Go.Proofs.Ytgnghgeljlaedaa.Sha
open Go.RowKit Go.Proofs.YtgnghgeljlaedaaW.PrintWords Go.Proofs.YtgnghgeljlaedaaW.PrintLast Go.Proofs.YtgnghgeljlaedaaW.PrintMore Go.Proofs.Ytgnghgeljlaedaa.Q Go.Proofs.Ytgnghgeljlaedaa.Fr

set_option maxHeartbeats 8000000 in
set_option maxRecDepth 100000 in
theorem round1b (u : Nat → Value) (A1 : Option Addr) (c1 gk gw : Nat) (t : Int) (ht0 : 0 ≤ t) (ht : t < 64) (h16 : ¬ t < 16) (w0 w : World) (W : List Int) (hW : W.length = 64) (hw : w.heap[gw]? = some (.cells (encs (Value.int .u32) W).toArray 67 (0, 0)))
   (hf : Fr (fun k => k = gw) w0 w) 
   (Q : Exit → Act → World → Prop) (hQ : ∀ a' w', Fm 187 a' → sl a' 0 = u 0 → sl a' 1 = .slice A1 64 c1 → sl a' 4 = .pointer (some ⟨gk, 0, none⟩) → sl a' 5 = .pointer (some ⟨gw, 0, none⟩) → sl a' 17 = .int .i64 (t + 1) →
      Fr (fun k => k = gw) w0 w' → w'.heap[gw]? = some (.cells (encs (Value.int .u32) (W.set t.toNat (sch W t))).toArray 67 (0, 0)) → Q .normal a' w') :
    Code.wp Try.prog (bodyN Try.f37 0) Q ⟨#[u 0, .slice A1 64 c1, u 2, u 3, .pointer (some ⟨gk, 0, none⟩), .pointer (some ⟨gw, 0, none⟩), u 6, u 7, u 8, u 9, u 10, u 11, u 12, u 13, u 14, u 15, u 16, .int .i64 t, u 18, u 19, u 20, u 21, u 22, u 23, u 24, u 25, u 26, u 27, u 28, u 29, u 30, u 31, u 32, u 33, u 34, u 35, u 36, u 37, u 38, u 39, u 40, u 41, u 42, u 43, u 44, u 45, u 46, u 47, u 48, u 49, u 50, u 51, u 52, u 53, u 54, u 55, u 56, u 57, u 58, u 59, u 60, u 61, u 62, u 63, u 64, u 65, u 66, u 67, u 68, u 69, u 70, u 71, u 72, u 73, u 74, u 75, u 76, u 77, u 78, u 79, u 80, u 81, u 82, u 83, u 84, u 85, u 86, u 87, u 88, u 89, u 90, u 91, u 92, u 93, u 94, u 95, u 96, u 97, u 98, u 99, u 100, u 101, u 102, u 103, u 104, u 105, u 106, u 107, u 108, u 109, u 110, u 111, u 112, u 113, u 114, u 115, u 116, u 117, u 118, u 119, u 120, u 121, u 122, u 123, u 124, u 125, u 126, u 127, u 128, u 129, u 130, u 131, u 132, u 133, u 134, u 135, u 136, u 137, u 138, u 139, u 140, u 141, u 142, u 143, u 144, u 145, u 146, u 147, u 148, u 149, u 150, u 151, u 152, u 153, u 154, u 155, u 156, u 157, u 158, u 159, u 160, u 161, u 162, u 163, u 164, u 165, u 166, u 167, u 168, u 169, u 170, u 171, u 172, u 173, u 174, u 175, u 176, u 177, u 178, u 179, u 180, u 181, u 182, u 183, u 184, u 185, u 186], []⟩ w := by
  obtain ⟨x, hx⟩ : ∃ x, W.getD (t - 15).toNat 0 = x := ⟨_, rfl⟩
  obtain ⟨y, hy⟩ : ∃ x, W.getD (t - 2).toNat 0 = x := ⟨_, rfl⟩
  obtain ⟨x7, hx7⟩ : ∃ x, W.getD (t - 7).toNat 0 = x := ⟨_, rfl⟩
  obtain ⟨x16, hx16⟩ : ∃ x, W.getD (t - 16).toNat 0 = x := ⟨_, rfl⟩
  rw [show sch W t = (sig1 y + x7 + sig0 x + x16) % 4294967296 by rw [← hx, ← hy, ← hx7, ← hx16]; rfl] at hQ
  conv => arg 2; whnf
  have c0 := decide_eq_true ht
  have c1 := decide_eq_false h16
  go_wp2
  have HW := Aside0.mk hw
  have HF := Aside0.mk hf
  have k15 := cellV hw (t - 15) (by omega) (by omega)
  have k2 := cellV hw (t - 2) (by omega) (by omega)
  rw [hx] at k15
  rw [hy] at k2
  clear hw hf
  have f1 : 0 ≤ t - 15 := by omega
  have f2 : t - 15 < 64 := by omega
  have f3 : 0 ≤ t - 2 := by omega
  have f4 : t - 2 < 64 := by omega
  have e1 : IntKind.i64.wrap (t - 15) = t - 15 := IntWalk.i64_in _ (by omega)
  have e2 : IntKind.i64.wrap (t - 2) = t - 2 := IntWalk.i64_in _ (by omega)
  go_quiet (fail)
  go_wp2
  clear f1 f2 f3 f4 e1 e2 k15 k2 hx hy
  have hw : (w.drewN nq).heap[gw]? = some (.cells (encs (Value.int .u32) W).toArray 67 (0, 0)) := by simpa using HW.out
  have hf : Fr (fun k => k = gw) w0 (w.drewN nq) := HF.out.of_drewN nq
  clear HW HF
  generalize w.drewN nq = w2 at *
  refine region_tail 28 (by kernel_rfl) (by kernel_rfl) ?_
  intro w3 e3
  have hw3 : w3.heap[gw]? = some (.cells (encs (Value.int .u32) W).toArray 67 (0, 0)) := by rw [e3]; exact hw
  have hf3 : Fr (fun k => k = gw) w0 w3 := by rw [e3]; exact hf.of_drew
  clear hw hf e3
  have k7 := cellV hw3 (t - 7) (by omega) (by omega)
  have k16 := cellV hw3 (t - 16) (by omega) (by omega)
  rw [hx7] at k7
  rw [hx16] at k16
  have HW := Aside0.mk hw3
  have HF := Aside0.mk hf3
  clear hw3 hf3
  have f1 : 0 ≤ t - 7 := by omega
  have g1 : 7 ≤ t := by omega
  have f2 : t - 7 < 64 := by omega
  have f3 : 0 ≤ t - 16 := by omega
  have f4 : t - 16 < 64 := by omega
  have e1 : IntKind.i64.wrap (t - 7) = t - 7 := IntWalk.i64_in _ (by omega)
  have e2 : IntKind.i64.wrap (t - 16) = t - 16 := IntWalk.i64_in _ (by omega)
  simp only [List.take_succ_cons, List.take_zero, List.drop_succ_cons, List.drop_zero]
  repeat (first | still_step | still_call (ror_same _ _ (by simp [turnable]) _))
  refine wpStill_nil ?_
  clear f1 g1 f2 f3 f4 e1 e2 k7 k16
  have kt := cellV HW.out t (by omega) (by omega)
  have ft := frozenV HW.out t.toNat
  go_wp2
  refine hQ _ _ ⟨rfl, rfl⟩ rfl rfl rfl rfl rfl ?_ ?_
  · exact HF.out.setCell (.inl rfl) _
  · exact heap_putV HW.out _ (by omega) _

set_option maxHeartbeats 8000000 in
set_option maxRecDepth 100000 in
theorem round1a (u : Nat → Value) (ad : Addr) (P : List Int) (c1 gk gw : Nat) (t : Int) (ht0 : 0 ≤ t) (h16 : t < 16) (w0 w : World) (W : List Int) (hW : W.length = 64) (hw : w.heap[gw]? = some (.cells (encs (Value.int .u32) W).toArray 67 (0, 0)))
   (hp : ∀ i : Int, 0 ≤ i → i < 64 → w.cell? (ad.add i.toNat) = some (.int .u8 (P.getD i.toNat 0))) (hf : Fr (fun k => k = gw) w0 w)
   (Q : Exit → Act → World → Prop) (hQ : ∀ a' w', Fm 187 a' → sl a' 0 = u 0 → sl a' 1 = .slice (some ad) 64 c1 → sl a' 4 = .pointer (some ⟨gk, 0, none⟩) → sl a' 5 = .pointer (some ⟨gw, 0, none⟩) → sl a' 17 = .int .i64 (t + 1) →
      Fr (fun k => k = gw) w0 w' → w'.heap[gw]? = some (.cells (encs (Value.int .u32) (W.set t.toNat (wrd P t))).toArray 67 (0, 0)) → Q .normal a' w') :
    Code.wp Try.prog (bodyN Try.f37 0) Q ⟨#[u 0, .slice (some ad) 64 c1, u 2, u 3, .pointer (some ⟨gk, 0, none⟩), .pointer (some ⟨gw, 0, none⟩), u 6, u 7, u 8, u 9, u 10, u 11, u 12, u 13, u 14, u 15, u 16, .int .i64 t, u 18, u 19, u 20, u 21, u 22, u 23, u 24, u 25, u 26, u 27, u 28, u 29, u 30, u 31, u 32, u 33, u 34, u 35, u 36, u 37, u 38, u 39, u 40, u 41, u 42, u 43, u 44, u 45, u 46, u 47, u 48, u 49, u 50, u 51, u 52, u 53, u 54, u 55, u 56, u 57, u 58, u 59, u 60, u 61, u 62, u 63, u 64, u 65, u 66, u 67, u 68, u 69, u 70, u 71, u 72, u 73, u 74, u 75, u 76, u 77, u 78, u 79, u 80, u 81, u 82, u 83, u 84, u 85, u 86, u 87, u 88, u 89, u 90, u 91, u 92, u 93, u 94, u 95, u 96, u 97, u 98, u 99, u 100, u 101, u 102, u 103, u 104, u 105, u 106, u 107, u 108, u 109, u 110, u 111, u 112, u 113, u 114, u 115, u 116, u 117, u 118, u 119, u 120, u 121, u 122, u 123, u 124, u 125, u 126, u 127, u 128, u 129, u 130, u 131, u 132, u 133, u 134, u 135, u 136, u 137, u 138, u 139, u 140, u 141, u 142, u 143, u 144, u 145, u 146, u 147, u 148, u 149, u 150, u 151, u 152, u 153, u 154, u 155, u 156, u 157, u 158, u 159, u 160, u 161, u 162, u 163, u 164, u 165, u 166, u 167, u 168, u 169, u 170, u 171, u 172, u 173, u 174, u 175, u 176, u 177, u 178, u 179, u 180, u 181, u 182, u 183, u 184, u 185, u 186], []⟩ w := by
  obtain ⟨p0, h0⟩ : ∃ x, P.getD (4 * t).toNat 0 = x := ⟨_, rfl⟩
  obtain ⟨p1, h1⟩ : ∃ x, P.getD (4 * t + 1).toNat 0 = x := ⟨_, rfl⟩
  obtain ⟨p2, h2⟩ : ∃ x, P.getD (4 * t + 2).toNat 0 = x := ⟨_, rfl⟩
  obtain ⟨p3, h3⟩ : ∃ x, P.getD (4 * t + 3).toNat 0 = x := ⟨_, rfl⟩
  rw [show wrd P t = word4 p0 p1 p2 p3 by rw [← h0, ← h1, ← h2, ← h3]; rfl] at hQ
  conv => arg 2; whnf
  have c0 : decide (t < 64) = true := decide_eq_true (by omega)
  have c1 := decide_eq_true h16
  go_wp2
  refine region_tail 34 (by kernel_rfl) (by kernel_rfl) ?_
  intro w3 e3
  have hw3 : w3.heap[gw]? = some (.cells (encs (Value.int .u32) W).toArray 67 (0, 0)) := by rw [e3]; exact hw
  have hf3 : Fr (fun k => k = gw) w0 w3 := by rw [e3]; exact hf.of_drew
  have k0 := hp (4 * t) (by omega) (by omega)
  have k1 := hp (4 * t + 1) (by omega) (by omega)
  have k2 := hp (4 * t + 2) (by omega) (by omega)
  have k3 := hp (4 * t + 3) (by omega) (by omega)
  rw [h0, show w.cell? (ad.add (4 * t).toNat) = w3.cell? (ad.add (4 * t).toNat) by rw [e3]; rfl] at k0
  rw [h1, show w.cell? (ad.add (4 * t + 1).toNat) = w3.cell? (ad.add (4 * t + 1).toNat) by rw [e3]; rfl] at k1
  rw [h2, show w.cell? (ad.add (4 * t + 2).toNat) = w3.cell? (ad.add (4 * t + 2).toNat) by rw [e3]; rfl] at k2
  rw [h3, show w.cell? (ad.add (4 * t + 3).toNat) = w3.cell? (ad.add (4 * t + 3).toNat) by rw [e3]; rfl] at k3
  clear hw hf e3 hp
  have HW := Aside0.mk hw3
  have HF := Aside0.mk hf3
  clear hw3 hf3
  have f1 : 0 ≤ 4 * t := by omega
  have f2 : 0 ≤ 4 * t + 1 := by omega
  have f3 : 0 ≤ 4 * t + 2 := by omega
  have f4 : 0 ≤ 4 * t + 3 := by omega
  have g1 : 4 * t < 64 := by omega
  have g2 : 4 * t + 1 < 64 := by omega
  have g3 : 4 * t + 2 < 64 := by omega
  have g4 : 4 * t + 3 < 64 := by omega
  have e1 : IntKind.i64.wrap (4 * t) = 4 * t := IntWalk.i64_in _ (by omega)
  have e2 : IntKind.i64.wrap (4 * t + 1) = 4 * t + 1 := IntWalk.i64_in _ (by omega)
  have e3 : IntKind.i64.wrap (4 * t + 2) = 4 * t + 2 := IntWalk.i64_in _ (by omega)
  have e4 : IntKind.i64.wrap (4 * t + 3) = 4 * t + 3 := IntWalk.i64_in _ (by omega)
  simp only [List.take_succ_cons, List.take_zero, List.drop_succ_cons, List.drop_zero]
  repeat still_step
  refine wpStill_nil ?_
  clear f1 f2 f3 f4 g1 g2 g3 g4 e1 e2 e3 e4
  have kt := cellV HW.out t (by omega) (by omega)
  have ft := frozenV HW.out t.toNat
  go_wp2
  refine hQ _ _ ⟨rfl, rfl⟩ rfl rfl rfl rfl rfl ?_ ?_
  · exact HF.out.setCell (.inl rfl) _
  · exact heap_putV HW.out _ (by omega) _

/-- The first loop's relation: t words are known. -/
def J1 (sp : Value) (ad : Addr) (c1 gk gw : Nat) (P : List Int) (w0 : World) (t : Nat) (a : Act) (w : World) : Prop :=
  Fm 187 a ∧ sl a 0 = sp ∧ sl a 1 = .slice (some ad) 64 c1 ∧ sl a 4 = .pointer (some ⟨gk, 0, none⟩) ∧ sl a 5 = .pointer (some ⟨gw, 0, none⟩) ∧ sl a 17 = .int .i64 (t : Int) ∧
    Fr (fun k => k = gw) w0 w ∧ w.heap[gw]? = some (.cells (encs (Value.int .u32) (sched P t)).toArray 67 (0, 0))
set_option maxHeartbeats 8000000 in
set_option maxRecDepth 100000 in
theorem exit1 (u : Nat → Value) (A1 : Value) (c1 gk gw : Nat) (w : World) (Q : Exit → Act → World → Prop) (hQ : ∀ a', Fm 187 a' → sl a' 0 = u 0 → sl a' 1 = A1 → sl a' 4 = .pointer (some ⟨gk, 0, none⟩) → sl a' 5 = .pointer (some ⟨gw, 0, none⟩) → sl a' 17 = .int .i64 64 → Q (.exit 0) a' w) :
    Code.wp Try.prog (bodyN Try.f37 0) Q ⟨#[u 0, A1, u 2, u 3, .pointer (some ⟨gk, 0, none⟩), .pointer (some ⟨gw, 0, none⟩), u 6, u 7, u 8, u 9, u 10, u 11, u 12, u 13, u 14, u 15, u 16, .int .i64 64, u 18, u 19, u 20, u 21, u 22, u 23, u 24, u 25, u 26, u 27, u 28, u 29, u 30, u 31, u 32, u 33, u 34, u 35, u 36, u 37, u 38, u 39, u 40, u 41, u 42, u 43, u 44, u 45, u 46, u 47, u 48, u 49, u 50, u 51, u 52, u 53, u 54, u 55, u 56, u 57, u 58, u 59, u 60, u 61, u 62, u 63, u 64, u 65, u 66, u 67, u 68, u 69, u 70, u 71, u 72, u 73, u 74, u 75, u 76, u 77, u 78, u 79, u 80, u 81, u 82, u 83, u 84, u 85, u 86, u 87, u 88, u 89, u 90, u 91, u 92, u 93, u 94, u 95, u 96, u 97, u 98, u 99, u 100, u 101, u 102, u 103, u 104, u 105, u 106, u 107, u 108, u 109, u 110, u 111, u 112, u 113, u 114, u 115, u 116, u 117, u 118, u 119, u 120, u 121, u 122, u 123, u 124, u 125, u 126, u 127, u 128, u 129, u 130, u 131, u 132, u 133, u 134, u 135, u 136, u 137, u 138, u 139, u 140, u 141, u 142, u 143, u 144, u 145, u 146, u 147, u 148, u 149, u 150, u 151, u 152, u 153, u 154, u 155, u 156, u 157, u 158, u 159, u 160, u 161, u 162, u 163, u 164, u 165, u 166, u 167, u 168, u 169, u 170, u 171, u 172, u 173, u 174, u 175, u 176, u 177, u 178, u 179, u 180, u 181, u 182, u 183, u 184, u 185, u 186], []⟩ w := by
  conv => arg 2; whnf
  go_wp2
  exact hQ _ ⟨rfl, rfl⟩ rfl rfl rfl rfl rfl
theorem loop1 (sp : Value) (ad : Addr) (c1 gk gw : Nat) (P : List Int) (w0 : World) (hp : ∀ i : Int, 0 ≤ i → i < 64 → w0.cell? (ad.add i.toNat) = some (.int .u8 (P.getD i.toNat 0))) (hne : ad.block ≠ gw)
    (Q : Exit → Act → World → Prop) (hQ : ∀ a' w', J1 sp ad c1 gk gw P w0 64 a' w' → Q (.exit 0) a' w') (a : Act) (w : World) (h : J1 sp ad c1 gk gw P w0 0 a w) : (Code.loop (bodyN Try.f37 0)).wp Try.prog Q a w := by
  refine wp_loop_up 64 (J1 sp ad c1 gk gw P w0) h ?_
  rintro t a w ht ⟨hF, h0, h1, h4, h5, h17, hf, hw⟩
  have ha := fm187 hF
  rw [h1, h4, h5, h17] at ha
  by_cases h64 : t = 64
  · subst h64
    rw [ha]
    exact exit1 (sl a) _ c1 gk gw w _ fun a' b0 b1 b2 b3 b4 b5 => hQ _ _ ⟨b0, b1.trans h0, b2, b3, b4, b5, hf, hw⟩
  · have hp' : ∀ i : Int, 0 ≤ i → i < 64 → w.cell? (ad.add i.toNat) = some (.int .u8 (P.getD i.toNat 0)) := fun i i0 i1 => hf.cell (hp i i0 i1) (fun e => hne ((addr_block ad i.toNat).symm.trans e))
    have e1 : ((t + 1 : Nat) : Int) = (t : Int) + 1 := by omega
    by_cases h16 : t < 16
    · rw [ha]
      refine round1a (sl a) ad P c1 gk gw t (by omega) (by omega) w0 w _ (sched_len P t) hw hp' hf _ ?_
      intro a' w' b0 b1 b2 b3 b4 b5 b6 b7
      refine ⟨by omega, b0, b1.trans h0, b2, b3, b4, by rw [b5, e1], b6, ?_⟩
      rw [b7, sched, if_pos h16, Int.toNat_natCast]
    · rw [ha]
      refine round1b (sl a) (some ad) c1 gk gw t (by omega) (by omega) (by omega) w0 w _ (sched_len P t) hw hf _ ?_
      intro a' w' b0 b1 b2 b3 b4 b5 b6 b7
      refine ⟨by omega, b0, b1.trans h0, b2, b3, b4, by rw [b5, e1], b6, ?_⟩
      rw [b7, sched, if_neg h16, Int.toNat_natCast]
end Go.Proofs.Ytgnghgeljlaedaa.Sha
