/-
  SHA's block, the third loop: the state's words are added to.
-/
import Derived.Test.YtgnghgeljlaedaaShaA
set_option linter.unusedVariables false
set_option linter.unusedSimpArgs false
namespace Go.Proofs.Ytgnghgeljlaedaa.Sha
open Go.RowKit Go.Proofs.YtgnghgeljlaedaaW.PrintWords Go.Proofs.YtgnghgeljlaedaaW.PrintLast Go.Proofs.YtgnghgeljlaedaaW.PrintMore Go.Proofs.Ytgnghgeljlaedaa.Q Go.Proofs.Ytgnghgeljlaedaa.Fr

set_option maxHeartbeats 8000000 in
set_option maxRecDepth 100000 in
theorem round3 (u : Nat → Value) (gs gv : Nat) (t : Int) (ht0 : 0 ≤ t) (ht : t < 8) (w0 w : World) (S : List Int) (hS : S.length = 8) (tl : List Value) (ts : TypeId) (st vt : Int)
   (hs : w.heap[gs]? = some (.cells (encs (Value.int .u32) S ++ tl).toArray ts (0, 0))) (hst : S.getD t.toNat 0 = st)
   (hv : w.cell? ⟨gv, t.toNat, none⟩ = some (.int .u32 vt)) (hf : Fr (fun k => k = gs) w0 w)
   (Q : Exit → Act → World → Prop) (hQ : ∀ a' w', Fm 187 a' → sl a' 0 = .pointer (some ⟨gs, 0, none⟩) → sl a' 9 = .pointer (some ⟨gv, 0, none⟩) → sl a' 172 = .int .i64 (t + 1) →
      Fr (fun k => k = gs) w0 w' → w'.heap[gs]? = some (.cells (encs (Value.int .u32) (S.set t.toNat ((st + vt) % 4294967296)) ++ tl).toArray ts (0, 0)) → Q .normal a' w') :
    Code.wp Try.prog (bodyN Try.f37 2) Q ⟨#[.pointer (some ⟨gs, 0, none⟩), u 1, u 2, u 3, u 4, u 5, u 6, u 7, u 8, .pointer (some ⟨gv, 0, none⟩), u 10, u 11, u 12, u 13, u 14, u 15, u 16, u 17, u 18, u 19, u 20, u 21, u 22, u 23, u 24, u 25, u 26, u 27, u 28, u 29, u 30, u 31, u 32, u 33, u 34, u 35, u 36, u 37, u 38, u 39, u 40, u 41, u 42, u 43, u 44, u 45, u 46, u 47, u 48, u 49, u 50, u 51, u 52, u 53, u 54, u 55, u 56, u 57, u 58, u 59, u 60, u 61, u 62, u 63, u 64, u 65, u 66, u 67, u 68, u 69, u 70, u 71, u 72, u 73, u 74, u 75, u 76, u 77, u 78, u 79, u 80, u 81, u 82, u 83, u 84, u 85, u 86, u 87, u 88, u 89, u 90, u 91, u 92, u 93, u 94, u 95, u 96, u 97, u 98, u 99, u 100, u 101, u 102, u 103, u 104, u 105, u 106, u 107, u 108, u 109, u 110, u 111, u 112, u 113, u 114, u 115, u 116, u 117, u 118, u 119, u 120, u 121, u 122, u 123, u 124, u 125, u 126, u 127, u 128, u 129, u 130, u 131, u 132, u 133, u 134, u 135, u 136, u 137, u 138, u 139, u 140, u 141, u 142, u 143, u 144, u 145, u 146, u 147, u 148, u 149, u 150, u 151, u 152, u 153, u 154, u 155, u 156, u 157, u 158, u 159, u 160, u 161, u 162, u 163, u 164, u 165, u 166, u 167, u 168, u 169, u 170, u 171, .int .i64 t, u 173, u 174, u 175, u 176, u 177, u 178, u 179, u 180, u 181, u 182, u 183, u 184, u 185, u 186], []⟩ w := by
  conv => arg 2; whnf
  have c0 := decide_eq_true ht
  have hc := cellW hs t (by omega) (by omega)
  rw [hst] at hc
  go_wp2
  refine region_tail 10 (by kernel_rfl) (by kernel_rfl) ?_
  intro w3 e3
  have e4 : ∀ p, w3.cell? p = w.cell? p := fun p => by rw [e3]; simp
  rw [← e4] at hc hv
  have hs3 : w3.heap[gs]? = some (.cells (encs (Value.int .u32) S ++ tl).toArray ts (0, 0)) := by rw [e3]; exact hs
  have hf3 : Fr (fun k => k = gs) w0 w3 := by rw [e3]; exact hf.of_drew
  clear hs hf e3 e4
  have HS := Aside0.mk hs3
  have HF := Aside0.mk hf3
  clear hs3 hf3
  simp only [List.take_succ_cons, List.take_zero, List.drop_succ_cons, List.drop_zero]
  repeat still_step
  refine wpStill_nil ?_
  have fz := frozenV HS.out t.toNat
  go_wp2
  refine hQ _ _ ⟨rfl, rfl⟩ rfl rfl rfl (HF.out.setCell (.inl rfl) _) ?_
  exact heap_putW HS.out _ (by omega) _

set_option maxHeartbeats 8000000 in
set_option maxRecDepth 100000 in
theorem exit3 (u : Nat → Value) (w : World) (Q : Exit → Act → World → Prop) (hQ : ∀ a', Fm 187 a' → sl a' 0 = u 0 → sl a' 9 = u 9 → sl a' 172 = .int .i64 8 → Q (.exit 4) a' w) :
    Code.wp Try.prog (bodyN Try.f37 2) Q ⟨#[u 0, u 1, u 2, u 3, u 4, u 5, u 6, u 7, u 8, u 9, u 10, u 11, u 12, u 13, u 14, u 15, u 16, u 17, u 18, u 19, u 20, u 21, u 22, u 23, u 24, u 25, u 26, u 27, u 28, u 29, u 30, u 31, u 32, u 33, u 34, u 35, u 36, u 37, u 38, u 39, u 40, u 41, u 42, u 43, u 44, u 45, u 46, u 47, u 48, u 49, u 50, u 51, u 52, u 53, u 54, u 55, u 56, u 57, u 58, u 59, u 60, u 61, u 62, u 63, u 64, u 65, u 66, u 67, u 68, u 69, u 70, u 71, u 72, u 73, u 74, u 75, u 76, u 77, u 78, u 79, u 80, u 81, u 82, u 83, u 84, u 85, u 86, u 87, u 88, u 89, u 90, u 91, u 92, u 93, u 94, u 95, u 96, u 97, u 98, u 99, u 100, u 101, u 102, u 103, u 104, u 105, u 106, u 107, u 108, u 109, u 110, u 111, u 112, u 113, u 114, u 115, u 116, u 117, u 118, u 119, u 120, u 121, u 122, u 123, u 124, u 125, u 126, u 127, u 128, u 129, u 130, u 131, u 132, u 133, u 134, u 135, u 136, u 137, u 138, u 139, u 140, u 141, u 142, u 143, u 144, u 145, u 146, u 147, u 148, u 149, u 150, u 151, u 152, u 153, u 154, u 155, u 156, u 157, u 158, u 159, u 160, u 161, u 162, u 163, u 164, u 165, u 166, u 167, u 168, u 169, u 170, u 171, .int .i64 8, u 173, u 174, u 175, u 176, u 177, u 178, u 179, u 180, u 181, u 182, u 183, u 184, u 185, u 186], []⟩ w := by
  conv => arg 2; whnf
  go_wp2
  exact hQ _ ⟨rfl, rfl⟩ rfl rfl rfl
/-- The third loop's relation. -/
def J3 (gs gv : Nat) (S V : List Int) (tl : List Value) (ts : TypeId) (w0 : World) (t : Nat) (a : Act) (w : World) : Prop :=
  Fm 187 a ∧ sl a 0 = .pointer (some ⟨gs, 0, none⟩) ∧ sl a 9 = .pointer (some ⟨gv, 0, none⟩) ∧ sl a 172 = .int .i64 (t : Int) ∧
    Fr (fun k => k = gs) w0 w ∧ w.heap[gs]? = some (.cells (encs (Value.int .u32) (adds S V t) ++ tl).toArray ts (0, 0))
theorem loop3 (gs gv : Nat) (S V : List Int) (tl : List Value) (ts tv : TypeId) (w0 : World) (hS : S.length = 8) (hV : V.length = 8) (hv : w0.heap[gv]? = some (.cells (encs (Value.int .u32) V).toArray tv (0, 0))) (hn : gv ≠ gs)
    (Q : Exit → Act → World → Prop) (hQ : ∀ a' w', J3 gs gv S V tl ts w0 8 a' w' → Q (.exit 4) a' w') (a : Act) (w : World) (h : J3 gs gv S V tl ts w0 0 a w) : (Code.loop (bodyN Try.f37 2)).wp Try.prog Q a w := by
  refine wp_loop_up 8 (J3 gs gv S V tl ts w0) h ?_
  rintro t a w ht ⟨hF, h0, h9, h172, hf, hs⟩
  have ha := fm187 hF
  by_cases h64 : t = 8
  · subst h64
    rw [h172] at ha
    rw [ha]
    exact exit3 (sl a) w _ fun a' b0 b1 b2 b3 => hQ _ _ ⟨b0, b1.trans h0, b2.trans h9, b3, hf, hs⟩
  · have e1 : ((t + 1 : Nat) : Int) = (t : Int) + 1 := by omega
    rw [h0, h9, h172] at ha
    have cv := cellV (hf.blk hv hn) (t : Int) (by omega) (by omega)
    rw [ha]
    refine round3 (sl a) gs gv t (by omega) (by omega) w0 w _ ((adds_len S V t).trans hS) tl ts _ (V.getD t 0) hs rfl cv hf _ ?_
    intro a' w' b0 b1 b2 b3 b4 b5
    refine ⟨by omega, b0, b1, b2, by rw [b3, e1], b4, ?_⟩
    rw [b5, adds, Int.toNat_natCast]
end Go.Proofs.Ytgnghgeljlaedaa.Sha
