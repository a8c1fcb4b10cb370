/-
  The chapter's example is right.
-/
import Derived.Test.YtgnghgeljlaedaaShaY
import Derived.Lib.SmallJoins
set_option linter.unusedVariables false
set_option linter.unusedSimpArgs false
namespace Go.Proofs.Ytgnghgeljlaedaa.Sha
open Go.RowKit Go.Proofs.YtgnghgeljlaedaaW.PrintWords Go.Proofs.YtgnghgeljlaedaaW.PrintLast Go.Proofs.YtgnghgeljlaedaaW.PrintMore Go.Proofs.Ytgnghgeljlaedaa.Q Go.Proofs.Ytgnghgeljlaedaa.Fr Go.Proofs.Ytgnghgeljlaedaa.Oct

theorem Rd.mark {w : World} {g : Nat} {ys : List Int} {t : TypeId} {fr : Nat × Nat} (h : w.heap[g]? = some (.cells (encs (Value.int .u8) ys).toArray t fr)) : Rd w (some ⟨g, 0, none⟩) ys := fun j u hu => ⟨_, rfl, by
  rw [add_at]
  simp [World.cell?, h, hu]⟩
def abcHash : List Int := [186, 120, 22, 191, 143, 1, 207, 234, 65, 65, 64, 222, 93, 174, 34, 35, 176, 3, 97, 163, 150, 23, 122, 156, 180, 16, 255, 97, 242, 0, 21, 173]
theorem abc_hash : sha [97, 98, 99] = abcHash := by kernel_rfl
set_option maxHeartbeats 8000000 in
set_option maxRecDepth 100000 in
theorem alive_calls (w : World) : Calls Try.prog 12 #[] w fun e w' => e = .returned (.bool true) ∧ Below w.heap.size w w' := by
  go_enter Try.func12, Try.ntmps12
  have kc := Go.Joins.run_convert_bytes_const_at (P := Try.prog) w 23 5 (encs (Value.int .u8) [97, 98, 99]).toArray 3 3 w.heap.size rfl Try.underlying23 Try.underlying5
  simp only [encs, List.map_cons, List.map_nil, List.size_toArray, List.length_cons, List.length_nil] at kc
  go_wp2_with (fail)
  have hr1 : Rd (w.alloc (.cells (encs (Value.int .u8) [97, 98, 99]).toArray 5 (3, 4))) (some ⟨w.heap.size, 0, none⟩) [97, 98, 99] := Rd.mark (heap_alloc_new _ _)
  have hb1 := below_alloc (Below.refl w.heap.size w) (.cells (encs (Value.int .u8) [97, 98, 99]).toArray 5 (3, 4))
  refine (ssum_calls (some ⟨w.heap.size, 0, none⟩) 3 [97, 98, 99] _ hr1 (by simp) (by simp)).mono ?_
  rintro e w2 ⟨v2, rfl, hq2, hb2⟩
  rw [abc_hash] at hq2
  have hb : Below w.heap.size w w2 := ((Fr.of_below hb1 (fun _ => False)).trans (Fr.of_below hb2 (fun _ => False)) (fun i h => h.elim)).below _ (Nat.le_refl _) (fun i h => h.elim)
  have HB := Aside0.mk hb
  obtain ⟨g, c2, rfl⟩ : ∃ g c2, v2 = .slice (some ⟨g, 0, none⟩) abcHash.length c2 := by
    rcases hq2.2 with ⟨_, h⟩ | ⟨g, cap, cur, hv, _⟩
    · exact absurd h (by decide)
    · exact ⟨g, cap, hv⟩
  have hc2 : abcHash.length ≤ c2 := by obtain ⟨A, c, e, hc⟩ := hq2.slice; cases e; exact hc
  have hrd : Rd w2 (some ⟨g, 0, none⟩) abcHash := QB.rd (q_of_own hq2)
  have k0 := hrd.cells 0 (by decide) (by decide)
  have k1 := hrd.cells 1 (by decide) (by decide)
  have k31 := hrd.cells 31 (by decide) (by decide)
  rw [show abcHash.getD (0 : Int).toNat 0 = 186 from rfl] at k0
  rw [show abcHash.getD (1 : Int).toNat 0 = 120 from rfl] at k1
  rw [show abcHash.getD (31 : Int).toNat 0 = 173 from rfl] at k31
  rw [show (0 : Int).toNat = 0 from rfl, add_at] at k0
  rw [show (1 : Int).toNat = 1 from rfl, add_at] at k1
  rw [show (31 : Int).toNat = 31 from rfl, add_at] at k31
  simp only [Nat.zero_add] at k0 k1 k31
  rw [show abcHash.length = 32 from rfl] at hc2
  clear hr1 hb1 hq2 hb2 hb hrd kc
  have e32 : abcHash.length = 32 := rfl
  rw [e32]
  go_wp2
  go_ret
  exact ⟨by first | rfl | simp, HB.out⟩
end Go.Proofs.Ytgnghgeljlaedaa.Sha
