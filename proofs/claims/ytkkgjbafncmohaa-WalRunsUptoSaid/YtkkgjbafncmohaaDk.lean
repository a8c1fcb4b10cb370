/-
  A disk in a law: it lies apart from all that was there.
-/
import Derived.Test.YtkkgjbafncmohaaDisk
set_option linter.unusedVariables false
set_option linter.unusedSimpArgs false
namespace Go.Proofs.Ytkkgjbafncmohaa.Sha
open Go.RowKit Go.Proofs.YtkkgjbafncmohaaW.PrintWords Go.Proofs.YtkkgjbafncmohaaW.PrintLast Go.Proofs.YtkkgjbafncmohaaW.PrintMore Go.Proofs.Ytkkgjbafncmohaa.Q Go.Proofs.Ytkkgjbafncmohaa.Fr Go.Proofs.Ytkkgjbafncmohaa.Oct

/-- A disk made since w, and nothing of w was written. -/
structure Dk (w W : World) (g : Nat) (bv : Value) (d : Dsk) : Prop where
  F : Fr (fun _ => False) w W
  at' : DiskAt W w.heap.size g bv d
theorem Dk.new {w W W' : World} {g : Nat} {d : Dsk} (hF : Fr (fun _ => False) w W) (h : DiskAt W' W.heap.size g (.slice none 0 0) d) (hb : Below W.heap.size W W') : Dk w W' g (.slice none 0 0) d :=
  ⟨hF.trans (Fr.of_below hb (fun _ => False)) (fun i h => h.elim), ⟨h.heap, h.row.lower hF.size, Nat.le_trans hF.size h.ge, h.ne, h.rm, h.ln⟩⟩
theorem Dk.call {w W W' : World} {g : Nat} {bv bv' : Value} {d d' : Dsk} (h : Dk w W g bv d) (hf : Fr (Fp g bv) W W') (ha : DiskAt W' w.heap.size g bv' d') : Dk w W' g bv' d' :=
  ⟨h.F.trans hf (fun k hk => .inr (h.at'.base k hk)), ha⟩
theorem Dk.call1 {w W W' : World} {g : Nat} {bv bv' : Value} {d d' : Dsk} (h : Dk w W g bv d) (hf : Fr (fun k => k = g) W W') (ha : DiskAt W' w.heap.size g bv' d') : Dk w W' g bv' d' :=
  h.call (hf.mono (fun i e => .inl e)) ha
theorem Dk.fr {w W W' : World} {g : Nat} {bv : Value} {d : Dsk} {S : Nat → Prop} (h : Dk w W g bv d) (hf : Fr S W W') (hS : ∀ k, S k → w.heap.size ≤ k ∧ ¬ Fp g bv k) : Dk w W' g bv d :=
  ⟨h.F.trans hf (fun k hk => .inr (hS k hk).1), h.at'.fr hf (fun k hk hs => (hS k hs).2 hk)⟩
theorem Dk.below {w W W' : World} {g : Nat} {bv : Value} {d : Dsk} (h : Dk w W g bv d) (hb : Below W.heap.size W W') : Dk w W' g bv d := h.fr (Fr.of_below hb (fun _ => False)) (fun k hk => hk.elim)
/-- What is new lies apart. -/
theorem Dk.apart {w W : World} {g : Nat} {bv : Value} {d : Dsk} (h : Dk w W g bv d) : ∀ k, W.heap.size ≤ k → w.heap.size ≤ k ∧ ¬ Fp g bv k := fun k hk => ⟨Nat.le_trans h.F.size hk, fun e => by have := h.at'.lt k e; omega⟩
theorem Dk.ne {w W : World} {g : Nat} {bv : Value} {d : Dsk} (h : Dk w W g bv d) : g < W.heap.size := h.at'.lt g (.inl rfl)

end Go.Proofs.Ytkkgjbafncmohaa.Sha
