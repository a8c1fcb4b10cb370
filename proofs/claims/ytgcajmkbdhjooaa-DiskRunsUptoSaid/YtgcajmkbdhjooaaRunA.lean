/-
  DiskRuns: what its loop keeps; an act read out of the argument.
-/
import Derived.Test.YtgcajmkbdhjooaaRunX
set_option linter.unusedVariables false
set_option linter.unusedSimpArgs false
namespace Go.Proofs.Ytgcajmkbdhjooaa.Sha
open Go.RowKit Go.Proofs.YtgcajmkbdhjooaaW.PrintWords Go.Proofs.YtgcajmkbdhjooaaW.PrintLast Go.Proofs.YtgcajmkbdhjooaaW.PrintMore Go.Proofs.Ytgcajmkbdhjooaa.Q Go.Proofs.Ytgcajmkbdhjooaa.Fr Go.Proofs.Ytgcajmkbdhjooaa.Oct
open Go.Proofs.Ytgcajmkbdhjooaa.Open (Ak kAct kAct_open)

def zAk : Ak := ⟨0, [], 0, 0⟩
theorem at_act {w : World} {A : Option Addr} {l : List Ak} (h : Kd.C kAct w A l.length l) (i : Nat) (hi : i < l.length) : ∃ ad A1 c1, A = some ad ∧ w.cell? (ad.add (i * 4)) = some (.int .i64 (l.getD i zAk).kind) ∧ w.cell? ⟨(ad.add (i * 4)).block, (ad.add (i * 4)).off + 1, none⟩ = some (.slice A1 (l.getD i zAk).bytes.length c1) ∧ w.cell? ⟨(ad.add (i * 4)).block, (ad.add (i * 4)).off + 2, none⟩ = some (.int .i64 (l.getD i zAk).a) ∧ w.cell? ⟨(ad.add (i * 4)).block, (ad.add (i * 4)).off + 3, none⟩ = some (.int .i64 (l.getD i zAk).b) ∧ (l.getD i zAk).bytes.length ≤ c1 ∧ Rd w A1 (l.getD i zAk).bytes := by
  obtain ⟨ad, c, e, _, hK, hc0⟩ := Kd.C_get h zAk (i : Int) (by omega) (by omega)
  rw [Int.toNat_natCast] at hK hc0
  have hc : ∀ j u, c[j]? = some u → w.cell? (ad.add (i * 4 + j)) = some u := hc0
  obtain ⟨A1, c1, rfl, l1, g1⟩ := kAct_open hK
  exact ⟨ad, A1, c1, e, hc 0 _ rfl, by rw [← add_field _ _ 1 (by omega)]; exact hc 1 _ rfl, by rw [← add_field _ _ 2 (by omega)]; exact hc 2 _ rfl, by rw [← add_field _ _ 3 (by omega)]; exact hc 3 _ rfl, l1, Rd.of_C g1⟩
/-- What the loop keeps: the disk, the document's in its block. -/
structure Rn (w W : World) (g gw : Nat) (bv rv : Value) (d : Dsk) (r : Rdk) (i : Nat) : Prop where
  dk : Dk w W g bv d
  want : W.heap[gw]? = some (.cells (rcs rv r) 45 (0, 0))
  lies : Lies W rv r.bytes
  ge : w.heap.size ≤ gw
  ngw : ¬ Fp g bv gw
  far : ∀ k, rv.ownBlock = some k → k < W.heap.size ∧ k ≠ gw ∧ ¬ Fp g bv k
  rel : Rel d r i
/-- Other blocks are written. -/
theorem Rn.fr {w W W' : World} {g gw : Nat} {bv rv : Value} {d : Dsk} {r : Rdk} {i : Nat} {S : Nat → Prop} (h : Rn w W g gw bv rv d r i) (hf : Fr S W W') (hS : ∀ k, S k → w.heap.size ≤ k ∧ ¬ Fp g bv k ∧ k ≠ gw ∧ rv.ownBlock ≠ some k) : Rn w W' g gw bv rv d r i :=
  ⟨h.dk.fr hf (fun k hk => ⟨(hS k hk).1, (hS k hk).2.1⟩), hf.blk h.want (fun hk => (hS gw hk).2.2.1 rfl), h.lies.fr hf (fun k hk hs => (hS k hs).2.2.2 hk), h.ge, h.ngw, fun k hk => ⟨Nat.lt_of_lt_of_le (h.far k hk).1 hf.size, (h.far k hk).2⟩, h.rel⟩
theorem Rn.below {w W W' : World} {g gw : Nat} {bv rv : Value} {d : Dsk} {r : Rdk} {i : Nat} (h : Rn w W g gw bv rv d r i) (hb : Below W.heap.size W W') : Rn w W' g gw bv rv d r i := h.fr (Fr.of_below hb (fun _ => False)) (fun k hk => hk.elim)
/-- What is new lies apart. -/
theorem Rn.new {w W : World} {g gw : Nat} {bv rv : Value} {d : Dsk} {r : Rdk} {i : Nat} (h : Rn w W g gw bv rv d r i) : ∀ k, W.heap.size ≤ k → w.heap.size ≤ k ∧ ¬ Fp g bv k ∧ k ≠ gw ∧ rv.ownBlock ≠ some k := fun k hk => by
  have h1 := h.dk.apart k hk
  have h2 := blk_lt h.want
  exact ⟨h1.1, h1.2, fun e => by omega, fun e => by have := (h.far k e).1; omega⟩
/-- The disk has done something, the document's not yet. -/
structure Rh (w W : World) (g gw : Nat) (bv rv : Value) (d' : Dsk) (r : Rdk) : Prop where
  dk : Dk w W g bv d'
  want : W.heap[gw]? = some (.cells (rcs rv r) 45 (0, 0))
  lies : Lies W rv r.bytes
  ge : w.heap.size ≤ gw
  ngw : ¬ Fp g bv gw
  far : ∀ k, rv.ownBlock = some k → k < W.heap.size ∧ k ≠ gw ∧ ¬ Fp g bv k
theorem Rn.act {w W W' : World} {g gw : Nat} {bv bv' rv : Value} {d d' : Dsk} {r : Rdk} {i : Nat} (h : Rn w W g gw bv rv d r i) (hf : Fr (Fp g bv) W W') (ha : DiskAt W' w.heap.size g bv' d') (hn : ∀ k, Fp g bv' k → Fp g bv k ∨ W.heap.size ≤ k) : Rh w W' g gw bv' rv d' r :=
  ⟨h.dk.call hf ha, hf.blk h.want h.ngw, h.lies.fr hf (fun k hk => (h.far k hk).2.2), h.ge, fun e => (hn gw e).elim h.ngw (fun e => by have := blk_lt h.want; omega), fun k hk => ⟨Nat.lt_of_lt_of_le (h.far k hk).1 hf.size, (h.far k hk).2.1, fun e => (hn k e).elim (h.far k hk).2.2 (fun e => by have := (h.far k hk).1; omega)⟩⟩
theorem Rn.act1 {w W W' : World} {g gw : Nat} {bv rv : Value} {d d' : Dsk} {r : Rdk} {i : Nat} (h : Rn w W g gw bv rv d r i) (hf : Fr (fun k => k = g) W W') (ha : DiskAt W' w.heap.size g bv d') : Rh w W' g gw bv rv d' r :=
  h.act (hf.mono (fun i e => .inl e)) ha (fun k hk => .inl hk)
/-- The document's has done it as well. -/
theorem Rh.wrote {w W W' : World} {g gw : Nat} {bv rv rv' : Value} {d : Dsk} {r r' : Rdk} {i : Nat} (h : Rh w W g gw bv rv d r) (hb : Below W.heap.size W W') (hl : Lies W' rv' r'.bytes) (hn : Near W.heap.size W' rv rv') {W2 : World} (h2 : Fr (fun k => k = gw) W' W2) (hw : W2.heap[gw]? = some (.cells (rcs rv' r') 45 (0, 0))) (hr : Rel d r' i) : Rn w W2 g gw bv rv' d r' i := by
  have f1 := Fr.of_below hb (fun _ => False)
  have z1 := f1.size
  have z2 := h2.size
  have hlt := blk_lt h.want
  have hfar : ∀ k, rv'.ownBlock = some k → k < W2.heap.size ∧ k ≠ gw ∧ ¬ Fp g bv k := fun k hk => by
    rcases hn k hk with e | ⟨e, e2⟩
    · have := h.far k e
      exact ⟨by omega, this.2⟩
    · exact ⟨by omega, fun e3 => by omega, (h.dk.apart k e).2⟩
  exact ⟨(h.dk.below hb).fr h2 (fun k hk => by rw [hk]; exact ⟨h.ge, h.ngw⟩), hw, hl.fr h2 (fun k hk e => (hfar k hk).2.1 e), h.ge, h.ngw, hfar, hr⟩
end Go.Proofs.Ytgcajmkbdhjooaa.Sha
