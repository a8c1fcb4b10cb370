/-
  A disk and the document's: what is done with both.
-/
import Derived.Test.YtgcajmkbdhjooaaRefC
set_option linter.unusedVariables false
set_option linter.unusedSimpArgs false
namespace Go.Proofs.Ytgcajmkbdhjooaa.Sha
open Go.RowKit Go.Proofs.YtgcajmkbdhjooaaW.PrintWords Go.Proofs.YtgcajmkbdhjooaaW.PrintLast Go.Proofs.YtgcajmkbdhjooaaW.PrintMore Go.Proofs.Ytgcajmkbdhjooaa.Q Go.Proofs.Ytgcajmkbdhjooaa.Fr Go.Proofs.Ytgcajmkbdhjooaa.Oct

/-- The document's disk stands for the disk, behind i acts. -/
structure Rel (d : Dsk) (r : Rdk) (i : Nat) : Prop where
  b : r.bytes = d.bytes
  rm : r.room = d.room
  dd : r.dead = d.dead
  st : r.breaks = d.set
  te : r.tear = d.tear
  wr : d.set = true → r.writes = d.writes
  lo : -(i : Int) ≤ d.writes
  hi : d.writes ≤ 9223372036854775807
  rlo : 0 ≤ r.writes
  rhi : r.writes ≤ 9223372036854775807
theorem Rel.new (n : Int) : Rel (dsk0 n) (rdk0 n) 0 := ⟨rfl, rfl, rfl, rfl, rfl, fun h => (by cases h), by simp [dsk0], by simp [dsk0], by simp [rdk0], by simp [rdk0]⟩
theorem Rel.step {d : Dsk} {r : Rdk} {i : Nat} (h : Rel d r i) : Rel d r (i + 1) := ⟨h.b, h.rm, h.dd, h.st, h.te, h.wr, by have := h.lo; omega, h.hi, h.rlo, h.rhi⟩
theorem Rel.brk {d : Dsk} {r : Rdk} {i : Nat} (h : Rel d r i) (n t : Int) (hn : n ≤ 9223372036854775807) : Rel (d.brk n t) (r.brk n t) (i + 1) :=
  ⟨h.b, h.rm, h.dd, rfl, rfl, fun _ => rfl, by simp only [Dsk.brk]; omega, by simp only [Dsk.brk]; omega, by simp only [Rdk.brk]; omega, by simp only [Rdk.brk]; omega⟩
theorem Rel.mend {d : Dsk} {r : Rdk} {i : Nat} (h : Rel d r i) : Rel d.mend r.mend (i + 1) :=
  ⟨h.b, h.rm, rfl, rfl, rfl, fun _ => rfl, by simp only [Dsk.mend]; omega, by simp [Dsk.mend], by simp [Rdk.mend], by simp [Rdk.mend]⟩
theorem Rel.room {d : Dsk} {r : Rdk} {i : Nat} (h : Rel d r i) (n : Int) : Rel (d.rm n) { r with room := roomI n } (i + 1) :=
  ⟨h.b, rfl, h.dd, h.st, h.te, h.wr, by have := h.lo; simp only [Dsk.rm]; omega, h.hi, h.rlo, h.rhi⟩
theorem Rel.app {d : Dsk} {r : Rdk} {i : Nat} (h : Rel d r i) (b : List Int) : (r.write b false).2 = (d.app b).1 ∧ Rel (d.app b).2 (r.write b false).1 (i + 1) := by
  have hw : r.write b false = r.wr b (r.bytes ++ b) false := rfl
  have hlen : ((r.bytes ++ b).length : Int) = (d.bytes.length : Int) + (b.length : Int) := by rw [h.b]; simp
  have h1 := h.lo
  rw [hw]
  by_cases hd : d.dead = true
  · rw [Dsk.app_dead d b hd, Rdk.wr_dead r b _ _ (h.dd.trans hd)]
    exact ⟨rfl, h.step⟩
  have hd : d.dead = false := by simpa using hd
  by_cases hf : d.room < (d.bytes.length : Int) + (b.length : Int)
  · rw [Dsk.app_full d b hd hf, Rdk.wr_full r b _ _ (h.dd.trans hd) (by rw [hlen, h.rm]; exact hf)]
    exact ⟨rfl, h.step⟩
  have hf : (d.bytes.length : Int) + (b.length : Int) ≤ d.room := Int.not_lt.1 hf
  have hf' : ((r.bytes ++ b).length : Int) ≤ r.room := by rw [hlen, h.rm]; exact hf
  by_cases hs : d.set = true
  · have hwr := h.wr hs
    by_cases h0 : d.writes = 0
    · rw [Dsk.app_tear d b hd hf ⟨hs, h0⟩, Rdk.wr_tear r b _ _ (h.dd.trans hd) hf' (h.st.trans hs) (hwr.trans h0)]
      refine ⟨rfl, ⟨?_, h.rm, rfl, h.st, h.te, h.wr, by simp only; omega, h.hi, h.rlo, h.rhi⟩⟩
      simp only [Bool.false_eq_true, if_false]
      rw [h.b, h.te, List.take_append]
      rw [List.take_of_length_le (by omega), show d.bytes.length + clampN d.tear b.length - d.bytes.length = clampN d.tear b.length by omega]
    · rw [Dsk.app_ok d b hd hf (fun e => h0 e.2), Rdk.wr_ok1 r b _ _ (h.dd.trans hd) hf' (h.st.trans hs) (fun e => h0 (hwr.symm.trans e))]
      have h2 := h.rlo; have h3 := h.rhi; have h4 := h.hi
      exact ⟨rfl, ⟨by simp only [h.b], h.rm, h.dd, h.st, h.te, fun _ => by simp only [hwr], by simp only; omega, by simp only; omega, by simp only; omega, by simp only; omega⟩⟩
  · have hs : d.set = false := by simpa using hs
    rw [Dsk.app_ok d b hd hf (fun e => by rw [hs] at e; exact absurd e.1 (by decide)), Rdk.wr_ok0 r b _ _ (h.dd.trans hd) hf' (h.st.trans hs)]
    have h4 := h.hi
    exact ⟨rfl, ⟨by simp only [h.b], h.rm, h.dd, h.st, h.te, fun e => (by rw [hs] at e; cases e), by simp only; omega, by simp only; omega, h.rlo, h.rhi⟩⟩
theorem Rel.rep {d : Dsk} {r : Rdk} {i : Nat} (h : Rel d r i) (b : List Int) : (r.write b true).2 = (d.rep b).1 ∧ Rel (d.rep b).2 (r.write b true).1 (i + 1) := by
  have hw : r.write b true = r.wr b b true := rfl
  have h1 := h.lo
  rw [hw]
  by_cases hd : d.dead = true
  · rw [Dsk.rep_dead d b hd, Rdk.wr_dead r b _ _ (h.dd.trans hd)]
    exact ⟨rfl, h.step⟩
  have hd : d.dead = false := by simpa using hd
  by_cases hf : d.room < (b.length : Int)
  · rw [Dsk.rep_full d b hd hf, Rdk.wr_full r b _ _ (h.dd.trans hd) (by rw [h.rm]; exact hf)]
    exact ⟨rfl, h.step⟩
  have hf : (b.length : Int) ≤ d.room := Int.not_lt.1 hf
  have hf' : (b.length : Int) ≤ r.room := by rw [h.rm]; exact hf
  by_cases hs : d.set = true
  · have hwr := h.wr hs
    by_cases h0 : d.writes = 0
    · rw [Dsk.rep_break d b hd hf ⟨hs, h0⟩, Rdk.wr_tear r b _ _ (h.dd.trans hd) hf' (h.st.trans hs) (hwr.trans h0)]
      exact ⟨rfl, ⟨h.b, h.rm, rfl, h.st, h.te, h.wr, by simp only; omega, h.hi, h.rlo, h.rhi⟩⟩
    · rw [Dsk.rep_ok d b hd hf (fun e => h0 e.2), Rdk.wr_ok1 r b _ _ (h.dd.trans hd) hf' (h.st.trans hs) (fun e => h0 (hwr.symm.trans e))]
      have h2 := h.rlo; have h3 := h.rhi; have h4 := h.hi
      exact ⟨rfl, ⟨rfl, h.rm, h.dd, h.st, h.te, fun _ => by simp only [hwr], by simp only; omega, by simp only; omega, by simp only; omega, by simp only; omega⟩⟩
  · have hs : d.set = false := by simpa using hs
    rw [Dsk.rep_ok d b hd hf (fun e => by rw [hs] at e; exact absurd e.1 (by decide)), Rdk.wr_ok0 r b _ _ (h.dd.trans hd) hf' (h.st.trans hs)]
    have h4 := h.hi
    exact ⟨rfl, ⟨rfl, h.rm, h.dd, h.st, h.te, fun e => (by rw [hs] at e; cases e), by simp only; omega, by simp only; omega, h.rlo, h.rhi⟩⟩
end Go.Proofs.Ytgcajmkbdhjooaa.Sha
