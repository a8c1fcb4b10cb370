/- Parts of one work, laid together: RunP, ActW, Rn. -/
import Derived.Test.YtkkgjbafncmohaaRefM1
import Derived.Test.YtkkgjbafncmohaaOpen
import Derived.Test.YtkkgjbafncmohaaRefM2
import Derived.Test.YtkkgjbafncmohaaWalM1
/-
  A disk and the document's: what is done with both.
-/
set_option linter.unusedVariables false
set_option linter.unusedSimpArgs false
namespace Go.Proofs.Ytkkgjbafncmohaa.Sha
open Go.RowKit Go.Proofs.YtkkgjbafncmohaaW.PrintWords Go.Proofs.YtkkgjbafncmohaaW.PrintLast Go.Proofs.YtkkgjbafncmohaaW.PrintMore Go.Proofs.Ytkkgjbafncmohaa.Q Go.Proofs.Ytkkgjbafncmohaa.Fr Go.Proofs.Ytkkgjbafncmohaa.Oct

/-- The document's disk stands for the disk, behind i acts. -/
structure Rel (d : Dsk) (r : Rdk) (i : Nat) : Prop where
  b : r.bytes = d.bytes
  rm : r.room = d.room
  dd : r.dead = d.dead
  st : r.breaks = d.set
  te : r.tear = d.tear
  wr : d.set = true → r.writes = d.writes
  lo : -(i : Int) ≤ d.writes
  hi : d.writes ≤ 9223372036854775807
  rlo : 0 ≤ r.writes
  rhi : r.writes ≤ 9223372036854775807
theorem Rel.new (n : Int) : Rel (dsk0 n) (rdk0 n) 0 := ⟨rfl, rfl, rfl, rfl, rfl, fun h => (by cases h), by simp [dsk0], by simp [dsk0], by simp [rdk0], by simp [rdk0]⟩
theorem Rel.step {d : Dsk} {r : Rdk} {i : Nat} (h : Rel d r i) : Rel d r (i + 1) := ⟨h.b, h.rm, h.dd, h.st, h.te, h.wr, by have := h.lo; omega, h.hi, h.rlo, h.rhi⟩
theorem Rel.brk {d : Dsk} {r : Rdk} {i : Nat} (h : Rel d r i) (n t : Int) (hn : n ≤ 9223372036854775807) : Rel (d.brk n t) (r.brk n t) (i + 1) :=
  ⟨h.b, h.rm, h.dd, rfl, rfl, fun _ => rfl, by simp only [Dsk.brk]; omega, by simp only [Dsk.brk]; omega, by simp only [Rdk.brk]; omega, by simp only [Rdk.brk]; omega⟩
theorem Rel.mend {d : Dsk} {r : Rdk} {i : Nat} (h : Rel d r i) : Rel d.mend r.mend (i + 1) :=
  ⟨h.b, h.rm, rfl, rfl, rfl, fun _ => rfl, by simp only [Dsk.mend]; omega, by simp [Dsk.mend], by simp [Rdk.mend], by simp [Rdk.mend]⟩
theorem Rel.room {d : Dsk} {r : Rdk} {i : Nat} (h : Rel d r i) (n : Int) : Rel (d.rm n) { r with room := roomI n } (i + 1) :=
  ⟨h.b, rfl, h.dd, h.st, h.te, h.wr, by have := h.lo; simp only [Dsk.rm]; omega, h.hi, h.rlo, h.rhi⟩
theorem Rel.app {d : Dsk} {r : Rdk} {i : Nat} (h : Rel d r i) (b : List Int) : (r.write b false).2 = (d.app b).1 ∧ Rel (d.app b).2 (r.write b false).1 (i + 1) := by
  have hw : r.write b false = r.wr b (r.bytes ++ b) false := rfl
  have hlen : ((r.bytes ++ b).length : Int) = (d.bytes.length : Int) + (b.length : Int) := by rw [h.b]; simp
  have h1 := h.lo
  rw [hw]
  by_cases hd : d.dead = true
  · rw [Dsk.app_dead d b hd, Rdk.wr_dead r b _ _ (h.dd.trans hd)]
    exact ⟨rfl, h.step⟩
  have hd : d.dead = false := by simpa using hd
  by_cases hf : d.room < (d.bytes.length : Int) + (b.length : Int)
  · rw [Dsk.app_full d b hd hf, Rdk.wr_full r b _ _ (h.dd.trans hd) (by rw [hlen, h.rm]; exact hf)]
    exact ⟨rfl, h.step⟩
  have hf : (d.bytes.length : Int) + (b.length : Int) ≤ d.room := Int.not_lt.1 hf
  have hf' : ((r.bytes ++ b).length : Int) ≤ r.room := by rw [hlen, h.rm]; exact hf
  by_cases hs : d.set = true
  · have hwr := h.wr hs
    by_cases h0 : d.writes = 0
    · rw [Dsk.app_tear d b hd hf ⟨hs, h0⟩, Rdk.wr_tear r b _ _ (h.dd.trans hd) hf' (h.st.trans hs) (hwr.trans h0)]
      refine ⟨rfl, ⟨?_, h.rm, rfl, h.st, h.te, h.wr, by simp only; omega, h.hi, h.rlo, h.rhi⟩⟩
      simp only [Bool.false_eq_true, if_false]
      rw [h.b, h.te, List.take_append]
      rw [List.take_of_length_le (by omega), show d.bytes.length + clampN d.tear b.length - d.bytes.length = clampN d.tear b.length by omega]
    · rw [Dsk.app_ok d b hd hf (fun e => h0 e.2), Rdk.wr_ok1 r b _ _ (h.dd.trans hd) hf' (h.st.trans hs) (fun e => h0 (hwr.symm.trans e))]
      have h2 := h.rlo; have h3 := h.rhi; have h4 := h.hi
      exact ⟨rfl, ⟨by simp only [h.b], h.rm, h.dd, h.st, h.te, fun _ => by simp only [hwr], by simp only; omega, by simp only; omega, by simp only; omega, by simp only; omega⟩⟩
  · have hs : d.set = false := by simpa using hs
    rw [Dsk.app_ok d b hd hf (fun e => by rw [hs] at e; exact absurd e.1 (by decide)), Rdk.wr_ok0 r b _ _ (h.dd.trans hd) hf' (h.st.trans hs)]
    have h4 := h.hi
    exact ⟨rfl, ⟨by simp only [h.b], h.rm, h.dd, h.st, h.te, fun e => (by rw [hs] at e; cases e), by simp only; omega, by simp only; omega, h.rlo, h.rhi⟩⟩
theorem Rel.rep {d : Dsk} {r : Rdk} {i : Nat} (h : Rel d r i) (b : List Int) : (r.write b true).2 = (d.rep b).1 ∧ Rel (d.rep b).2 (r.write b true).1 (i + 1) := by
  have hw : r.write b true = r.wr b b true := rfl
  have h1 := h.lo
  rw [hw]
  by_cases hd : d.dead = true
  · rw [Dsk.rep_dead d b hd, Rdk.wr_dead r b _ _ (h.dd.trans hd)]
    exact ⟨rfl, h.step⟩
  have hd : d.dead = false := by simpa using hd
  by_cases hf : d.room < (b.length : Int)
  · rw [Dsk.rep_full d b hd hf, Rdk.wr_full r b _ _ (h.dd.trans hd) (by rw [h.rm]; exact hf)]
    exact ⟨rfl, h.step⟩
  have hf : (b.length : Int) ≤ d.room := Int.not_lt.1 hf
  have hf' : (b.length : Int) ≤ r.room := by rw [h.rm]; exact hf
  by_cases hs : d.set = true
  · have hwr := h.wr hs
    by_cases h0 : d.writes = 0
    · rw [Dsk.rep_break d b hd hf ⟨hs, h0⟩, Rdk.wr_tear r b _ _ (h.dd.trans hd) hf' (h.st.trans hs) (hwr.trans h0)]
      exact ⟨rfl, ⟨h.b, h.rm, rfl, h.st, h.te, h.wr, by simp only; omega, h.hi, h.rlo, h.rhi⟩⟩
    · rw [Dsk.rep_ok d b hd hf (fun e => h0 e.2), Rdk.wr_ok1 r b _ _ (h.dd.trans hd) hf' (h.st.trans hs) (fun e => h0 (hwr.symm.trans e))]
      have h2 := h.rlo; have h3 := h.rhi; have h4 := h.hi
      exact ⟨rfl, ⟨rfl, h.rm, h.dd, h.st, h.te, fun _ => by simp only [hwr], by simp only; omega, by simp only; omega, by simp only; omega, by simp only; omega⟩⟩
  · have hs : d.set = false := by simpa using hs
    rw [Dsk.rep_ok d b hd hf (fun e => by rw [hs] at e; exact absurd e.1 (by decide)), Rdk.wr_ok0 r b _ _ (h.dd.trans hd) hf' (h.st.trans hs)]
    have h4 := h.hi
    exact ⟨rfl, ⟨rfl, h.rm, h.dd, h.st, h.te, fun e => (by rw [hs] at e; cases e), by simp only; omega, by simp only; omega, h.rlo, h.rhi⟩⟩
end Go.Proofs.Ytkkgjbafncmohaa.Sha

/-
  Acts of a log, read as an argument: a slice of structs of a number, records and two numbers.
-/
set_option linter.unusedVariables false
set_option linter.unusedSimpArgs false
namespace Go.Proofs.Ytkkgjbafncmohaa.Open
open Go.RowKit Go.Proofs.YtkkgjbafncmohaaW.PrintWords

/-- An act. -/
structure Aw where
  kind : Int
  recs : List (List Int)
  a : Int
  b : Int
def kAcw : Kd Aw := Kd.iso (Kd.pair (Kd.int .i64) (Kd.pair (Kd.slice 22 (Kd.slice 5 (Kd.int .u8))) (Kd.pair (Kd.int .i64) (Kd.int .i64)))) (fun x : Aw => (x.kind, x.recs, x.a, x.b))
def Aw.ok (x : Aw) : Prop := (Lit.int .i64 x.kind).wf = true ∧ (∀ y ∈ x.recs, Oct.Bys y) ∧ (Lit.int .i64 x.a).wf = true ∧ (Lit.int .i64 x.b).wf = true
theorem kAcw_open {w : World} {x : Aw} {cs : List Value} (h : kAcw.K w x cs) : ∃ A c, cs = [.int .i64 x.kind, .slice A x.recs.length c, .int .i64 x.a, .int .i64 x.b] ∧ x.recs.length ≤ c ∧ (Kd.slice 5 (Kd.int .u8)).C w A x.recs.length x.recs := by
  obtain ⟨_, _, rfl, rfl, _, _, rfl, ⟨A, c, rfl, l, g⟩, _, _, rfl, rfl, rfl⟩ := h
  exact ⟨A, c, rfl, l, g⟩
theorem opens_acw {W : World} : Opens kAcw Try.prog W 47 Aw.ok (fun x => (x.recs.map fun y => y.length + 1).sum + 5) (fun _ => True) := by
  intro H enc base fuel cs x h
  obtain ⟨xs, n, _, rfl, hl, hlen, hf⟩ := DataW.trod_struct Try.underlying47 h
  rw [show Try.prog.cellsOf 47 = 4 by kernel_rfl] at hl
  match xs, hlen with
  | [y0, y1, y2, y3], _ =>
    match cs, hl with
    | [c0, c1, c2, c3], _ =>
      have h0 := hf 0 _ rfl
      have h1 := hf 1 _ rfl
      have h2 := hf 2 _ rfl
      have h3 := hf 3 _ rfl
      rw [show Try.prog.cellsOf _ = 1 by kernel_rfl] at h0 h1 h2 h3
      obtain ⟨a0, K0, k0, B0, _⟩ := opens_int (W := W) Try.underlying3 H enc base n [c0] y0 h0
      obtain ⟨a1, K1, k1, B1, _⟩ := opens_bytess (W := W) Try.underlying24 Try.underlying22 Try.underlying5 (by kernel_rfl) (by kernel_rfl) (by kernel_rfl) H enc base n [c1] y1 h1
      obtain ⟨a2, K2, k2, B2, _⟩ := opens_int (W := W) Try.underlying3 H enc base n [c2] y2 h2
      obtain ⟨a3, K3, k3, B3, _⟩ := opens_int (W := W) Try.underlying3 H enc base n [c3] y3 h3
      refine ⟨⟨a0, a1, a2, a3⟩, ⟨[c0], [c1, c2, c3], rfl, K0, [c1], [c2, c3], rfl, K1, [c2], [c3], rfl, K2, K3⟩, ⟨k0, k1, k2, k3⟩, ?_, fun _ => trivial⟩
      simp only [List.map_cons, List.map_nil, Rows.uptoBulk, Rows.uptoBulkAll]
      simp only at B0 B1 B2 B3
      omega
theorem opensT38 (W : World) : Opens (Kd.slice 47 kAcw) Try.prog W 38 (fun l => ∀ x ∈ l, Aw.ok x) (fun l => (l.map fun x => (x.recs.map fun y => y.length + 1).sum + 5).sum + 1) (fun _ => True) := by
  intro H enc base fuel cs x h
  obtain ⟨a, h1, h2, h3, _⟩ := opens_slice Try.underlying38 (by kernel_rfl) (opens_acw (W := W)) H enc base fuel cs x h
  exact ⟨a, h1, h2, h3, fun _ => trivial⟩
end Go.Proofs.Ytkkgjbafncmohaa.Open

/-
  A log on a disk, and the document's disk: side by side.
-/
set_option linter.unusedVariables false
set_option linter.unusedSimpArgs false
namespace Go.Proofs.Ytkkgjbafncmohaa.Sha
open Go.RowKit Go.Proofs.YtkkgjbafncmohaaW.PrintWords Go.Proofs.YtkkgjbafncmohaaW.PrintLast Go.Proofs.YtkkgjbafncmohaaW.PrintMore Go.Proofs.Ytkkgjbafncmohaa.Q Go.Proofs.Ytkkgjbafncmohaa.Fr Go.Proofs.Ytkkgjbafncmohaa.Oct
open Go.Proofs.Ytkkgjbafncmohaa.Open (Aw kAcw kAcw_open)

theorem ropen_calls (r : Rdk) (v : Value) (w : World) (hv : Lies w v r.bytes) (hfar : ∀ k, v.ownBlock = some k → k < w.heap.size) (hB : Bys r.bytes) (hl : r.bytes.length ≤ 8388608) (hw : -4611686018427387904 ≤ r.writes) (hw2 : r.writes ≤ 9223372036854775807) :
    Calls Try.prog 19 #[.agg (rcs v r)] w fun e w' => ∃ v' A c, e = .returned (.tuple #[.agg (rcs v' r.open.1), .slice A r.open.2.1.length c, .int .i64 r.open.2.2]) ∧ r.open.2.1.length ≤ c ∧ St w.heap.size w' A r.open.2.1 ∧ Lies w' v' r.open.1.bytes ∧ Near w.heap.size w' v v' ∧ Below w.heap.size w w' := by
  obtain ⟨bytes, room, dead, breaks, writes, tear⟩ := r
  obtain ⟨Av, cv, rfl, hcv, hr⟩ := hv
  by_cases hd : dead = true
  · have e : Rdk.open ⟨bytes, room, dead, breaks, writes, tear⟩ = (⟨bytes, room, dead, breaks, writes, tear⟩, [], 115) := by unfold Rdk.open; rw [if_pos hd]
    rw [e]
    refine (ropen_dead bytes room dead breaks writes tear Av cv w hr hcv hfar hd).mono ?_
    rintro e w' ⟨rfl, hb⟩
    exact ⟨_, none, 0, by rw [hd]; rfl, Nat.le_refl _, (fun _ _ => CC.none0 _), ⟨Av, cv, rfl, hcv, hr.fr (Fr.of_below hb (fun _ => False)) (fun _ _ h => h)⟩, fun k hk => .inl hk, hb⟩
  have hd' : dead = false := by simpa using hd
  have hS := rscan_f bytes hB hl (bytes.length + 32) (Nat.le_refl _)
  obtain ⟨⟨rs, n⟩, hsc⟩ : ∃ z, scanA bytes = z := ⟨_, rfl⟩
  rw [hsc] at hS
  have hop : Rdk.open ⟨bytes, room, dead, breaks, writes, tear⟩ = if n < bytes.length then (if (Rdk.write ⟨bytes, room, dead, breaks, writes, tear⟩ (bytes.take n) true).2 = 0 then ((Rdk.write ⟨bytes, room, dead, breaks, writes, tear⟩ (bytes.take n) true).1, rs, 0) else ((Rdk.write ⟨bytes, room, dead, breaks, writes, tear⟩ (bytes.take n) true).1, [], (Rdk.write ⟨bytes, room, dead, breaks, writes, tear⟩ (bytes.take n) true).2)) else (⟨bytes, room, dead, breaks, writes, tear⟩, rs, 0) := by
    unfold Rdk.open
    rw [if_neg hd]
    simp only [hsc]
  by_cases hn : n < bytes.length
  · rw [if_pos hn] at hop
    obtain ⟨⟨r', er⟩, he⟩ : ∃ z, Rdk.write ⟨bytes, room, dead, breaks, writes, tear⟩ (bytes.take n) true = z := ⟨_, rfl⟩
    rw [he] at hop
    by_cases h0 : er = 0
    · rw [if_pos h0] at hop
      rw [hop]
      refine (ropen_torn0 bytes room dead breaks writes tear Av cv w hr hcv hfar hd' hl hw hw2 rs n hS hn r' er he h0).mono ?_
      rintro e w' ⟨A, c, A', c', rfl, h1, h2, h3, h4, h5⟩
      exact ⟨_, A, c, by rw [h0]; rfl, h1, h2, h3, h4, h5⟩
    · rw [if_neg h0] at hop
      rw [hop]
      refine (ropen_torn1 bytes room dead breaks writes tear Av cv w hr hcv hfar hd' hl hw hw2 rs n hS hn r' er he h0).mono ?_
      rintro e w' ⟨A, c, A', c', rfl, h1, h2, h3, h4, h5⟩
      exact ⟨_, A, c, rfl, h1, h2, h3, h4, h5⟩
  · rw [if_neg hn] at hop
    rw [hop]
    refine (ropen_whole bytes room dead breaks writes tear Av cv w hr hcv hfar hd' hl rs n hS hn).mono ?_
    rintro e w' ⟨A, c, rfl, h1, h2, hb⟩
    exact ⟨_, A, c, by rw [hd']; rfl, h1, h2, ⟨Av, cv, rfl, hcv, hr.fr (Fr.of_below hb (fun _ => False)) (fun _ _ h => h)⟩, fun k hk => .inl hk, hb⟩
theorem Rel.opn {d : Dsk} {r : Rdk} {i : Nat} (h : Rel d r i) : r.open.2 = d.open.2 ∧ Rel d.open.1 r.open.1 (i + 1) := by
  unfold Rdk.open Dsk.open
  rw [h.b, h.dd]
  by_cases hd : d.dead = true
  · rw [if_pos hd, if_pos hd]; exact ⟨rfl, h.step⟩
  rw [if_neg hd, if_neg hd]
  by_cases hn : (scanA d.bytes).2 < d.bytes.length
  · rw [if_pos hn, if_pos hn]
    obtain ⟨h1, h2⟩ := h.rep (d.bytes.take (scanA d.bytes).2)
    rw [h1]
    split
    · exact ⟨rfl, h2⟩
    · exact ⟨rfl, h2⟩
  · rw [if_neg hn, if_neg hn]; exact ⟨rfl, h.step⟩
theorem Dsk.app_bys {d : Dsk} {b : List Int} (h : Bys d.bytes) (hb : Bys b) : Bys (d.app b).2.bytes := by
  by_cases hd : d.dead = true
  · rw [Dsk.app_dead d b hd]; exact h
  have hd : d.dead = false := by simpa using hd
  by_cases hf : d.room < (d.bytes.length : Int) + (b.length : Int)
  · rw [Dsk.app_full d b hd hf]; exact h
  have hf : (d.bytes.length : Int) + (b.length : Int) ≤ d.room := Int.not_lt.1 hf
  by_cases ht : d.set = true ∧ d.writes = 0
  · rw [Dsk.app_tear d b hd hf ht]; exact h.append (hb.take _)
  · rw [Dsk.app_ok d b hd hf ht]; exact h.append hb
theorem Dsk.rep_bys {d : Dsk} {b : List Int} (h : Bys d.bytes) (hb : Bys b) : Bys (d.rep b).2.bytes := by
  by_cases hd : d.dead = true
  · rw [Dsk.rep_dead d b hd]; exact h
  have hd : d.dead = false := by simpa using hd
  by_cases hf : d.room < (b.length : Int)
  · rw [Dsk.rep_full d b hd hf]; exact h
  have hf : (b.length : Int) ≤ d.room := Int.not_lt.1 hf
  by_cases ht : d.set = true ∧ d.writes = 0
  · rw [Dsk.rep_break d b hd hf ht]; exact h
  · rw [Dsk.rep_ok d b hd hf ht]; exact hb
theorem Dsk.open_bys {d : Dsk} (h : Bys d.bytes) : Bys d.open.1.bytes ∧ (d.bytes.length ≤ 8388608 → ∀ x ∈ d.open.2.1, Bys x) := by
  unfold Dsk.open
  split
  · exact ⟨h, fun _ x hx => by simp at hx⟩
  split
  · split
    · exact ⟨Dsk.rep_bys h (h.take _), fun hl x hx => (scanA_sound d.bytes h hl).2.2 x hx⟩
    · exact ⟨Dsk.rep_bys h (h.take _), fun _ x hx => by simp at hx⟩
  · exact ⟨h, fun hl x hx => (scanA_sound d.bytes h hl).2.2 x hx⟩
/-- What the loop keeps: the disk, the document's in its block. -/
structure Rn (w W : World) (g gw : Nat) (bv rv : Value) (d : Dsk) (r : Rdk) (i : Nat) : Prop where
  dk : Dk w W g bv d
  want : W.heap[gw]? = some (.cells (rcs rv r) 40 (0, 0))
  lies : Lies W rv r.bytes
  ge : w.heap.size ≤ gw
  ngw : ¬ Fp g bv gw
  far : ∀ k, rv.ownBlock = some k → k < W.heap.size ∧ k ≠ gw ∧ ¬ Fp g bv k
  rel : Rel d r (i + 2)
/-- Other blocks are written. -/
theorem Rn.fr {w W W' : World} {g gw : Nat} {bv rv : Value} {d : Dsk} {r : Rdk} {i : Nat} {S : Nat → Prop} (h : Rn w W g gw bv rv d r i) (hf : Fr S W W') (hS : ∀ k, S k → w.heap.size ≤ k ∧ ¬ Fp g bv k ∧ k ≠ gw ∧ rv.ownBlock ≠ some k) : Rn w W' g gw bv rv d r i :=
  ⟨h.dk.fr hf (fun k hk => ⟨(hS k hk).1, (hS k hk).2.1⟩), hf.blk h.want (fun hk => (hS gw hk).2.2.1 rfl), h.lies.fr hf (fun k hk hs => (hS k hs).2.2.2 hk), h.ge, h.ngw, fun k hk => ⟨Nat.lt_of_lt_of_le (h.far k hk).1 hf.size, (h.far k hk).2⟩, h.rel⟩
theorem Rn.below {w W W' : World} {g gw : Nat} {bv rv : Value} {d : Dsk} {r : Rdk} {i : Nat} (h : Rn w W g gw bv rv d r i) (hb : Below W.heap.size W W') : Rn w W' g gw bv rv d r i := h.fr (Fr.of_below hb (fun _ => False)) (fun k hk => hk.elim)
/-- What is new lies apart. -/
theorem Rn.new {w W : World} {g gw : Nat} {bv rv : Value} {d : Dsk} {r : Rdk} {i : Nat} (h : Rn w W g gw bv rv d r i) : ∀ k, W.heap.size ≤ k → w.heap.size ≤ k ∧ ¬ Fp g bv k ∧ k ≠ gw ∧ rv.ownBlock ≠ some k := fun k hk => by
  have h1 := h.dk.apart k hk
  have h2 := blk_lt h.want
  exact ⟨h1.1, h1.2, fun e => by omega, fun e => by have := (h.far k e).1; omega⟩
/-- The disk has done something, the document's not yet. -/
structure Rh (w W : World) (g gw : Nat) (bv rv : Value) (d' : Dsk) (r : Rdk) : Prop where
  dk : Dk w W g bv d'
  want : W.heap[gw]? = some (.cells (rcs rv r) 40 (0, 0))
  lies : Lies W rv r.bytes
  ge : w.heap.size ≤ gw
  ngw : ¬ Fp g bv gw
  far : ∀ k, rv.ownBlock = some k → k < W.heap.size ∧ k ≠ gw ∧ ¬ Fp g bv k
theorem Rn.act {w W W' : World} {g gw : Nat} {bv bv' rv : Value} {d d' : Dsk} {r : Rdk} {i : Nat} (h : Rn w W g gw bv rv d r i) (hf : Fr (Fp g bv) W W') (ha : DiskAt W' w.heap.size g bv' d') (hn : ∀ k, Fp g bv' k → Fp g bv k ∨ W.heap.size ≤ k) : Rh w W' g gw bv' rv d' r :=
  ⟨h.dk.call hf ha, hf.blk h.want h.ngw, h.lies.fr hf (fun k hk => (h.far k hk).2.2), h.ge, fun e => (hn gw e).elim h.ngw (fun e => by have := blk_lt h.want; omega), fun k hk => ⟨Nat.lt_of_lt_of_le (h.far k hk).1 hf.size, (h.far k hk).2.1, fun e => (hn k e).elim (h.far k hk).2.2 (fun e => by have := (h.far k hk).1; omega)⟩⟩
theorem Rn.act1 {w W W' : World} {g gw : Nat} {bv rv : Value} {d d' : Dsk} {r : Rdk} {i : Nat} (h : Rn w W g gw bv rv d r i) (hf : Fr (fun k => k = g) W W') (ha : DiskAt W' w.heap.size g bv d') : Rh w W' g gw bv rv d' r :=
  h.act (hf.mono (fun i e => .inl e)) ha (fun k hk => .inl hk)
/-- The document's has done it as well. -/
theorem Rh.wrote {w W W' : World} {g gw : Nat} {bv rv rv' : Value} {d : Dsk} {r r' : Rdk} {i : Nat} (h : Rh w W g gw bv rv d r) (hb : Below W.heap.size W W') (hl : Lies W' rv' r'.bytes) (hn : Near W.heap.size W' rv rv') {W2 : World} (h2 : Fr (fun k => k = gw) W' W2) (hw : W2.heap[gw]? = some (.cells (rcs rv' r') 40 (0, 0))) (hr : Rel d r' (i + 2)) : Rn w W2 g gw bv rv' d r' i := by
  have f1 := Fr.of_below hb (fun _ => False)
  have z1 := f1.size
  have z2 := h2.size
  have hlt := blk_lt h.want
  have hfar : ∀ k, rv'.ownBlock = some k → k < W2.heap.size ∧ k ≠ gw ∧ ¬ Fp g bv k := fun k hk => by
    rcases hn k hk with e | ⟨e, e2⟩
    · have := h.far k e
      exact ⟨by omega, this.2⟩
    · exact ⟨by omega, fun e3 => by omega, (h.dk.apart k e).2⟩
  exact ⟨(h.dk.below hb).fr h2 (fun k hk => by rw [hk]; exact ⟨h.ge, h.ngw⟩), hw, hl.fr h2 (fun k hk e => (hfar k hk).2.1 e), h.ge, h.ngw, hfar, hr⟩
/-- A log on it. -/
structure Rw (w W : World) (gl g gw : Nat) (bv rv : Value) (d : Dsk) (r : Rdk) (i : Nat) : Prop where
  rn : Rn w W g gw bv rv d r i
  log : LogAt W gl g
  lfar : ¬ Fp g bv gl
  lnew : w.heap.size ≤ gl
  lne : gl ≠ gw
  lown : rv.ownBlock ≠ some gl
  bys : Bys d.bytes
theorem Rw.below {w W W' : World} {gl g gw : Nat} {bv rv : Value} {d : Dsk} {r : Rdk} {i : Nat} (h : Rw w W gl g gw bv rv d r i) (hb : Below W.heap.size W W') : Rw w W' gl g gw bv rv d r i :=
  ⟨h.rn.below hb, h.log.fr (Fr.of_below hb (fun _ => False)) (fun e => e), h.lfar, h.lnew, h.lne, h.lown, h.bys⟩
theorem Rw.fr {w W W' : World} {gl g gw : Nat} {bv rv : Value} {d : Dsk} {r : Rdk} {i : Nat} {S : Nat → Prop} (h : Rw w W gl g gw bv rv d r i) (hf : Fr S W W') (hS : ∀ k, S k → W.heap.size ≤ k) : Rw w W' gl g gw bv rv d r i :=
  h.below (hf.below _ (Nat.le_refl _) hS)
theorem Rw.lk {w W : World} {gl g gw : Nat} {bv rv : Value} {d : Dsk} {r : Rdk} {i : Nat} (h : Rw w W gl g gw bv rv d r i) : Lk w W gl g bv d := ⟨h.rn.dk, h.log, h.lfar, h.lnew⟩
/-- The log's disk has done something, the document's not yet. -/
structure Rx (w W : World) (gl g gw : Nat) (bv rv : Value) (d : Dsk) (r : Rdk) : Prop where
  rh : Rh w W g gw bv rv d r
  log : LogAt W gl g
  lfar : ¬ Fp g bv gl
  lnew : w.heap.size ≤ gl
  lne : gl ≠ gw
  lown : rv.ownBlock ≠ some gl
theorem Rw.act {w W W' : World} {gl g gw : Nat} {bv bv' rv : Value} {d d' : Dsk} {r : Rdk} {i : Nat} (h : Rw w W gl g gw bv rv d r i) (hf : Fr (Fp g bv) W W') (ha : DiskAt W' w.heap.size g bv' d') (hn : ∀ k, Fp g bv' k → Fp g bv k ∨ W.heap.size ≤ k) : Rx w W' gl g gw bv' rv d' r :=
  ⟨h.rn.act hf ha hn, h.log.fr hf h.lfar, fun e => (hn _ e).elim h.lfar (fun e => by have := blk_lt h.log; omega), h.lnew, h.lne, h.lown⟩
theorem Rx.below {w W W' : World} {gl g gw : Nat} {bv rv : Value} {d : Dsk} {r : Rdk} (h : Rx w W gl g gw bv rv d r) (hb : Below W.heap.size W W') : Rx w W' gl g gw bv rv d r :=
  ⟨⟨h.rh.dk.below hb, (Fr.of_below hb (fun _ => False)).blk h.rh.want (fun e => e), h.rh.lies.fr (Fr.of_below hb (fun _ => False)) (fun _ _ e => e), h.rh.ge, h.rh.ngw, fun k hk => ⟨Nat.lt_of_lt_of_le (h.rh.far k hk).1 hb.size, (h.rh.far k hk).2⟩⟩, h.log.fr (Fr.of_below hb (fun _ => False)) (fun e => e), h.lfar, h.lnew, h.lne, h.lown⟩
theorem Rx.wrote {w W W' : World} {gl g gw : Nat} {bv rv rv' : Value} {d : Dsk} {r r' : Rdk} {i : Nat} (h : Rx w W gl g gw bv rv d r) (hb : Below W.heap.size W W') (hl : Lies W' rv' r'.bytes) (hn : Near W.heap.size W' rv rv') {W2 : World} (h2 : Fr (fun k => k = gw) W' W2) (hw : W2.heap[gw]? = some (.cells (rcs rv' r') 40 (0, 0))) (hr : Rel d r' (i + 2)) (hB : Bys d.bytes) : Rw w W2 gl g gw bv rv' d r' i :=
  ⟨h.rh.wrote hb hl hn h2 hw hr, (h.log.fr (Fr.of_below hb (fun _ => False)) (fun e => e)).fr h2 (fun e => h.lne e), h.lfar, h.lnew, h.lne, fun e => (hn _ e).elim h.lown (fun e => by have := blk_lt h.log; omega), hB⟩
/-- Another log on the same disk. -/
theorem Rx.relog {w W : World} {gl gl' g gw : Nat} {bv rv : Value} {d : Dsk} {r : Rdk} (h : Rx w W gl g gw bv rv d r) (h1 : LogAt W gl' g) (h2 : ¬ Fp g bv gl') (h3 : w.heap.size ≤ gl') (h4 : gl' ≠ gw) (h5 : rv.ownBlock ≠ some gl') : Rx w W gl' g gw bv rv d r := ⟨h.rh, h1, h2, h3, h4, h5⟩
def zAw : Aw := ⟨0, [], 0, 0⟩
theorem at_acw {w : World} {A : Option Addr} {l : List Aw} (h : Kd.C kAcw w A l.length l) (i : Nat) (hi : i < l.length) : ∃ ad A1 c1, A = some ad ∧ w.cell? (ad.add (i * 4)) = some (.int .i64 (l.getD i zAw).kind) ∧ w.cell? ⟨(ad.add (i * 4)).block, (ad.add (i * 4)).off + 1, none⟩ = some (.slice A1 (l.getD i zAw).recs.length c1) ∧ w.cell? ⟨(ad.add (i * 4)).block, (ad.add (i * 4)).off + 2, none⟩ = some (.int .i64 (l.getD i zAw).a) ∧ w.cell? ⟨(ad.add (i * 4)).block, (ad.add (i * 4)).off + 3, none⟩ = some (.int .i64 (l.getD i zAw).b) ∧ (l.getD i zAw).recs.length ≤ c1 ∧ CC w A1 (l.getD i zAw).recs := by
  obtain ⟨ad, c, e, _, hK, hc0⟩ := Kd.C_get h zAw (i : Int) (by omega) (by omega)
  rw [Int.toNat_natCast] at hK hc0
  have hc : ∀ j u, c[j]? = some u → w.cell? (ad.add (i * 4 + j)) = some u := hc0
  obtain ⟨A1, c1, rfl, l1, g1⟩ := kAcw_open hK
  exact ⟨ad, A1, c1, e, hc 0 _ rfl, by rw [← add_field _ _ 1 (by omega)]; exact hc 1 _ rfl, by rw [← add_field _ _ 2 (by omega)]; exact hc 2 _ rfl, by rw [← add_field _ _ 3 (by omega)]; exact hc 3 _ rfl, l1, g1⟩
end Go.Proofs.Ytkkgjbafncmohaa.Sha
