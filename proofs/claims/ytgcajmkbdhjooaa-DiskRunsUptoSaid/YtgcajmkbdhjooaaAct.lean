/-
  Acts, read as an argument: a slice of structs of a number, bytes and two numbers.
-/
import Derived.Test.YtgcajmkbdhjooaaOpen
set_option linter.unusedVariables false
set_option linter.unusedSimpArgs false
namespace Go.Proofs.Ytgcajmkbdhjooaa.Open
open Go.RowKit Go.Proofs.YtgcajmkbdhjooaaW.PrintWords

/-- An act. -/
structure Ak where
  kind : Int
  bytes : List Int
  a : Int
  b : Int
def kAct : Kd Ak := Kd.iso (Kd.pair (Kd.int .i64) (Kd.pair (Kd.slice 5 (Kd.int .u8)) (Kd.pair (Kd.int .i64) (Kd.int .i64)))) (fun x : Ak => (x.kind, x.bytes, x.a, x.b))
def Ak.ok (x : Ak) : Prop := (Lit.int .i64 x.kind).wf = true ∧ Oct.Bys x.bytes ∧ (Lit.int .i64 x.a).wf = true ∧ (Lit.int .i64 x.b).wf = true
theorem kAct_open {w : World} {x : Ak} {cs : List Value} (h : kAct.K w x cs) : ∃ A c, cs = [.int .i64 x.kind, .slice A x.bytes.length c, .int .i64 x.a, .int .i64 x.b] ∧ x.bytes.length ≤ c ∧ (Kd.int .u8).C w A x.bytes.length x.bytes := by
  obtain ⟨_, _, rfl, rfl, _, _, rfl, ⟨A, c, rfl, l, g⟩, _, _, rfl, rfl, rfl⟩ := h
  exact ⟨A, c, rfl, l, g⟩
theorem opens_act {W : World} : Opens kAct Try.prog W 48 Ak.ok (fun x => x.bytes.length + 5) (fun _ => True) := by
  intro H enc base fuel cs x h
  obtain ⟨xs, n, _, rfl, hl, hlen, hf⟩ := DataW.trod_struct Try.underlying48 h
  rw [show Try.prog.cellsOf 48 = 4 by kernel_rfl] at hl
  match xs, hlen with
  | [y0, y1, y2, y3], _ =>
    match cs, hl with
    | [c0, c1, c2, c3], _ =>
      have h0 := hf 0 _ rfl
      have h1 := hf 1 _ rfl
      have h2 := hf 2 _ rfl
      have h3 := hf 3 _ rfl
      rw [show Try.prog.cellsOf _ = 1 by kernel_rfl] at h0 h1 h2 h3
      obtain ⟨a0, K0, k0, B0, _⟩ := opens_int (W := W) Try.underlying3 H enc base n [c0] y0 h0
      obtain ⟨a1, K1, k1, B1, _⟩ := opens_bytes (W := W) Try.underlying23 Try.underlying5 (by kernel_rfl) (by kernel_rfl) H enc base n [c1] y1 h1
      obtain ⟨a2, K2, k2, B2, _⟩ := opens_int (W := W) Try.underlying3 H enc base n [c2] y2 h2
      obtain ⟨a3, K3, k3, B3, _⟩ := opens_int (W := W) Try.underlying3 H enc base n [c3] y3 h3
      refine ⟨⟨a0, a1, a2, a3⟩, ⟨[c0], [c1, c2, c3], rfl, K0, [c1], [c2, c3], rfl, K1, [c2], [c3], rfl, K2, K3⟩, ⟨k0, k1, k2, k3⟩, ?_, fun _ => trivial⟩
      simp only [List.map_cons, List.map_nil, Rows.uptoBulk, Rows.uptoBulkAll]
      simp only at B0 B1 B2 B3
      omega
theorem opensT43 (W : World) : Opens (Kd.slice 48 kAct) Try.prog W 43 (fun l => ∀ x ∈ l, Ak.ok x) (fun l => (l.map fun x => x.bytes.length + 5).sum + 1) (fun _ => True) := by
  intro H enc base fuel cs x h
  obtain ⟨a, h1, h2, h3, _⟩ := opens_slice Try.underlying43 (by kernel_rfl) (opens_act (W := W)) H enc base fuel cs x h
  exact ⟨a, h1, h2, h3, fun _ => trivial⟩
end Go.Proofs.Ytgcajmkbdhjooaa.Open
