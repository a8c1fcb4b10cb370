/-
  The ledger's laws' arguments opened: votes, a ballot, two requests.
-/
import Derived.Test.YtnabilhcmplhcaaOpen
import Derived.Test.YtnabilhcmplhcaaQx0
set_option linter.unusedVariables false
set_option linter.unusedSimpArgs false
set_option linter.constructorNameAsVariable false
set_option maxRecDepth 100000
namespace Go.Proofs.Ytnabilhcmplhcaa.Open
open Go.RowKit Go.Proofs.YtnabilhcmplhcaaW.PrintWords Go.Proofs.Ytnabilhcmplhcaa.Q

def okV (x : S55) : Prop := (Lit.int .i64 x.f0).wf = true ∧ Oct.Bys x.f1
theorem opens_vote {W : World} : Opens k55 Try.prog W 55 okV (fun x => x.f1.length + 3) (fun x => x.f1.length ≤ reachBytes) := by
  intro H enc base fuel cs x h
  obtain ⟨xs, n, _, rfl, hl, hlen, hf⟩ := DataW.trod_struct Try.underlying55 h
  rw [show Try.prog.cellsOf 55 = 2 by kernel_rfl] at hl
  match xs, hlen with
  | [y0, y1], _ =>
    match cs, hl with
    | [c0, c1], _ =>
      have h0 := hf 0 _ rfl
      have h1 := hf 1 _ rfl
      rw [show Try.prog.cellsOf _ = 1 by kernel_rfl] at h0 h1
      obtain ⟨a0, K0, k0, B0, _⟩ := opens_int (W := W) Try.underlying3 H enc base n [c0] y0 h0
      obtain ⟨a1, K1, k1, B1, Z1⟩ := opens_bytes (W := W) Try.underlying29 Try.underlying5 (by kernel_rfl) (by kernel_rfl) H enc base n [c1] y1 h1
      refine ⟨⟨a0, a1⟩, ⟨[c0], [c1], rfl, K0, K1⟩, ⟨k0, k1⟩, ?_, fun hn => Z1 (fun m hm => hn m ?_)⟩
      · simp only [List.map_cons, List.map_nil, Rows.uptoBulk, Rows.uptoBulkAll]
        simp only at B0 B1
        omega
      · simp only [List.map_cons, List.map_nil, DataW.weights, Try.underlying55, DataW.weightsEach, List.mem_append]
        exact .inr (.inl hm)
theorem opensT32 (W : World) : Opens (Kd.slice 55 k55) Try.prog W 32 (fun l => ∀ x ∈ l, okV x) (fun l => (l.map fun x => x.f1.length + 3).sum + 1) (fun l => ∀ x ∈ l, x.f1.length ≤ reachBytes) := by
  intro H enc base fuel cs x h
  obtain ⟨a, h1, h2, h3, h4⟩ := opens_slice Try.underlying32 (by kernel_rfl) (opens_vote (W := W)) H enc base fuel cs x h
  exact ⟨a, h1, h2, h3, fun hn => (h4 hn).2⟩
def okR (x : S31) : Prop := (Lit.int .i64 x.f0).wf = true ∧ (Lit.int .i64 x.f1).wf = true ∧ Oct.Bys x.f2 ∧ Oct.Bys x.f3
theorem opens_req {W : World} : Opens k31 Try.prog W 31 okR (fun x => x.f2.length + x.f3.length + 5) (fun _ => True) := by
  intro H enc base fuel cs x h
  obtain ⟨xs, n, _, rfl, hl, hlen, hf⟩ := DataW.trod_struct Try.underlying31 h
  rw [show Try.prog.cellsOf 31 = 4 by kernel_rfl] at hl
  match xs, hlen with
  | [y0, y1, y2, y3], _ =>
    match cs, hl with
    | [c0, c1, c2, c3], _ =>
      have h0 := hf 0 _ rfl
      have h1 := hf 1 _ rfl
      have h2 := hf 2 _ rfl
      have h3 := hf 3 _ rfl
      rw [show Try.prog.cellsOf _ = 1 by kernel_rfl] at h0 h1 h2 h3
      obtain ⟨a0, K0, k0, B0, _⟩ := opens_int (W := W) Try.underlying3 H enc base n [c0] y0 h0
      obtain ⟨a1, K1, k1, B1, _⟩ := opens_int (W := W) Try.underlying3 H enc base n [c1] y1 h1
      obtain ⟨a2, K2, k2, B2, _⟩ := opens_bytes (W := W) Try.underlying29 Try.underlying5 (by kernel_rfl) (by kernel_rfl) H enc base n [c2] y2 h2
      obtain ⟨a3, K3, k3, B3, _⟩ := opens_bytes (W := W) Try.underlying29 Try.underlying5 (by kernel_rfl) (by kernel_rfl) H enc base n [c3] y3 h3
      refine ⟨⟨a0, a1, a2, a3⟩, ⟨[c0], [c1, c2, c3], rfl, K0, [c1], [c2, c3], rfl, K1, [c2], [c3], rfl, K2, K3⟩, ⟨k0, k1, k2, k3⟩, ?_, fun _ => trivial⟩
      simp only [List.map_cons, List.map_nil, Rows.uptoBulk, Rows.uptoBulkAll]
      simp only at B0 B1 B2 B3
      omega
/-- A ballot, by value. -/
theorem open_ballot {H : Type} {enc : TypeId × Value → H} {W : World} {b0 : Nat} {v : Value} {d : DataW H} {p : List MemPlace}
    (hv : Value.okWide Try.prog W .any b0 28 v) (h : DataW.Trod enc Try.prog W 0 (fun _ => true) true 28 v d p) :
    ∃ a b, v = .agg #[.int .i64 a, .int .i64 b] ∧ d = .agg [.lit (.int .i64 a), .lit (.int .i64 b)] ∧ (Lit.int .i64 a).wf = true ∧ (Lit.int .i64 b).wf = true := by
  have hv2 : ∃ cs, v = .agg cs ∧ cs.size = Try.prog.cellsOf 28 := by
    simp only [Value.okWide, Try.underlying28] at hv
    obtain ⟨cs, h1, h2, _⟩ := hv
    exact ⟨cs, h1, h2⟩
  obtain ⟨cs, rfl, hsz⟩ := hv2
  rw [show Try.prog.cellsOf 28 = 2 by kernel_rfl] at hsz
  obtain ⟨c0, c1, hcs⟩ : ∃ c0 c1, cs.toList = [c0, c1] := by
    have hl : cs.toList.length = 2 := by rw [Array.length_toList]; exact hsz
    match hm : cs.toList, hl with
    | [a, b], _ => exact ⟨a, b, rfl⟩
  obtain rfl : cs = #[c0, c1] := by rw [← Array.toList_inj]; exact hcs
  obtain ⟨fuel, hf⟩ := h
  obtain ⟨xs, n, _, hx, hl, hlen, hel⟩ := DataW.trod_struct Try.underlying28 hf
  match xs, hlen with
  | [y0, y1], _ =>
    simp only [Prod.mk.injEq] at hx
    have h0 := hel 0 _ rfl
    have h1 := hel 1 _ rfl
    rw [show Try.prog.cellsOf _ = 1 by kernel_rfl] at h0 h1
    obtain ⟨a, e0, ey, wa⟩ := DataW.trod_int Try.underlying3 (show DataW.trod enc Try.prog W 0 (fun _ => true) true n 3 [c0] = some y0 from h0)
    obtain ⟨b, e1, ez, wb⟩ := DataW.trod_int Try.underlying3 (show DataW.trod enc Try.prog W 0 (fun _ => true) true n 3 [c1] = some y1 from h1)
    obtain rfl : c0 = _ := List.head_eq_of_cons_eq e0
    obtain rfl : c1 = _ := List.head_eq_of_cons_eq e1
    refine ⟨a, b, rfl, ?_, wa, wb⟩
    rw [hx.1, List.map_cons, List.map_cons, List.map_nil, ey, ez]
/-- Two requests, by value. -/
theorem open_req2 {H : Type} {enc : TypeId × Value → H} {W : World} {b0 : Nat} {t : TypeId} {v : Value} {d : DataW H} {p : List MemPlace} (ht : Try.prog.underlying t = some (.array 2 31)) (hC : Try.prog.cellsOf t = 8)
    (hv : Value.okWide Try.prog W .any b0 t v) (h : DataW.Trod enc Try.prog W 0 (fun _ => true) true t v d p) :
    ∃ (x y : S31) (A1 : Option Addr) (c1 : Nat) (A2 : Option Addr) (c2 : Nat) (A3 : Option Addr) (c3 : Nat) (A4 : Option Addr) (c4 : Nat), v = .agg #[.int .i64 x.f0, .int .i64 x.f1, .slice A1 x.f2.length c1, .slice A2 x.f3.length c2, .int .i64 y.f0, .int .i64 y.f1, .slice A3 y.f2.length c3, .slice A4 y.f3.length c4] ∧ okR x ∧ okR y ∧
      (x.f2.length ≤ c1 ∧ (Kd.int .u8).C W A1 x.f2.length x.f2) ∧ (x.f3.length ≤ c2 ∧ (Kd.int .u8).C W A2 x.f3.length x.f3) ∧ (y.f2.length ≤ c3 ∧ (Kd.int .u8).C W A3 y.f2.length y.f2) ∧ (y.f3.length ≤ c4 ∧ (Kd.int .u8).C W A4 y.f3.length y.f3) ∧
      x.f2.length + x.f3.length + (y.f2.length + y.f3.length) + 11 ≤ Rows.uptoBulk d := by
  have hv2 : ∃ cs, v = .agg cs ∧ cs.size = Try.prog.cellsOf t := by
    simp only [Value.okWide, ht] at hv
    obtain ⟨cs, h1, h2, _⟩ := hv
    exact ⟨cs, h1, h2⟩
  obtain ⟨cs, rfl, hsz⟩ := hv2
  rw [hC] at hsz
  obtain ⟨a0, a1, a2, a3, a4, a5, a6, a7, hcs⟩ : ∃ a0 a1 a2 a3 a4 a5 a6 a7, cs.toList = [a0, a1, a2, a3, a4, a5, a6, a7] := by
    have hl : cs.toList.length = 8 := by rw [Array.length_toList]; exact hsz
    match hm : cs.toList, hl with
    | [a0, a1, a2, a3, a4, a5, a6, a7], _ => exact ⟨a0, a1, a2, a3, a4, a5, a6, a7, rfl⟩
  obtain rfl : cs = #[a0, a1, a2, a3, a4, a5, a6, a7] := by rw [← Array.toList_inj]; exact hcs
  obtain ⟨fuel, hf⟩ := h
  obtain ⟨xs, m, _, hx, _, hl, hel⟩ := DataW.trod_array ht hf
  match xs, hl with
  | [y0, y1], _ =>
    simp only [Prod.mk.injEq] at hx
    have h0 := hel 0 (by omega)
    have h1 := hel 1 (by omega)
    rw [show Try.prog.cellsOf 31 = 4 by kernel_rfl] at h0 h1
    obtain ⟨x, K0, k0, B0, _⟩ := opens_req (W := W) H enc 0 m [a0, a1, a2, a3] y0 h0
    obtain ⟨y, K1, k1, B1, _⟩ := opens_req (W := W) H enc 0 m [a4, a5, a6, a7] y1 h1
    obtain ⟨A1, c1, A2, c2, e, l1, g1, l2, g2⟩ := k31_open K0
    obtain ⟨A3, c3, A4, c4, e', l3, g3, l4, g4⟩ := k31_open K1
    simp only [List.cons.injEq] at e e'
    obtain ⟨rfl, rfl, rfl, rfl, _⟩ := e
    obtain ⟨rfl, rfl, rfl, rfl, _⟩ := e'
    refine ⟨x, y, A1, c1, A2, c2, A3, c3, A4, c4, rfl, k0, k1, ⟨l1, g1⟩, ⟨l2, g2⟩, ⟨l3, g3⟩, ⟨l4, g4⟩, ?_⟩
    rw [hx.1]
    simp only [List.map_cons, List.map_nil, Rows.uptoBulk, Rows.uptoBulkAll]
    simp only at B0 B1
    omega
end Go.Proofs.Ytnabilhcmplhcaa.Open
