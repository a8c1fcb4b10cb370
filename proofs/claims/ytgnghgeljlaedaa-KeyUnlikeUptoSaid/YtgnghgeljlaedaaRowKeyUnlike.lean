/- The row of the law KeyUnlike (upto): for every input of bulk at most 1048576 the call returns true, and the arguments read as before. -/
import Derived.Test.YtgnghgeljlaedaaRows
import Derived.Test.YtgnghgeljlaedaaKx4
import Derived.Test.YtgnghgeljlaedaaPureKeyUnlike
import Derived.Test.YtgnghgeljlaedaaOpen
import Derived.WalkKit
import Derived.ProofKit
import Derived.OpenShut
import Derived.ShutString
import Derived.ChangeOld
import Derived.Below
import Derived.SizedLaws
import Derived.JoinedCond
import Derived.Deep.CondSized
namespace Go.Proofs.Ytgnghgeljlaedaa.keyUnlikeUpto
open Go.ChangeShapes Go.WideShapes Go.ChangeAt Go.RowKit
open Go.ChangeMaps (open_string shut_string)
open Go.Proofs.YtgnghgeljlaedaaW.PrintWords Go.Proofs.Ytgnghgeljlaedaa.Oct
set_option linter.unusedVariables false
set_option linter.unusedSimpArgs false
theorem own : ownKnob Try.prog.godebug = none := by kernel_rfl
theorem laidOut : laidOutB Try.prog = true := by kernel_rfl
set_option maxRecDepth 100000 in
theorem lifted (os : Os) (started : os.Started) (H : Type) (enc : TypeId × Value → H) (F : Stop.Interp) :
    ReturnsInHanded {} Try.checked os 10 .any ((Rows.OpenSpec.upto Rows.keyUnlikeSpec).pre6 enc Try.prog Try.f10 Rows.keyUnlikeUptoRow.domain false) (((Rows.OpenSpec.upto Rows.keyUnlikeSpec).at F).post enc Try.prog Try.f10 false true false false) := by
  refine returnsInHanded_of_cond (C := Try.checked) (s := Rows.OpenSpec.upto Rows.keyUnlikeSpec) (k := Rows.uptoSmall) rfl own started (by kernel_rfl) Try.func10
    (OpenSpec.witness (enc := enc) (C := Try.checked) (s := Rows.OpenSpec.upto Rows.keyUnlikeSpec) (k := Rows.uptoSmall) rfl false ⟨#[], #[.agg #[.int .i64 0, .int .i64 0], .agg #[.string ByteArray.empty, .string ByteArray.empty], .agg #[.slice none 0 0, .slice none 0 0]], []⟩ 8 (by kernel_rfl) (by kernel_rfl) (by kernel_rfl)
      (x := ([.agg [.lit (.int .i64 0), .lit (.int .i64 0)], .agg [.lit (.string []), .lit (.string [])], .agg [.nil, .nil]], [], [])) (by kernel_rfl) rfl (by kernel_rfl)) ?_
  intro W base args ds gs before hval0 hW hcnd hk0 _
  have hval : ∀ (j : Nat) t v, Try.f10.params[j]? = some t → args[j]? = some v → Value.okWide Try.prog W .any base t v := hval0
  have hW' := hW
  obtain ⟨p, q, hA0, hV, rfl, hfz, hnd⟩ := hW
  have hA : DataW.TrodAll enc Try.prog W 0 (fun _ => true) true Try.f10.params.toList args.toList ds p := hA0
  rw [Try.params10] at hA hval
  obtain ⟨v0, vs0, d0, ds0, p0, q0, hargs, rfl, rfl, h0, r0⟩ := trodAll_cons hA
  obtain ⟨v1, vs1, d1, ds1, p1, q1, rfl, rfl, rfl, h1, r1⟩ := trodAll_cons r0
  obtain ⟨v2, vs2, d2, ds2, p2, q2, rfl, rfl, rfl, h2, r2⟩ := trodAll_cons r1
  obtain ⟨rfl, rfl, rfl⟩ := trodAll_nil r2
  obtain rfl : args = #[v0, v1, v2] := by cases args; simp_all
  obtain ⟨rfl, rfl⟩ := trodVars_none hV
  have k0 := h0
  have lt0 : ∀ x ∈ p0, x.block < W.heap.size := by obtain ⟨m, hm⟩ := k0; exact DataW.trod_lt m _ _ _ hm
  have k1 := h1
  have lt1 : ∀ x ∈ p1, x.block < W.heap.size := by obtain ⟨m, hm⟩ := k1; exact DataW.trod_lt m _ _ _ hm
  have k2 := h2
  have lt2 : ∀ x ∈ p2, x.block < W.heap.size := by obtain ⟨m, hm⟩ := k2; exact DataW.trod_lt m _ _ _ hm
  obtain ⟨va0, vb0, ya0, yb0, fu0, rfl, ed0, hx0a, hx0b⟩ := Open.open_arr2 Try.underlying42 (by kernel_rfl) (by kernel_rfl) (hval 0 42 v0 rfl rfl) h0
  obtain ⟨a0a, e0, ey0a, w0a⟩ := DataW.trod_int Try.underlying3 hx0a
  obtain rfl : va0 = _ := List.head_eq_of_cons_eq e0
  clear e0
  obtain ⟨a0b, e0, ey0b, w0b⟩ := DataW.trod_int Try.underlying3 hx0b
  obtain rfl : vb0 = _ := List.head_eq_of_cons_eq e0
  clear e0
  obtain ⟨va1, vb1, ya1, yb1, fu1, rfl, ed1, hx1a, hx1b⟩ := Open.open_arr2 Try.underlying43 (by kernel_rfl) (by kernel_rfl) (hval 1 43 v1 rfl rfl) h1
  obtain ⟨a1a, e0, ey1a, w1a⟩ := DataW.trod_string Try.underlying9 hx1a
  obtain rfl : va1 = _ := List.head_eq_of_cons_eq e0
  clear e0
  obtain ⟨a1b, e0, ey1b, w1b⟩ := DataW.trod_string Try.underlying9 hx1b
  obtain rfl : vb1 = _ := List.head_eq_of_cons_eq e0
  clear e0
  obtain ⟨va2, vb2, ya2, yb2, fu2, rfl, ed2, hx2a, hx2b⟩ := Open.open_arr2 Try.underlying44 (by kernel_rfl) (by kernel_rfl) (hval 2 44 v2 rfl rfl) h2
  obtain ⟨l2a, ⟨A2a, c2a, e0, hl2a, hC2a⟩, hok2a, hB2a, hZ2a⟩ := (Open.opens_bytess Try.underlying27 Try.underlying23 Try.underlying5 (by kernel_rfl) (by kernel_rfl) (by kernel_rfl)) _ enc 0 _ _ _ hx2a
  obtain rfl : va2 = _ := List.head_eq_of_cons_eq e0
  clear e0
  obtain ⟨l2b, ⟨A2b, c2b, e0, hl2b, hC2b⟩, hok2b, hB2b, hZ2b⟩ := (Open.opens_bytess Try.underlying27 Try.underlying23 Try.underlying5 (by kernel_rfl) (by kernel_rfl) (by kernel_rfl)) _ enc 0 _ _ _ hx2b
  obtain rfl : vb2 = _ := List.head_eq_of_cons_eq e0
  clear e0
  have hk : Rows.uptoBulkAll (_ : List (DataW H)) ≤ 1048576 := of_decide_eq_true hk0
  rw [ed0, ed1, ed2, ey1a, ey1b] at hk
  simp only [Rows.uptoBulkAll, Rows.uptoBulk, List.cons_append, List.nil_append, List.append_nil, Array.length_toList] at hk
  replace hB2a : (l2a.map fun x => x.length + 1).sum + 1 ≤ _ := hB2a
  replace hB2b : (l2b.map fun x => x.length + 1).sum + 1 ≤ _ := hB2b
  try simp only [ByteArray.size] at hk
  obtain ⟨k, hkk⟩ := Pure.KeyUnlike a0a a0b a1a a1b l2a l2b w0a w0b hok2a hok2b (by omega)
  refine (K.catenarylaw03_KeyUnlike.calls k a0a a0b a1a a1b _ _ l2a _ _ l2b true W hC2a hl2a hC2b hl2b hkk).mono ?_
  rintro e W' ⟨he, bel⟩
  subst he
  exact ⟨_, rfl, _, _, _, [], _, [], hW', trodAll_mk1 (shut_bool Try.underlying4 _), (trodAll_cons_mk (Below.trod laidOut (by kernel_rfl) (of_decide_eq_true (by kernel_rfl)) k0 bel lt0) (trodAll_cons_mk (Below.trod laidOut (by kernel_rfl) (of_decide_eq_true (by kernel_rfl)) k1 bel lt1) (trodAll_cons_mk (Below.trod laidOut (by kernel_rfl) (of_decide_eq_true (by kernel_rfl)) k2 bel lt2) trodAll_mk0))), rfl, bel.frame _, fun h => by cases h⟩
theorem proved : Rows.KeyUnlikeUptoSaid :=
  OpenClaim.holds_of_cond 10 Try.f10 rfl rfl rfl rfl rfl rfl rfl ⟨rfl, rfl, rfl, rfl, rfl⟩ rfl rfl rfl rfl rfl (by kernel_rfl) Try.func10 (by kernel_rfl)
    (of_decide_eq_true (by kernel_rfl)) (by unfold Func.isWrapper; first | (rw [if_pos (by decide +kernel)]; kernel_rfl) | (rw [if_neg (by decide +kernel)]; exact ⟨rfl, rfl⟩))
    (fun os started H enc _ F => lifted os started H enc F)
#print axioms proved
end Go.Proofs.Ytgnghgeljlaedaa.keyUnlikeUpto
namespace Go.Proofs.Ytgnghgeljlaedaa
/-- The row, under a short name, for the claim. -/
theorem keyUnlikeUpto_holds : Rows.KeyUnlikeUptoSaid := keyUnlikeUpto.proved
end Go.Proofs.Ytgnghgeljlaedaa
