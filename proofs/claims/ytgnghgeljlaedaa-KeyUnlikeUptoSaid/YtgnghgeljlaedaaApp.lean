/-
  Rows of bytes of one's own: a byte written, any bytes appended.
-/
import Derived.Test.YtgnghgeljlaedaaShaH2
set_option linter.unusedVariables false
set_option linter.unusedSimpArgs false
namespace Go.Proofs.Ytgnghgeljlaedaa.Sha
open Go.RowKit Go.Proofs.YtgnghgeljlaedaaW.PrintWords Go.Proofs.YtgnghgeljlaedaaW.PrintLast Go.Proofs.YtgnghgeljlaedaaW.PrintMore Go.Proofs.Ytgnghgeljlaedaa.Q Go.Proofs.Ytgnghgeljlaedaa.Fr Go.Proofs.Ytgnghgeljlaedaa.Oct

/-- A byte of a row of one's own is written. -/
theorem OB.put {w : World} {base g c : Nat} {xs : List Int} (h : OB w base (.slice (some ⟨g, 0, none⟩) xs.length c) xs) (i : Nat) (hi : i < xs.length) (x : Int) : OB (w.setCell ⟨g, i, none⟩ (.int .u8 x)) base (.slice (some ⟨g, 0, none⟩) (xs.set i x).length c) (xs.set i x) := by
  have hR : Kd.R (Kd.int .u8) 5 w base (fun _ => True) (.slice (some ⟨g, 0, none⟩) xs.length c) xs := Kd.R_of_own h (fun _ _ => trivial)
  have h2 := Kd.R_putn (enc := Value.int .u8) (h1 := fun _ => rfl) hR (i : Int) x
  rw [Int.toNat_natCast] at h2
  rw [List.length_set]
  have := Kd.own_of_R h2
  rw [List.length_set] at this
  unfold OB
  rw [List.length_set]
  exact this
theorem OB.form {w : World} {base : Nat} {v : Value} {xs : List Int} (h : OB w base v xs) (hn : 0 < xs.length) : ∃ g c, v = .slice (some ⟨g, 0, none⟩) xs.length c := by
  rcases h.2 with ⟨_, h0⟩ | ⟨g, cap, cur, hv, _⟩
  · omega
  · exact ⟨g, cap, hv⟩
section
variable {ops : Array Oper} {rest : List Oper} {o : Oper} {a : Act} {Q : Exit → Act → World → Prop} {w : World}
/-- append(v, ys...), whatever ys. -/
theorem wpList_appe {P : Program} (hP : P = Try.prog) (hgd : o.guard = none) (base : Nat) (s x : Operand) (ho : o.op = .call { callee := .builtin .append, args := #[s, x], argTypes := #[23, 23] })
    (hi : (Try.prog.info? 5).map (fun i => (i.zero, i.size, i.bytes)) = some (some (.int .u8 0), 1, 1)) (v : Value) (xs : List Int) (hs : a.eval s = v) (hq : OB w base v xs) (A : Option Addr) (m c : Nat) (ys : List Int) (hx : a.eval x = .slice A m c) (hm : m = ys.length) (hy : Rd w A ys) (hl : xs.length + ys.length ≤ 140737488355328) (hb : base ≤ w.heap.size)
    (h : ∀ v1 w1, OB w1 base v1 (xs ++ ys) → Fr (fun k => some k = v.ownBlock) w w1 → (v1.ownBlock = v.ownBlock ∨ ∃ b, v1.ownBlock = some b ∧ w.heap.size ≤ b) → wpList P ops Q rest (a.put o.dst v1) w1) : wpList P ops Q (o :: rest) a w := by
  by_cases hne : ys = []
  · subst hP hm hne
    obtain ⟨i0, hi0, h0, h1, h2⟩ := info_parts hi
    obtain ⟨A', c', rfl, hc'⟩ := hq.slice
    have hr : (Builtin.append_ #[23, 23] o.type #[.slice A' xs.length c', .slice A ([] : List Int).length c]).run Try.prog w = .ok (.slice A' xs.length c') w := by
      cases A <;> cases A' <;> simp [Builtin.append_, run_underlying Try.underlying23, sizeOf, typeInfo, hi0, Builtin.lenOf, Builtin.firstCells, hc', storeCells, loadCells, loadCellsFrom, Result.andThen]
    refine wpList_plain hgd fun K hK => ?_
    unfold Oper.wp execOp
    simp only [ho, resolve, invoke, builtin, Sem.run_bind, Sem.run_pure, Result.andThen_ok, List.map_toArray, List.map_cons, List.map_nil, hs, hx, hr]
    exact hK _ _ (h _ w (by rw [List.append_nil]; exact hq) (Fr.refl _ _) (.inl rfl))
  · exact wpList_appo hP hgd base s x ho hi v xs hs hq A m c ys hx hm hy hne hl hb h
end
end Go.Proofs.Ytgnghgeljlaedaa.Sha
