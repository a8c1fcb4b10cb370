/-
  Lists of byte lists: one behind another; a copy.
-/
import Derived.Test.YtkkgjbafncmohaaWalS
import Derived.Test.YtkkgjbafncmohaaQx12
set_option linter.unusedVariables false
set_option linter.unusedSimpArgs false
namespace Go.Proofs.Ytkkgjbafncmohaa.Sha
open Go.RowKit Go.Proofs.YtkkgjbafncmohaaW.PrintWords Go.Proofs.YtkkgjbafncmohaaW.PrintLast Go.Proofs.YtkkgjbafncmohaaW.PrintMore Go.Proofs.Ytkkgjbafncmohaa.Q Go.Proofs.Ytkkgjbafncmohaa.Fr Go.Proofs.Ytkkgjbafncmohaa.Oct

section
variable {P : Program} {ops : Array Oper} {rest : List Oper} {o o1 o2 : Oper} {a : Act} {Q : Exit → Act → World → Prop} {w : World}
theorem infoL : (Try.prog.info? 22).map (fun i => (i.zero, i.size, i.bytes)) = some (some (.slice none 0 0), 1, 24) := by kernel_rfl
/-- append(v, ys...) of lists of byte lists. -/
theorem wpList_apps (hP : P = Try.prog) (hgd : o.guard = none) (base : Nat) (s x : Operand) (ho : o.op = .call { callee := .builtin .append, args := #[s, x], argTypes := #[24, 24] })
    (v : Value) (us : List Value) (hs : a.eval s = v) (hq : w.ownsRow base 22 1 v us.length us) (A : Option Addr) (m c : Nat) (vs : List Value) (hx : a.eval x = .slice A m c) (hm : m = vs.length) (hy : ∀ (j : Nat) (u : Value), vs[j]? = some u → ∃ ad, A = some ad ∧ w.cell? (ad.add j) = some u) (h1 : ∀ u ∈ vs, u.oneCell' = true) (hl : us.length + vs.length ≤ 5864062014805) (hb : base ≤ w.heap.size)
    (h : ∀ v1 w1, w1.ownsRow base 22 1 v1 (us ++ vs).length (us ++ vs) → Fr (fun k => some k = v.ownBlock) w w1 → wpList P ops Q rest (a.put o.dst v1) w1) : wpList P ops Q (o :: rest) a w := by
  subst hP hm
  obtain ⟨i0, hi0, h0, h2, h3⟩ := info_parts infoL
  by_cases hne : vs = []
  · subst hne
    obtain ⟨A', c', rfl, hc'⟩ := q_slice (q_of_own hq)
    have hr : (Builtin.append_ #[24, 24] o.type #[.slice A' us.length c', .slice A ([] : List Value).length c]).run Try.prog w = .ok (.slice A' us.length c') w := by
      cases A <;> cases A' <;> simp [Builtin.append_, run_underlying Try.underlying24, sizeOf, typeInfo, hi0, Builtin.lenOf, Builtin.firstCells, hc', storeCells, loadCells, loadCellsFrom, Result.andThen]
    refine wpList_plain hgd fun K hK => ?_
    unfold Oper.wp execOp
    simp only [ho, resolve, invoke, builtin, Sem.run_bind, Sem.run_pure, Result.andThen_ok, List.map_toArray, List.map_cons, List.map_nil, hs, hx, hr]
    exact hK _ _ (h _ w (by rw [List.append_nil]; exact hq) (Fr.refl _ _))
  · obtain ⟨y, ys', rfl⟩ := List.exists_cons_of_ne_nil hne
    obtain ⟨ad, hA, _⟩ := hy 0 y rfl
    subst hA
    obtain ⟨v1, w1, hr, hq1, hg, _, hat⟩ := run_append_own_at (P := Try.prog) w base 24 o.type 22 i0 (.slice none 0 0) 1 24 Try.underlying24 hi0 h0 h2 h3 rfl (by decide) v us.length _ hq ad (y :: ys').length c (y :: ys') (by rw [Nat.mul_one])
      (fun j u hu => by obtain ⟨ad', e, h⟩ := hy j u hu; cases e; exact h) h1 (by simp only [maxLen]; omega) (by omega) hb
    have hq2 : w1.ownsRow base 22 1 v1 (us ++ y :: ys').length (us ++ y :: ys') := by
      rw [List.length_append]
      exact hq1
    refine wpList_plain hgd fun K hK => ?_
    unfold Oper.wp execOp
    simp only [ho, resolve, invoke, builtin, Sem.run_bind, Sem.run_pure, Result.andThen_ok, List.map_toArray, List.map_cons, List.map_nil, hs, hx, hr]
    exact hK _ _ (h v1 w1 hq2 (Fr.of_grown hg))
end
theorem Vals.frS {w w' : World} {us : List Value} {L : List (List Int)} {S : Nat → Prop} (h : Vals w us L) (hf : Fr S w w') (hS : ∀ u ∈ us, ∀ k, u.ownBlock = some k → ¬ S k) : Vals w' us L := ⟨h.1, fun j l hl => by
  obtain ⟨A, c, e, hc, hr, hm⟩ := h.2 j l hl
  exact ⟨A, c, e, hc, hr.fr hf (fun ad e2 => hS _ (List.mem_of_getElem? e) ad.block (by rw [e2]; rfl)), hm⟩⟩
/-- A copy of a list: a row of one's own whose cells can be read; no element lies in the list's own block. -/
theorem copy_calls (L : List (List Int)) (A : Option Addr) (c : Nat) (w : World) (h : CC w A L) (hc : L.length ≤ c) (hs : szL L ≤ 2097152) :
    Calls Try.prog 22 #[.slice A L.length c] w fun e w' => ∃ (v : Value) (us : List Value), e = .returned v ∧ w'.ownsRow w.heap.size 22 1 v us.length us ∧ Vals w' us L ∧ (∀ u ∈ us, ∀ k, u.ownBlock = some k → ¬ some k = v.ownBlock) ∧ Below w.heap.size w w' := by
  have hl := szL_len L
  refine (catenaryref01_Copy.calls (L.length + 1) A c L L w h hc (copy_f L (fun x m => by have := szL_mem m; omega) (by omega) _ (Nat.le_refl _))).mono ?_
  rintro e w' ⟨v, rfl, hS, hb⟩
  obtain ⟨_, us, ho, hr⟩ := Kd.S_R hS
  have ho : w'.ownsRow w.heap.size 22 1 v L.length us := ho
  have hlen : us.length = L.length := by have := ho.1; omega
  have hel : ∀ (j : Nat) (l : List Int), L[j]? = some l → ∃ A0 c0, us[j]? = some (.slice A0 l.length c0) ∧ l.length ≤ c0 ∧ Rd w' A0 l ∧ l.length ≤ 9223372036854775807 ∧ ∀ k, (Value.slice A0 l.length c0).ownBlock = some k → ¬ some k = v.ownBlock := fun j l hj => by
    obtain ⟨v', e1, hR⟩ := hr.2 j l hj
    have e1 : (us.drop (j * 1)).take 1 = [v'] := e1
    rw [Nat.mul_one] at e1
    have e2 : us[j]? = some v' := by
      have := congrArg (fun x : List Value => x[0]?) e1
      simpa using this
    have hok := hR.1
    obtain ⟨A0, c0, rfl, hle, hC⟩ := Kd.R_reads hR
    exact ⟨A0, c0, e2, hle, Rd.of_C hC, hC.2.1, fun k hk => (hok k hk).2⟩
  refine ⟨v, us, rfl, by rw [hlen]; exact ho, ⟨hlen, fun j l hj => ?_⟩, fun u hu k hk => ?_, hb⟩
  · obtain ⟨A0, c0, h1, h2, h3, h4, _⟩ := hel j l hj
    exact ⟨A0, c0, h1, h2, h3, h4⟩
  · obtain ⟨j, hj, rfl⟩ := List.mem_iff_getElem.1 hu
    obtain ⟨A0, c0, h1, _, _, _, h5⟩ := hel j (L[j]'(by omega)) (List.getElem?_eq_getElem _)
    rw [List.getElem?_eq_getElem hj] at h1
    rw [Option.some.inj h1] at hk
    exact h5 k hk
end Go.Proofs.Ytkkgjbafncmohaa.Sha
