/- Parts of one work, laid together: ShaH2, App. -/
import Derived.Test.YtgnghgeljlaedaaShaM5
/-
  Hashes beside each other: what is written to one leaves the other.
-/
set_option linter.unusedVariables false
set_option linter.unusedSimpArgs false
namespace Go.Proofs.Ytgnghgeljlaedaa.Sha
open Go.RowKit Go.Proofs.YtgnghgeljlaedaaW.PrintWords Go.Proofs.YtgnghgeljlaedaaW.PrintLast Go.Proofs.YtgnghgeljlaedaaW.PrintMore Go.Proofs.Ytgnghgeljlaedaa.Q Go.Proofs.Ytgnghgeljlaedaa.Fr Go.Proofs.Ytgnghgeljlaedaa.Oct

/-- The blocks of a hash. -/
def Fp (g : Nat) (rv : Value) (k : Nat) : Prop := k = g ∨ some k = rv.ownBlock
/-- A hash to which b was fed; its blocks lie from base on. -/
def Holds (w : World) (base g : Nat) (rv : Value) (b : List Int) : Prop := HashAt w g base rv (held b).1 (held b).2.1 (held b).2.2 ∧ base ≤ g ∧ b.length < 140737488355328
theorem HashAt.fr {w w' : World} {g base : Nat} {rv : Value} {S rest : List Int} {n : Int} {F : Nat → Prop} (h : HashAt w g base rv S rest n) (hf : Fr F w w') (hd : ∀ k, Fp g rv k → ¬ F k) : HashAt w' g base rv S rest n :=
  ⟨hf.blk h.heap (hd g (.inl rfl)), h.len, h.row.fr hf (fun k hk => hd k (.inr hk.symm)), h.ne⟩
theorem Holds.fr {w w' : World} {g base : Nat} {rv : Value} {b : List Int} {F : Nat → Prop} (h : Holds w base g rv b) (hf : Fr F w w') (hd : ∀ k, Fp g rv k → ¬ F k) : Holds w' base g rv b := ⟨h.1.fr hf hd, h.2⟩
theorem HashAt.lt {w : World} {g base : Nat} {rv : Value} {S rest : List Int} {n : Int} (h : HashAt w g base rv S rest n) : ∀ k, Fp g rv k → k < w.heap.size := fun k hk => by
  rcases hk with rfl | hk
  · exact blk_lt h.heap
  · exact q_lt h.row k hk.symm
theorem Holds.lt {w : World} {g base : Nat} {rv : Value} {b : List Int} (h : Holds w base g rv b) : ∀ k, Fp g rv k → k < w.heap.size := h.1.lt
theorem Holds.base {w : World} {g base : Nat} {rv : Value} {b : List Int} (h : Holds w base g rv b) : ∀ k, Fp g rv k → base ≤ k := fun k hk => by
  rcases hk with rfl | hk
  · exact h.2.1
  · exact h.1.row.base k hk.symm
/-- What is new lies apart from what was there. -/
theorem Fp.new {g : Nat} {rv rv' : Value} {N : Nat} (h : rv'.ownBlock = rv.ownBlock ∨ ∃ b, rv'.ownBlock = some b ∧ N ≤ b) : ∀ k, Fp g rv' k → Fp g rv k ∨ N ≤ k := fun k hk => by
  rcases hk with rfl | hk
  · exact .inl (.inl rfl)
  · rcases h with h | ⟨b, hb, hn⟩
    · exact .inl (.inr (by rw [← h]; exact hk))
    · rw [hb] at hk
      injection hk with hk
      exact .inr (by omega)
theorem Holds.lower {w : World} {base base' g : Nat} {rv : Value} {b : List Int} (h : Holds w base g rv b) (hb : base' ≤ base) : Holds w base' g rv b :=
  ⟨⟨h.1.heap, h.1.len, q_lower h.1.row hb, h.1.ne⟩, Nat.le_trans hb h.2.1, h.2.2⟩
theorem new_holds (w : World) : Calls Try.prog 16 #[] w fun e w' => ∃ g, e = .returned (.pointer (some ⟨g, 0, none⟩)) ∧ Holds w' w.heap.size g (.slice none 0 0) [] ∧ Below w.heap.size w w' :=
  (New_calls w).mono fun e w' ⟨g, he, hg, hH, hb⟩ => ⟨g, he, ⟨by rw [held_nil]; exact hH, hg, by simp⟩, hb⟩
theorem write_holds (g base : Nat) (rv : Value) (b : List Int) (A : Option Addr) (c : Nat) (PS : List (List Int)) (hk : PS.length ≤ 9223372036854775807) (hlen : ∀ p ∈ PS, p.length + 64 ≤ 140737488355328) (w : World) (h : Holds w base g rv b) (hb : base ≤ w.heap.size)
    (hp : Parts w A PS (Fp g rv)) (htot : (b ++ PS.flatten).length < 140737488355328) :
    Calls Try.prog 17 #[.pointer (some ⟨g, 0, none⟩), .slice A PS.length c] w fun e w' => e = .returned (.tuple #[]) ∧ Fr (Fp g rv) w w' ∧ ∃ rv' : Value, Holds w' base g rv' (b ++ PS.flatten) ∧ ∀ k, Fp g rv' k → Fp g rv k ∨ w.heap.size ≤ k := by
  refine (Write_calls g base rv (held b).1 (held b).2.1 (held b).2.2 A c PS hk hlen w h.1 (by simp only [held, List.length_drop]; omega) hb hp).mono ?_
  rintro e w' ⟨he, hf, _, rv', ho, hH⟩
  have ef : PS.foldl feed ((held b).1, (held b).2.1, (held b).2.2) = held (b ++ PS.flatten) := feeds_held PS b (by omega)
  rw [ef] at hH
  exact ⟨he, hf, rv', ⟨hH, h.2.1, htot⟩, Fp.new ho⟩
theorem sum_holds (g base : Nat) (rv : Value) (b : List Int) (w : World) (h : Holds w base g rv b) :
    Calls Try.prog 18 #[.pointer (some ⟨g, 0, none⟩)] w fun e w' => ∃ v : Value, e = .returned v ∧ OB w' w.heap.size v (sha b) ∧ Below w.heap.size w w' := by
  have := HSum_calls g base rv (held b).1 (held b).2.1 (held b).2.2 (by simp only [held]; omega) (by have := h.2.2; simp only [held]; omega) (by simp only [held, List.length_drop]; omega) w h.1
  rw [fin_held] at this
  exact this
end Go.Proofs.Ytgnghgeljlaedaa.Sha

/-
  Rows of bytes of one's own: a byte written, any bytes appended.
-/
set_option linter.unusedVariables false
set_option linter.unusedSimpArgs false
namespace Go.Proofs.Ytgnghgeljlaedaa.Sha
open Go.RowKit Go.Proofs.YtgnghgeljlaedaaW.PrintWords Go.Proofs.YtgnghgeljlaedaaW.PrintLast Go.Proofs.YtgnghgeljlaedaaW.PrintMore Go.Proofs.Ytgnghgeljlaedaa.Q Go.Proofs.Ytgnghgeljlaedaa.Fr Go.Proofs.Ytgnghgeljlaedaa.Oct

/-- A byte of a row of one's own is written. -/
theorem OB.put {w : World} {base g c : Nat} {xs : List Int} (h : OB w base (.slice (some ⟨g, 0, none⟩) xs.length c) xs) (i : Nat) (hi : i < xs.length) (x : Int) : OB (w.setCell ⟨g, i, none⟩ (.int .u8 x)) base (.slice (some ⟨g, 0, none⟩) (xs.set i x).length c) (xs.set i x) := by
  have hR : Kd.R (Kd.int .u8) 5 w base (fun _ => True) (.slice (some ⟨g, 0, none⟩) xs.length c) xs := Kd.R_of_own h (fun _ _ => trivial)
  have h2 := Kd.R_putn (enc := Value.int .u8) (h1 := fun _ => rfl) hR (i : Int) x
  rw [Int.toNat_natCast] at h2
  rw [List.length_set]
  have := Kd.own_of_R h2
  rw [List.length_set] at this
  unfold OB
  rw [List.length_set]
  exact this
theorem OB.form {w : World} {base : Nat} {v : Value} {xs : List Int} (h : OB w base v xs) (hn : 0 < xs.length) : ∃ g c, v = .slice (some ⟨g, 0, none⟩) xs.length c := by
  rcases h.2 with ⟨_, h0⟩ | ⟨g, cap, cur, hv, _⟩
  · omega
  · exact ⟨g, cap, hv⟩
section
variable {ops : Array Oper} {rest : List Oper} {o : Oper} {a : Act} {Q : Exit → Act → World → Prop} {w : World}
/-- append(v, ys...), whatever ys. -/
theorem wpList_appe {P : Program} (hP : P = Try.prog) (hgd : o.guard = none) (base : Nat) (s x : Operand) (ho : o.op = .call { callee := .builtin .append, args := #[s, x], argTypes := #[23, 23] })
    (hi : (Try.prog.info? 5).map (fun i => (i.zero, i.size, i.bytes)) = some (some (.int .u8 0), 1, 1)) (v : Value) (xs : List Int) (hs : a.eval s = v) (hq : OB w base v xs) (A : Option Addr) (m c : Nat) (ys : List Int) (hx : a.eval x = .slice A m c) (hm : m = ys.length) (hy : Rd w A ys) (hl : xs.length + ys.length ≤ 140737488355328) (hb : base ≤ w.heap.size)
    (h : ∀ v1 w1, OB w1 base v1 (xs ++ ys) → Fr (fun k => some k = v.ownBlock) w w1 → (v1.ownBlock = v.ownBlock ∨ ∃ b, v1.ownBlock = some b ∧ w.heap.size ≤ b) → wpList P ops Q rest (a.put o.dst v1) w1) : wpList P ops Q (o :: rest) a w := by
  by_cases hne : ys = []
  · subst hP hm hne
    obtain ⟨i0, hi0, h0, h1, h2⟩ := info_parts hi
    obtain ⟨A', c', rfl, hc'⟩ := hq.slice
    have hr : (Builtin.append_ #[23, 23] o.type #[.slice A' xs.length c', .slice A ([] : List Int).length c]).run Try.prog w = .ok (.slice A' xs.length c') w := by
      cases A <;> cases A' <;> simp [Builtin.append_, run_underlying Try.underlying23, sizeOf, typeInfo, hi0, Builtin.lenOf, Builtin.firstCells, hc', storeCells, loadCells, loadCellsFrom, Result.andThen]
    refine wpList_plain hgd fun K hK => ?_
    unfold Oper.wp execOp
    simp only [ho, resolve, invoke, builtin, Sem.run_bind, Sem.run_pure, Result.andThen_ok, List.map_toArray, List.map_cons, List.map_nil, hs, hx, hr]
    exact hK _ _ (h _ w (by rw [List.append_nil]; exact hq) (Fr.refl _ _) (.inl rfl))
  · exact wpList_appo hP hgd base s x ho hi v xs hs hq A m c ys hx hm hy hne hl hb h
end
end Go.Proofs.Ytgnghgeljlaedaa.Sha
