/-
  Rows of bytes: those that begin at their block's head, those that need not; what can be read; loops; frames of slots.
-/
import Derived.Test.YtkkgjbafncmohaaFr
import Derived.Test.YtkkgjbafncmohaaOct
import Derived.Test.YtkkgjbafncmohaaQx9
import Derived.StillTailTactics
import Derived.Deep.LoopGhost
set_option linter.unusedVariables false
set_option linter.unusedSimpArgs false
namespace Go.Proofs.Ytkkgjbafncmohaa.Sha
open Go.RowKit Go.Proofs.YtkkgjbafncmohaaW.PrintWords Go.Proofs.YtkkgjbafncmohaaW.PrintLast Go.Proofs.YtkkgjbafncmohaaW.PrintMore Go.Proofs.Ytkkgjbafncmohaa.Q Go.Proofs.Ytkkgjbafncmohaa.Fr Go.Proofs.Ytkkgjbafncmohaa.Oct
/-- The loops' bodies, in the order of the text. -/
def loopsIn : Code → List Code
  | .loop c => [c]
  | .seq a b => loopsIn a ++ loopsIn b
  | .block _ c => loopsIn c
  | .scope c => loopsIn c
  | .cond _ a b => loopsIn a ++ loopsIn b
  | _ => []
noncomputable def bodyN (f : Func) (n : Nat) : Code := (((f.body.map loopsIn).getD [])[n]?).getD .skip

theorem encs_len {α : Type} (e : α → Value) (l : List α) : (encs e l).length = l.length := by simp [encs]
/-- A region that draws; what reads stands ahead of the tail; the world is a letter. -/
theorem region_tail {P : Program} {id : Nat} {Q : Exit → Act → World → Prop} {a : Act} {w : World} {l : List Oper} (n : Nat) (hm : P.follows .mixedOrders = true) (hB : Region.lexTailB .any l.toArray n = true)
    (h : ∀ w', w' = w.drew → wpStill P l.toArray w' (fun a' => wpList P l.toArray Q (l.drop n) a' w') (l.take n) a) : (Code.region id l.toArray true).wp P Q a w := wp_region_still_tail n hm hB (h w.drew rfl)
/-- A loop of N rounds, told upward. -/
theorem wp_loop_up {P : Program} {Q : Exit → Act → World → Prop} {a : Act} {w : World} {c : Code} (N : Nat) (J : Nat → Act → World → Prop) (h0 : J 0 a w)
    (round : ∀ t a w, t ≤ N → J t a w → c.wp P (Exit.then (fun a' w' => t < N ∧ J (t + 1) a' w') Q) a w) : (Code.loop c).wp P Q a w := by
  refine wp_loop_ghost (fun n a w => n ≤ N ∧ J (N - n) a w) N ⟨Nat.le_refl _, by rw [Nat.sub_self]; exact h0⟩ ?_
  rintro n a w ⟨hn, hJ⟩
  refine Code.wp_mono ?_ (round (N - n) a w (by omega) hJ)
  intro e a' w' hq
  cases e with
  | normal => exact ⟨n - 1, by have := hq.1; omega, by omega, by have h2 := hq.2; rw [show N - (n - 1) = N - n + 1 by have := hq.1; omega]; exact h2⟩
  | _ => exact hq
theorem frozenV {w : World} {g : Nat} {cs : Array Value} {t : TypeId} (h : w.heap[g]? = some (.cells cs t (0, 0))) (i : Nat) : w.frozen? ⟨g, i, none⟩ = false := by simp [World.frozen?, h]
theorem addr_block (p : Addr) (i : Nat) : (p.add i).block = p.block := by unfold Addr.add; split <;> rfl
section
variable {P : Program} {ops : Array Oper} {rest : List Oper} {o : Oper} {a : Act} {Q : Exit → Act → World → Prop} {w : World}
theorem wpList_build_abs (hg : o.guard = none) (t : TypeId) (parts : Array (Nat × Operand)) (ho : o.op = .build t parts) (cells : Array Value)
    (hf : P.built t (parts.map fun (i, x) => (i, a.eval x)).toList = some cells)
    (h : wpList P ops Q rest (a.put o.dst (.agg cells)) w) : wpList P ops Q (o :: rest) a w :=
  wpList_build hg t parts ho (by rw [hf]; rfl) (by rw [hf]; exact h)
end
/-- A frame of n slots. -/
def Fm (n : Nat) (a : Act) : Prop := a.tmps.size = n ∧ a.defers = []
def sl (a : Act) (i : Nat) : Value := a.tmps.getD i undef
abbrev QB (w : World) (base : Nat) (v : Value) (xs : List Int) : Prop := QRow w base 5 1 v xs.length (encs (Value.int .u8) xs)
/-- The bytes can be read from there. -/
def Rd (w : World) (A : Option Addr) (ys : List Int) : Prop := ∀ (j : Nat) (u : Value), (encs (Value.int .u8) ys)[j]? = some u → ∃ ad, A = some ad ∧ w.cell? (ad.add j) = some u
theorem Rd.nil (w : World) (A : Option Addr) : Rd w A [] := fun j u h => by simp [encs] at h
theorem Rd.blk {w : World} {g : Nat} {ys : List Int} {t : TypeId} (h : w.heap[g]? = some (.cells (encs (Value.int .u8) ys).toArray t (0, 0))) : Rd w (some ⟨g, 0, none⟩) ys := fun j u hu => ⟨_, rfl, by
  rw [add_at, cell_of_row w g _ _ t (0, 0) h, Nat.zero_add]
  simpa using hu⟩
theorem Rd.of_C {w : World} {A : Option Addr} {ys : List Int} (h : Kd.C (Kd.int .u8) w A ys.length ys) : Rd w A ys := fun j u hu => by
  have hR := Kd.reads_of_C (enc := Value.int .u8) (d := (0 : Int)) (h1 := fun _ => rfl) h
  have hj : j < ys.length := by simpa [encs] using (List.getElem?_eq_some_iff.1 hu).1
  obtain ⟨ad, e, hc⟩ := hR.2.2 (by omega)
  refine ⟨ad, e, (hc j hj).trans ?_⟩
  rw [← hu]
  simp [encs, List.getD_eq_getElem?_getD, List.getElem?_eq_getElem hj]
theorem Rd.C {w : World} {A : Option Addr} {ys : List Int} (h : Rd w A ys) (hl : ys.length ≤ 9223372036854775807) : Kd.C (Kd.int .u8) w A ys.length ys := by
  refine Kd.C_of_reads (d := (0 : Int)) ⟨rfl, hl, fun hn => ?_⟩
  have hg : ∀ j, j < ys.length → (encs (Value.int .u8) ys)[j]? = some (.int .u8 (ys.getD j 0)) := fun j hj => by
    simp [encs, List.getD_eq_getElem?_getD, List.getElem?_eq_getElem hj]
  obtain ⟨ad, e, _⟩ := h 0 _ (hg 0 hn)
  refine ⟨ad, e, fun j hj => ?_⟩
  obtain ⟨ad', e', h'⟩ := h j _ (hg j hj)
  rw [e] at e'
  cases e'
  exact h'
/-- It can be read in another world in which its cells are the same. -/
theorem Rd.fr {S : Nat → Prop} {w w' : World} {A : Option Addr} {ys : List Int} (h : Rd w A ys) (hf : Fr S w w') (hS : ∀ ad, A = some ad → ¬ S ad.block) : Rd w' A ys := fun j u hu => by
  obtain ⟨ad, e, hc⟩ := h j u hu
  exact ⟨ad, e, hf.cell hc (by rw [addr_block]; exact hS ad e)⟩
theorem QB.rd {w : World} {base : Nat} {A : Option Addr} {n c : Nat} {xs : List Int} (h : QB w base (.slice A n c) xs) : Rd w A xs := fun j u hu => by
  have hj : j < xs.length := by simpa [encs] using (List.getElem?_eq_some_iff.1 hu).1
  obtain ⟨A', c', he, hl⟩ := q_slice h
  cases he
  obtain ⟨ad, e, hc⟩ := q_cells h (by omega)
  exact ⟨ad, e, hc j u hu⟩
theorem QB.slice {w : World} {base : Nat} {v : Value} {xs : List Int} (h : QB w base v xs) : ∃ A c, v = .slice A xs.length c ∧ xs.length ≤ c := q_slice h
theorem QB.fr {S : Nat → Prop} {w w' : World} {base : Nat} {v : Value} {xs : List Int} (h : QB w base v xs) (hf : Fr S w w') (hS : ∀ k, v.ownBlock = some k → ¬ S k) : QB w' base v xs := q_move h (fun k hk => hf.block k (q_lt h k hk) (hS k hk))
theorem QB.base {w : World} {base : Nat} {v : Value} {xs : List Int} (h : QB w base v xs) : ∀ k, v.ownBlock = some k → base ≤ k := fun k hk => (q_typed h k hk).1
theorem QB.nil (w : World) (base : Nat) : QB w base (.slice none 0 0) [] := ⟨rfl, .inl ⟨rfl, none, rfl, fun a h => by cases h⟩⟩
theorem QB.drop {w : World} {base : Nat} {A : Option Addr} {n c : Nat} {xs : List Int} (h : QB w base (.slice A n c) xs) (k : Nat) (hk : k ≤ xs.length) : QB w base (.slice (if c = k then A else A.map (·.add k)) (n - k) (c - k)) (xs.drop k) := by
  obtain ⟨A', c', he, hl⟩ := q_slice h
  cases he
  have := q_drop h hk
  rw [Nat.mul_one] at this
  show QRow w base 5 1 _ (xs.drop k).length (encs (Value.int .u8) (xs.drop k))
  rw [List.length_drop, show encs (Value.int .u8) (xs.drop k) = (encs (Value.int .u8) xs).drop k from List.map_drop]
  exact this
theorem Fr.of_grown {w w' : World} {row : Option Nat} (h : w.grownBy w' row) : Fr (fun k => some k = row) w w' := ⟨h.os, h.tape, h.output, h.size, fun k hk hn => h.block k hk hn⟩
abbrev OB (w : World) (base : Nat) (v : Value) (xs : List Int) : Prop := w.ownsRow base 5 1 v xs.length (encs (Value.int .u8) xs)
theorem OB.slice {w : World} {base : Nat} {v : Value} {xs : List Int} (h : OB w base v xs) : ∃ A c, v = .slice A xs.length c ∧ xs.length ≤ c := q_slice (q_of_own h)
theorem OB.fr {S : Nat → Prop} {w w' : World} {base : Nat} {v : Value} {xs : List Int} (h : OB w base v xs) (hf : Fr S w w') (hS : ∀ k, v.ownBlock = some k → ¬ S k) : OB w' base v xs := own_move h (fun k hk => hf.block k (q_lt (q_of_own h) k hk) (hS k hk))
theorem OB.base {w : World} {base : Nat} {v : Value} {xs : List Int} (h : OB w base v xs) : ∀ k, v.ownBlock = some k → base ≤ k := fun k hk => (q_typed (q_of_own h) k hk).1
theorem OB.nil (w : World) (base : Nat) : OB w base (.slice none 0 0) [] := ⟨rfl, .inl ⟨rfl, rfl⟩⟩
theorem OB.lower {w : World} {base base' : Nat} {v : Value} {xs : List Int} (h : OB w base v xs) (hb : base' ≤ base) : OB w base' v xs := by
  obtain ⟨h1, h2⟩ := h
  refine ⟨h1, ?_⟩
  rcases h2 with h2 | ⟨g, cap, cur, hv, hg, r⟩
  · exact .inl h2
  · exact .inr ⟨g, cap, cur, hv, Nat.le_trans hb hg, r⟩
section
variable {P : Program} {ops : Array Oper} {rest : List Oper} {o : Oper} {a : Act} {Q : Exit → Act → World → Prop} {w : World}
/-- append(v, ys...), ys not empty: the row's value and the world are letters. -/
theorem wpList_appo {P : Program} (hP : P = Try.prog) (hgd : o.guard = none) (base : Nat) (s x : Operand) (ho : o.op = .call { callee := .builtin .append, args := #[s, x], argTypes := #[22, 22] })
    (hi : (Try.prog.info? 5).map (fun i => (i.zero, i.size, i.bytes)) = some (some (.int .u8 0), 1, 1)) (v : Value) (xs : List Int) (hs : a.eval s = v) (hq : OB w base v xs) (A : Option Addr) (m c : Nat) (ys : List Int) (hx : a.eval x = .slice A m c) (hm : m = ys.length) (hy : Rd w A ys) (hne : ys ≠ []) (hl : xs.length + ys.length ≤ 140737488355328) (hb : base ≤ w.heap.size)
    (h : ∀ v1 w1, OB w1 base v1 (xs ++ ys) → Fr (fun k => some k = v.ownBlock) w w1 → (v1.ownBlock = v.ownBlock ∨ ∃ b, v1.ownBlock = some b ∧ w.heap.size ≤ b) → wpList P ops Q rest (a.put o.dst v1) w1) : wpList P ops Q (o :: rest) a w := by
  subst hP hm
  obtain ⟨i0, hi0, h0, h1, h2⟩ := info_parts hi
  obtain ⟨y, ys', rfl⟩ := List.exists_cons_of_ne_nil hne
  obtain ⟨ad, hA, _⟩ := hy 0 (.int .u8 y) rfl
  subst hA
  obtain ⟨v1, w1, hr, hq1, hg, _, hat⟩ := run_append_own_at (P := Try.prog) w base 22 o.type 5 i0 (.int .u8 0) 1 1 Try.underlying22 hi0 h0 h1 h2 rfl (by decide) v xs.length _ hq ad (y :: ys').length c (encs (Value.int .u8) (y :: ys')) (by rw [encs_len, Nat.mul_one])
    (fun j u hu => by obtain ⟨ad', e, h⟩ := hy j u hu; cases e; exact h) (by simp [encs, Value.oneCell']) (by simp only [maxLen]; omega) (by omega) hb
  have hq2 : OB w1 base v1 (xs ++ y :: ys') := by
    show w1.ownsRow base 5 1 v1 (xs ++ y :: ys').length (encs (Value.int .u8) (xs ++ y :: ys'))
    rw [List.length_append, show encs (Value.int .u8) (xs ++ y :: ys') = encs (Value.int .u8) xs ++ encs (Value.int .u8) (y :: ys') from List.map_append]
    exact hq1
  refine wpList_plain hgd fun K hK => ?_
  unfold Oper.wp execOp
  simp only [ho, resolve, invoke, builtin, Sem.run_bind, Sem.run_pure, Result.andThen_ok, List.map_toArray, List.map_cons, List.map_nil, hs, hx, hr]
  exact hK _ _ (h v1 w1 hq2 (Fr.of_grown hg) (hat.elim .inl (fun h => .inr ⟨_, h, Nat.le_refl _⟩)))
/-- append(v, ys...), whatever ys. -/
theorem wpList_appe {P : Program} (hP : P = Try.prog) (hgd : o.guard = none) (base : Nat) (s x : Operand) (ho : o.op = .call { callee := .builtin .append, args := #[s, x], argTypes := #[22, 22] })
    (hi : (Try.prog.info? 5).map (fun i => (i.zero, i.size, i.bytes)) = some (some (.int .u8 0), 1, 1)) (v : Value) (xs : List Int) (hs : a.eval s = v) (hq : OB w base v xs) (A : Option Addr) (m c : Nat) (ys : List Int) (hx : a.eval x = .slice A m c) (hm : m = ys.length) (hy : Rd w A ys) (hl : xs.length + ys.length ≤ 140737488355328) (hb : base ≤ w.heap.size)
    (h : ∀ v1 w1, OB w1 base v1 (xs ++ ys) → Fr (fun k => some k = v.ownBlock) w w1 → (v1.ownBlock = v.ownBlock ∨ ∃ b, v1.ownBlock = some b ∧ w.heap.size ≤ b) → wpList P ops Q rest (a.put o.dst v1) w1) : wpList P ops Q (o :: rest) a w := by
  by_cases hne : ys = []
  · subst hP hm hne
    obtain ⟨i0, hi0, h0, h1, h2⟩ := info_parts hi
    obtain ⟨A', c', rfl, hc'⟩ := hq.slice
    have hr : (Builtin.append_ #[22, 22] o.type #[.slice A' xs.length c', .slice A ([] : List Int).length c]).run Try.prog w = .ok (.slice A' xs.length c') w := by
      cases A <;> cases A' <;> simp [Builtin.append_, run_underlying Try.underlying22, sizeOf, typeInfo, hi0, Builtin.lenOf, Builtin.firstCells, hc', storeCells, loadCells, loadCellsFrom, Result.andThen]
    refine wpList_plain hgd fun K hK => ?_
    unfold Oper.wp execOp
    simp only [ho, resolve, invoke, builtin, Sem.run_bind, Sem.run_pure, Result.andThen_ok, List.map_toArray, List.map_cons, List.map_nil, hs, hx, hr]
    exact hK _ _ (h _ w (by rw [List.append_nil]; exact hq) (Fr.refl _ _) (.inl rfl))
  · exact wpList_appo hP hgd base s x ho hi v xs hs hq A m c ys hx hm hy hne hl hb h
end
/-- A byte of a row of one's own is written. -/
theorem OB.put {w : World} {base g c : Nat} {xs : List Int} (h : OB w base (.slice (some ⟨g, 0, none⟩) xs.length c) xs) (i : Nat) (hi : i < xs.length) (x : Int) : OB (w.setCell ⟨g, i, none⟩ (.int .u8 x)) base (.slice (some ⟨g, 0, none⟩) (xs.set i x).length c) (xs.set i x) := by
  have hR : Kd.R (Kd.int .u8) 5 w base (fun _ => True) (.slice (some ⟨g, 0, none⟩) xs.length c) xs := Kd.R_of_own h (fun _ _ => trivial)
  have h2 := Kd.R_putn (enc := Value.int .u8) (h1 := fun _ => rfl) hR (i : Int) x
  rw [Int.toNat_natCast] at h2
  rw [List.length_set]
  have := Kd.own_of_R h2
  rw [List.length_set] at this
  unfold OB
  rw [List.length_set]
  exact this
theorem OB.form {w : World} {base : Nat} {v : Value} {xs : List Int} (h : OB w base v xs) (hn : 0 < xs.length) : ∃ g c, v = .slice (some ⟨g, 0, none⟩) xs.length c := by
  rcases h.2 with ⟨_, h0⟩ | ⟨g, cap, cur, hv, _⟩
  · omega
  · exact ⟨g, cap, hv⟩
theorem Rd.mid {w : World} {A : Option Addr} {ys : List Int} (h : Rd w A ys) (lo k : Nat) : Rd w (A.map (·.add lo)) ((ys.drop lo).take k) := fun j u hu => by
  have hu' : (encs (Value.int .u8) ys)[lo + j]? = some u := by
    simp only [encs, List.getElem?_map, List.getElem?_take, List.getElem?_drop] at hu ⊢
    split at hu
    · exact hu
    · simp at hu
  obtain ⟨ad, e, hc⟩ := h (lo + j) u hu'
  refine ⟨ad.add lo, by rw [e]; rfl, ?_⟩
  rw [show (ad.add lo).add j = ad.add (lo + j) from by simp only [Addr.add]; split <;> split <;> (try split) <;> simp_all <;> omega]
  exact hc

theorem Rd.mark {w : World} {g : Nat} {ys : List Int} {t : TypeId} {fr : Nat × Nat} (h : w.heap[g]? = some (.cells (encs (Value.int .u8) ys).toArray t fr)) : Rd w (some ⟨g, 0, none⟩) ys := fun j u hu => ⟨_, rfl, by
  rw [add_at]
  simp [World.cell?, h, hu]⟩
theorem Rd.cells {w : World} {ad : Addr} {ys : List Int} (h : Rd w (some ad) ys) (i : Int) (h0 : 0 ≤ i) (h1 : i < ys.length) : w.cell? (ad.add i.toNat) = some (.int .u8 (ys.getD i.toNat 0)) := by
  have hl : i.toNat < ys.length := by omega
  obtain ⟨ad', e, hc⟩ := h i.toNat (.int .u8 (ys.getD i.toNat 0)) (by simp [encs, List.getD_eq_getElem?_getD, List.getElem?_eq_getElem hl])
  cases e
  exact hc

theorem infoB : (Try.prog.info? 5).map (fun i => (i.zero, i.size, i.bytes)) = some (some (.int .u8 0), 1, 1) := by kernel_rfl
section
variable {P : Program} {ops : Array Oper} {rest : List Oper} {o o1 o2 o3 : Oper} {a : Act} {Q : Exit → Act → World → Prop} {w : World}
/-- '[]byte{}'. -/
theorem wpList_lit0 (hgd : o.guard = none) (hrun : (execOp a.eval o).run P w = .ok (.value (.slice (some ⟨w.heap.size, 0, none⟩) 0 0)) (w.alloc (.cells #[] 5)))
    (h : ∀ v1 w1, OB w1 w.heap.size v1 [] → Below w.heap.size w w1 → wpList P ops Q rest (a.put o.dst v1) w1) : wpList P ops Q (o :: rest) a w := by
  refine Kd.event_run hgd hrun (h _ _ ?_ (below_alloc (Below.refl _ _) _))
  show (w.alloc (.cells #[] 5)).ownsRow w.heap.size 5 1 (.slice (some ⟨w.heap.size, 0, none⟩) 0 0) 0 []
  simpa using World.ownsRow_lit (base := w.heap.size) (e := 5) (size := 1) w #[] 0 (Nat.le_refl _) (by decide) (by simp)
theorem wpList_move (hgd : o.guard = none) (x : Operand) (ho : o.op = .move x) (v : Value) (hx : a.eval x = v) (h : wpList P ops Q rest (a.put o.dst v) w) : wpList P ops Q (o :: rest) a w := by
  refine wpList_plain hgd fun K hK => ?_
  unfold Oper.wp
  simp [execOp, ho, hx]
  exact hK _ _ h
/-- 'append([]byte{}, x...)': three operations. -/
theorem wpList_copyb (hP : P = Try.prog) (g1 : Region.wanted o1 (yielded ops a.tmps) = true) (g2 : ∀ v, Region.wanted o2 (yielded ops (a.put o1.dst v).tmps) = true) (g3 : ∀ v u, Region.wanted o3 (yielded ops ((a.put o1.dst v).put o2.dst u).tmps) = true)
    (hrun : (execOp a.eval o1).run P w = .ok (.value (.slice (some ⟨w.heap.size, 0, none⟩) 0 0)) (w.alloc (.cells #[] 5)))
    (x : Operand) (ho2 : o2.op = .move x) (A : Option Addr) (m c : Nat) (ys : List Int) (hx : ∀ v, (a.put o1.dst v).eval x = .slice A m c) (hm : m = ys.length) (hy : Rd w A ys)
    (s y : Operand) (ho3 : o3.op = .call { callee := .builtin .append, args := #[s, y], argTypes := #[22, 22] }) (h3s : ∀ v u, ((a.put o1.dst v).put o2.dst u).eval s = v) (h3y : ∀ v u, ((a.put o1.dst v).put o2.dst u).eval y = u)
    (hl : ys.length ≤ 140737488355328)
    (h : ∀ v v1 w1, OB w1 w.heap.size v1 ys → Below w.heap.size w w1 → wpList P ops Q rest (((a.put o1.dst v).put o2.dst (.slice A m c)).put o3.dst v1) w1) : wpList P ops Q (o1 :: o2 :: o3 :: rest) a w := by
  refine gate_guard g1 (wpList_lit0 (o := { o1 with guard := none }) rfl hrun fun v w1 hO1 hb1 => gate_guard (g2 v) (wpList_move (o := { o2 with guard := none }) rfl x ho2 _ (hx v) (gate_guard (g3 v _) ?_)))
  have z1 := hb1.size
  refine wpList_appe (o := { o3 with guard := none }) hP rfl w.heap.size s y ho3 infoB v [] (h3s _ _) hO1 A m c ys (h3y _ _) hm (hy.fr (Fr.of_below hb1 (fun _ => False)) (fun _ _ h => h)) (by simp only [List.length_nil]; omega) (by omega) ?_
  intro v1 w2 hO2 hf2 _
  rw [List.nil_append] at hO2
  exact h v v1 w2 hO2 (((Fr.of_below hb1 (fun _ => False)).trans hf2 (fun k hk => .inr (hO1.base k hk.symm))).below _ (Nat.le_refl _) (fun i h => h.elim))
end
theorem OB.far {w : World} {base n c g : Nat} {A : Option Addr} {xs : List Int} (h : OB w base (.slice A n c) xs) (hg : g < base) : ∀ ad, A = some ad → ad.block ≠ g := fun ad e hh => by
  have := h.base ad.block (by rw [e]; rfl)
  omega
theorem i64_in {n : Int} (h : (Lit.int .i64 n).wf = true) : -9223372036854775808 ≤ n ∧ n ≤ 9223372036854775807 := by
  simpa [Lit.wf, IntKind.min, IntKind.max, IntKind.signed, IntKind.bits] using h
theorem same_calls (l : List Int) (A0 : Option Addr) (c0 : Nat) (A1 : Option Addr) (c1 : Nat) (w : World) (h0 : Rd w A0 l) (hc0 : l.length ≤ c0) (h1 : Rd w A1 l) (hc1 : l.length ≤ c1) (hl : l.length ≤ 9223372036854775807) :
    Calls Try.prog 28 #[.slice A0 l.length c0, .slice A1 l.length c1] w fun e w' => e = .returned (.bool true) ∧ Below w.heap.size w w' := by
  refine (catenaryref01_Same.calls A0 c0 l A1 c1 l true w (h0.C hl) hc0 (h1.C hl) hc1 (same_self _)).mono ?_
  rintro e w' ⟨rfl, hd⟩
  exact ⟨rfl, hd.below⟩
end Go.Proofs.Ytkkgjbafncmohaa.Sha
