/-
  Hashes: the plain words of the whole; an append to a row that may begin inside its block.
-/
import Derived.Test.YtgnghgeljlaedaaShaJ
set_option linter.unusedVariables false
set_option linter.unusedSimpArgs false
namespace Go.Proofs.Ytgnghgeljlaedaa.Sha
open Go.RowKit Go.Proofs.YtgnghgeljlaedaaW.PrintWords Go.Proofs.YtgnghgeljlaedaaW.PrintLast Go.Proofs.YtgnghgeljlaedaaW.PrintMore Go.Proofs.Ytgnghgeljlaedaa.Q Go.Proofs.Ytgnghgeljlaedaa.Fr Go.Proofs.Ytgnghgeljlaedaa.Oct

def S0 : List Int := [1779033703, 3144134277, 1013904242, 2773480762, 1359893119, 2600822924, 528734635, 1541459225]
/-- n blocks of m. -/
def run : Nat → List Int → List Int → List Int
  | 0, S, _ => S
  | n + 1, S, m => run n (compress S (m.take 64)) (m.drop 64)
theorem run_len (n : Nat) (S m : List Int) : (run n S m).length = S.length := by
  induction n generalizing S m with
  | zero => rfl
  | succ n ih => rw [run, ih, compress_len]
theorem run_succ (n : Nat) (S m : List Int) : run (n + 1) S m = compress (run n S m) ((m.drop (64 * n)).take 64) := by
  induction n generalizing S m with
  | zero => rfl
  | succ n ih =>
    rw [run, ih, run, List.drop_drop, show 64 + 64 * n = 64 * (n + 1) by omega]
def bytes4 (x : Int) : List Int := [x / 16777216 % 256, x / 65536 % 256, x / 256 % 256, x % 256]
def outB (S : List Int) : List Int := S.flatMap bytes4
/-- The number of zeros. -/
def zpad (n : Nat) : Nat := (119 - n % 64) % 64
def be8 (n : Int) : List Int := [n / 72057594037927936 % 256, n / 281474976710656 % 256, n / 1099511627776 % 256, n / 4294967296 % 256, n / 16777216 % 256, n / 65536 % 256, n / 256 % 256, n % 256]
/-- What stands behind a message of n bytes in all. -/
def tailB (n : Nat) : List Int := 128 :: (List.replicate (zpad n) 0 ++ be8 ((n : Int) * 8))
theorem tail_len (n : Nat) : (n + (tailB n).length) % 64 = 0 := by
  simp only [tailB, List.length_cons, List.length_append, List.length_replicate, be8, List.length_nil, zpad]
  omega
def padded (b : List Int) : List Int := b ++ tailB b.length
/-- The hash. -/
def sha (b : List Int) : List Int := outB (run ((padded b).length / 64) S0 (padded b))

theorem Bys_tail (n : Nat) : Bys (tailB n) := by
  intro x hx
  simp only [tailB, List.mem_cons, List.mem_append, List.mem_replicate, be8, List.not_mem_nil, or_false] at hx
  rcases hx with rfl | ⟨_, rfl⟩ | rfl | rfl | rfl | rfl | rfl | rfl | rfl | rfl <;> omega
theorem Bys_out (S : List Int) : Bys (outB S) := by
  intro x hx
  obtain ⟨y, _, hy⟩ := List.mem_flatMap.1 hx
  simp only [bytes4, List.mem_cons, List.not_mem_nil, or_false] at hy
  rcases hy with rfl | rfl | rfl | rfl <;> omega

/-! ### Rows of bytes -/
abbrev QB (w : World) (base : Nat) (v : Value) (xs : List Int) : Prop := QRow w base 5 1 v xs.length (encs (Value.int .u8) xs)
/-- The bytes can be read from there. -/
def Rd (w : World) (A : Option Addr) (ys : List Int) : Prop := ∀ (j : Nat) (u : Value), (encs (Value.int .u8) ys)[j]? = some u → ∃ ad, A = some ad ∧ w.cell? (ad.add j) = some u
theorem Rd.nil (w : World) (A : Option Addr) : Rd w A [] := fun j u h => by simp [encs] at h
theorem Rd.blk {w : World} {g : Nat} {ys : List Int} {t : TypeId} (h : w.heap[g]? = some (.cells (encs (Value.int .u8) ys).toArray t (0, 0))) : Rd w (some ⟨g, 0, none⟩) ys := fun j u hu => ⟨_, rfl, by
  rw [add_at, cell_of_row w g _ _ t (0, 0) h, Nat.zero_add]
  simpa using hu⟩
theorem Rd.of_C {w : World} {A : Option Addr} {ys : List Int} (h : Kd.C (Kd.int .u8) w A ys.length ys) : Rd w A ys := fun j u hu => by
  have hR := Kd.reads_of_C (enc := Value.int .u8) (d := (0 : Int)) (h1 := fun _ => rfl) h
  have hj : j < ys.length := by simpa [encs] using (List.getElem?_eq_some_iff.1 hu).1
  obtain ⟨ad, e, hc⟩ := hR.2.2 (by omega)
  refine ⟨ad, e, (hc j hj).trans ?_⟩
  rw [← hu]
  simp [encs, List.getD_eq_getElem?_getD, List.getElem?_eq_getElem hj]
theorem Rd.C {w : World} {A : Option Addr} {ys : List Int} (h : Rd w A ys) (hl : ys.length ≤ 9223372036854775807) : Kd.C (Kd.int .u8) w A ys.length ys := by
  refine Kd.C_of_reads (d := (0 : Int)) ⟨rfl, hl, fun hn => ?_⟩
  have hg : ∀ j, j < ys.length → (encs (Value.int .u8) ys)[j]? = some (.int .u8 (ys.getD j 0)) := fun j hj => by
    simp [encs, List.getD_eq_getElem?_getD, List.getElem?_eq_getElem hj]
  obtain ⟨ad, e, _⟩ := h 0 _ (hg 0 hn)
  refine ⟨ad, e, fun j hj => ?_⟩
  obtain ⟨ad', e', h'⟩ := h j _ (hg j hj)
  rw [e] at e'
  cases e'
  exact h'
/-- It can be read in another world in which its cells are the same. -/
theorem Rd.fr {S : Nat → Prop} {w w' : World} {A : Option Addr} {ys : List Int} (h : Rd w A ys) (hf : Fr S w w') (hS : ∀ ad, A = some ad → ¬ S ad.block) : Rd w' A ys := fun j u hu => by
  obtain ⟨ad, e, hc⟩ := h j u hu
  exact ⟨ad, e, hf.cell hc (by rw [addr_block]; exact hS ad e)⟩
theorem QB.rd {w : World} {base : Nat} {A : Option Addr} {n c : Nat} {xs : List Int} (h : QB w base (.slice A n c) xs) : Rd w A xs := fun j u hu => by
  have hj : j < xs.length := by simpa [encs] using (List.getElem?_eq_some_iff.1 hu).1
  obtain ⟨A', c', he, hl⟩ := q_slice h
  cases he
  obtain ⟨ad, e, hc⟩ := q_cells h (by omega)
  exact ⟨ad, e, hc j u hu⟩
theorem QB.slice {w : World} {base : Nat} {v : Value} {xs : List Int} (h : QB w base v xs) : ∃ A c, v = .slice A xs.length c ∧ xs.length ≤ c := q_slice h
theorem QB.fr {S : Nat → Prop} {w w' : World} {base : Nat} {v : Value} {xs : List Int} (h : QB w base v xs) (hf : Fr S w w') (hS : ∀ k, v.ownBlock = some k → ¬ S k) : QB w' base v xs := q_move h (fun k hk => hf.block k (q_lt h k hk) (hS k hk))
theorem QB.base {w : World} {base : Nat} {v : Value} {xs : List Int} (h : QB w base v xs) : ∀ k, v.ownBlock = some k → base ≤ k := fun k hk => (q_typed h k hk).1
theorem QB.nil (w : World) (base : Nat) : QB w base (.slice none 0 0) [] := ⟨rfl, .inl ⟨rfl, none, rfl, fun a h => by cases h⟩⟩
theorem QB.drop {w : World} {base : Nat} {A : Option Addr} {n c : Nat} {xs : List Int} (h : QB w base (.slice A n c) xs) (k : Nat) (hk : k ≤ xs.length) : QB w base (.slice (if c = k then A else A.map (·.add k)) (n - k) (c - k)) (xs.drop k) := by
  obtain ⟨A', c', he, hl⟩ := q_slice h
  cases he
  have := q_drop h hk
  rw [Nat.mul_one] at this
  show QRow w base 5 1 _ (xs.drop k).length (encs (Value.int .u8) (xs.drop k))
  rw [List.length_drop, show encs (Value.int .u8) (xs.drop k) = (encs (Value.int .u8) xs).drop k from List.map_drop]
  exact this
theorem Fr.of_grown {w w' : World} {row : Option Nat} (h : w.grownBy w' row) : Fr (fun k => some k = row) w w' := ⟨h.os, h.tape, h.output, h.size, fun k hk hn => h.block k hk hn⟩
section
variable {P : Program} {ops : Array Oper} {rest : List Oper} {o : Oper} {a : Act} {Q : Exit → Act → World → Prop} {w : World}
theorem run_appq (base : Nat) (ty : TypeId) (hi : (Try.prog.info? 5).map (fun i => (i.zero, i.size, i.bytes)) = some (some (.int .u8 0), 1, 1)) (v : Value) (xs : List Int) (hq : QB w base v xs) (A : Option Addr) (c : Nat) (ys : List Int) (hy : Rd w A ys) (hl : xs.length + ys.length ≤ 140737488355328) (hb : base ≤ w.heap.size) :
    ∃ v1 w1, (Builtin.append_ #[23, 23] ty #[v, .slice A ys.length c]).run Try.prog w = .ok v1 w1 ∧ QB w1 base v1 (xs ++ ys) ∧ w.grownBy w1 v.ownBlock ∧ (v1.ownBlock = v.ownBlock ∨ ∃ b, v1.ownBlock = some b ∧ w.heap.size ≤ b) := by
  obtain ⟨i0, hi0, h0, h1, h2⟩ := info_parts hi
  by_cases hm : ys = []
  · subst hm
    refine ⟨v, w, ?_, by rw [List.append_nil]; exact hq, World.grownBy.refl w _, .inl rfl⟩
    obtain ⟨A', c', rfl, hc'⟩ := q_slice hq
    cases A <;> cases A' <;> simp [Builtin.append_, run_underlying Try.underlying23, sizeOf, typeInfo, hi0, Builtin.lenOf, Builtin.firstCells, hc', storeCells, loadCells, loadCellsFrom, Result.andThen]
  · obtain ⟨y, ys', rfl⟩ := List.exists_cons_of_ne_nil hm
    obtain ⟨ad, hA, _⟩ := hy 0 (.int .u8 y) rfl
    subst hA
    obtain ⟨v1, w1, hr, hq1, hg, hat⟩ := q_append (P := Try.prog) w base 23 ty 5 i0 (.int .u8 0) 1 1 Try.underlying23 hi0 h0 h1 h2 rfl (by decide) v xs.length _ hq ad (y :: ys').length c (encs (Value.int .u8) (y :: ys')) (by rw [encs_len, Nat.mul_one])
      (fun j u hu => by obtain ⟨ad', e, h⟩ := hy j u hu; cases e; exact h) (by simp [encs, Value.oneCell']) (by simp) (by simp only [maxLen]; omega) (by omega) hb
    refine ⟨v1, w1, hr, ?_, hg, hat⟩
    show QRow w1 base 5 1 v1 (xs ++ y :: ys').length (encs (Value.int .u8) (xs ++ y :: ys'))
    rw [List.length_append, show encs (Value.int .u8) (xs ++ y :: ys') = encs (Value.int .u8) xs ++ encs (Value.int .u8) (y :: ys') from List.map_append]
    exact hq1
/-- append(v, ys...): the row's value and the world are letters. -/
theorem wpList_appq {P : Program} (hP : P = Try.prog) (hgd : o.guard = none) (base : Nat) (s x : Operand) (ho : o.op = .call { callee := .builtin .append, args := #[s, x], argTypes := #[23, 23] })
    (hi : (Try.prog.info? 5).map (fun i => (i.zero, i.size, i.bytes)) = some (some (.int .u8 0), 1, 1)) (v : Value) (xs : List Int) (hs : a.eval s = v) (hq : QB w base v xs) (A : Option Addr) (m c : Nat) (ys : List Int) (hx : a.eval x = .slice A m c) (hm : m = ys.length) (hy : Rd w A ys) (hl : xs.length + ys.length ≤ 140737488355328) (hb : base ≤ w.heap.size)
    (h : ∀ v1 w1, QB w1 base v1 (xs ++ ys) → Fr (fun k => some k = v.ownBlock) w w1 → (v1.ownBlock = v.ownBlock ∨ ∃ b, v1.ownBlock = some b ∧ w.heap.size ≤ b) → wpList P ops Q rest (a.put o.dst v1) w1) : wpList P ops Q (o :: rest) a w := by
  subst hP hm
  obtain ⟨v1, w1, hr, h1, h2, h3⟩ := run_appq (w := w) base o.type hi v xs hq A c ys hy hl hb
  refine wpList_plain hgd fun K hK => ?_
  unfold Oper.wp execOp
  simp only [ho, resolve, invoke, builtin, Sem.run_bind, Sem.run_pure, Result.andThen_ok, List.map_toArray, List.map_cons, List.map_nil, hs, hx, hr]
  exact hK _ _ (h v1 w1 h1 (Fr.of_grown h2) h3)
end

/-! ### Rows of bytes that begin at their block's head -/
abbrev OB (w : World) (base : Nat) (v : Value) (xs : List Int) : Prop := w.ownsRow base 5 1 v xs.length (encs (Value.int .u8) xs)
theorem OB.slice {w : World} {base : Nat} {v : Value} {xs : List Int} (h : OB w base v xs) : ∃ A c, v = .slice A xs.length c ∧ xs.length ≤ c := q_slice (q_of_own h)
theorem OB.fr {S : Nat → Prop} {w w' : World} {base : Nat} {v : Value} {xs : List Int} (h : OB w base v xs) (hf : Fr S w w') (hS : ∀ k, v.ownBlock = some k → ¬ S k) : OB w' base v xs := own_move h (fun k hk => hf.block k (q_lt (q_of_own h) k hk) (hS k hk))
theorem OB.base {w : World} {base : Nat} {v : Value} {xs : List Int} (h : OB w base v xs) : ∀ k, v.ownBlock = some k → base ≤ k := fun k hk => (q_typed (q_of_own h) k hk).1
theorem OB.nil (w : World) (base : Nat) : OB w base (.slice none 0 0) [] := ⟨rfl, .inl ⟨rfl, rfl⟩⟩
theorem OB.lower {w : World} {base base' : Nat} {v : Value} {xs : List Int} (h : OB w base v xs) (hb : base' ≤ base) : OB w base' v xs := by
  obtain ⟨h1, h2⟩ := h
  refine ⟨h1, ?_⟩
  rcases h2 with h2 | ⟨g, cap, cur, hv, hg, r⟩
  · exact .inl h2
  · exact .inr ⟨g, cap, cur, hv, Nat.le_trans hb hg, r⟩
section
variable {P : Program} {ops : Array Oper} {rest : List Oper} {o : Oper} {a : Act} {Q : Exit → Act → World → Prop} {w : World}
/-- append(v, ys...), ys not empty: the row's value and the world are letters. -/
theorem wpList_appo {P : Program} (hP : P = Try.prog) (hgd : o.guard = none) (base : Nat) (s x : Operand) (ho : o.op = .call { callee := .builtin .append, args := #[s, x], argTypes := #[23, 23] })
    (hi : (Try.prog.info? 5).map (fun i => (i.zero, i.size, i.bytes)) = some (some (.int .u8 0), 1, 1)) (v : Value) (xs : List Int) (hs : a.eval s = v) (hq : OB w base v xs) (A : Option Addr) (m c : Nat) (ys : List Int) (hx : a.eval x = .slice A m c) (hm : m = ys.length) (hy : Rd w A ys) (hne : ys ≠ []) (hl : xs.length + ys.length ≤ 140737488355328) (hb : base ≤ w.heap.size)
    (h : ∀ v1 w1, OB w1 base v1 (xs ++ ys) → Fr (fun k => some k = v.ownBlock) w w1 → (v1.ownBlock = v.ownBlock ∨ ∃ b, v1.ownBlock = some b ∧ w.heap.size ≤ b) → wpList P ops Q rest (a.put o.dst v1) w1) : wpList P ops Q (o :: rest) a w := by
  subst hP hm
  obtain ⟨i0, hi0, h0, h1, h2⟩ := info_parts hi
  obtain ⟨y, ys', rfl⟩ := List.exists_cons_of_ne_nil hne
  obtain ⟨ad, hA, _⟩ := hy 0 (.int .u8 y) rfl
  subst hA
  obtain ⟨v1, w1, hr, hq1, hg, _, hat⟩ := run_append_own_at (P := Try.prog) w base 23 o.type 5 i0 (.int .u8 0) 1 1 Try.underlying23 hi0 h0 h1 h2 rfl (by decide) v xs.length _ hq ad (y :: ys').length c (encs (Value.int .u8) (y :: ys')) (by rw [encs_len, Nat.mul_one])
    (fun j u hu => by obtain ⟨ad', e, h⟩ := hy j u hu; cases e; exact h) (by simp [encs, Value.oneCell']) (by simp only [maxLen]; omega) (by omega) hb
  have hq2 : OB w1 base v1 (xs ++ y :: ys') := by
    show w1.ownsRow base 5 1 v1 (xs ++ y :: ys').length (encs (Value.int .u8) (xs ++ y :: ys'))
    rw [List.length_append, show encs (Value.int .u8) (xs ++ y :: ys') = encs (Value.int .u8) xs ++ encs (Value.int .u8) (y :: ys') from List.map_append]
    exact hq1
  refine wpList_plain hgd fun K hK => ?_
  unfold Oper.wp execOp
  simp only [ho, resolve, invoke, builtin, Sem.run_bind, Sem.run_pure, Result.andThen_ok, List.map_toArray, List.map_cons, List.map_nil, hs, hx, hr]
  exact hK _ _ (h v1 w1 hq2 (Fr.of_grown hg) (hat.elim .inl (fun h => .inr ⟨_, h, Nat.le_refl _⟩)))
end
end Go.Proofs.Ytgnghgeljlaedaa.Sha
