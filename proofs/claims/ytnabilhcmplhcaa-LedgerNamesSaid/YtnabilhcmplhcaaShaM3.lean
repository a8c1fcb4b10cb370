/- Parts of one work, laid together: ShaK, ShaL, ShaN, ShaO. -/
import Derived.Test.YtnabilhcmplhcaaShaM2
import Derived.Test.YtnabilhcmplhcaaQx14
/-
  Hashes: the plain words of the whole; an append to a row that may begin inside its block.
-/
set_option linter.unusedVariables false
set_option linter.unusedSimpArgs false
namespace Go.Proofs.Ytnabilhcmplhcaa.Sha
open Go.RowKit Go.Proofs.YtnabilhcmplhcaaW.PrintWords Go.Proofs.YtnabilhcmplhcaaW.PrintLast Go.Proofs.YtnabilhcmplhcaaW.PrintMore Go.Proofs.Ytnabilhcmplhcaa.Q Go.Proofs.Ytnabilhcmplhcaa.Fr Go.Proofs.Ytnabilhcmplhcaa.Oct

def S0 : List Int := [1779033703, 3144134277, 1013904242, 2773480762, 1359893119, 2600822924, 528734635, 1541459225]
/-- n blocks of m. -/
def run : Nat → List Int → List Int → List Int
  | 0, S, _ => S
  | n + 1, S, m => run n (compress S (m.take 64)) (m.drop 64)
theorem run_len (n : Nat) (S m : List Int) : (run n S m).length = S.length := by
  induction n generalizing S m with
  | zero => rfl
  | succ n ih => rw [run, ih, compress_len]
theorem run_succ (n : Nat) (S m : List Int) : run (n + 1) S m = compress (run n S m) ((m.drop (64 * n)).take 64) := by
  induction n generalizing S m with
  | zero => rfl
  | succ n ih =>
    rw [run, ih, run, List.drop_drop, show 64 + 64 * n = 64 * (n + 1) by omega]
def bytes4 (x : Int) : List Int := [x / 16777216 % 256, x / 65536 % 256, x / 256 % 256, x % 256]
def outB (S : List Int) : List Int := S.flatMap bytes4
/-- The number of zeros. -/
def zpad (n : Nat) : Nat := (119 - n % 64) % 64
def be8 (n : Int) : List Int := [n / 72057594037927936 % 256, n / 281474976710656 % 256, n / 1099511627776 % 256, n / 4294967296 % 256, n / 16777216 % 256, n / 65536 % 256, n / 256 % 256, n % 256]
/-- What stands behind a message of n bytes in all. -/
def tailB (n : Nat) : List Int := 128 :: (List.replicate (zpad n) 0 ++ be8 ((n : Int) * 8))
theorem tail_len (n : Nat) : (n + (tailB n).length) % 64 = 0 := by
  simp only [tailB, List.length_cons, List.length_append, List.length_replicate, be8, List.length_nil, zpad]
  omega
def padded (b : List Int) : List Int := b ++ tailB b.length
/-- The hash. -/
def sha (b : List Int) : List Int := outB (run ((padded b).length / 64) S0 (padded b))

theorem Bys_tail (n : Nat) : Bys (tailB n) := by
  intro x hx
  simp only [tailB, List.mem_cons, List.mem_append, List.mem_replicate, be8, List.not_mem_nil, or_false] at hx
  rcases hx with rfl | ⟨_, rfl⟩ | rfl | rfl | rfl | rfl | rfl | rfl | rfl | rfl <;> omega
theorem Bys_out (S : List Int) : Bys (outB S) := by
  intro x hx
  obtain ⟨y, _, hy⟩ := List.mem_flatMap.1 hx
  simp only [bytes4, List.mem_cons, List.not_mem_nil, or_false] at hy
  rcases hy with rfl | rfl | rfl | rfl <;> omega

/-! ### Rows of bytes -/
abbrev QB (w : World) (base : Nat) (v : Value) (xs : List Int) : Prop := QRow w base 5 1 v xs.length (encs (Value.int .u8) xs)
/-- The bytes can be read from there. -/
def Rd (w : World) (A : Option Addr) (ys : List Int) : Prop := ∀ (j : Nat) (u : Value), (encs (Value.int .u8) ys)[j]? = some u → ∃ ad, A = some ad ∧ w.cell? (ad.add j) = some u
theorem Rd.nil (w : World) (A : Option Addr) : Rd w A [] := fun j u h => by simp [encs] at h
theorem Rd.blk {w : World} {g : Nat} {ys : List Int} {t : TypeId} (h : w.heap[g]? = some (.cells (encs (Value.int .u8) ys).toArray t (0, 0))) : Rd w (some ⟨g, 0, none⟩) ys := fun j u hu => ⟨_, rfl, by
  rw [add_at, cell_of_row w g _ _ t (0, 0) h, Nat.zero_add]
  simpa using hu⟩
theorem Rd.of_C {w : World} {A : Option Addr} {ys : List Int} (h : Kd.C (Kd.int .u8) w A ys.length ys) : Rd w A ys := fun j u hu => by
  have hR := Kd.reads_of_C (enc := Value.int .u8) (d := (0 : Int)) (h1 := fun _ => rfl) h
  have hj : j < ys.length := by simpa [encs] using (List.getElem?_eq_some_iff.1 hu).1
  obtain ⟨ad, e, hc⟩ := hR.2.2 (by omega)
  refine ⟨ad, e, (hc j hj).trans ?_⟩
  rw [← hu]
  simp [encs, List.getD_eq_getElem?_getD, List.getElem?_eq_getElem hj]
theorem Rd.C {w : World} {A : Option Addr} {ys : List Int} (h : Rd w A ys) (hl : ys.length ≤ 9223372036854775807) : Kd.C (Kd.int .u8) w A ys.length ys := by
  refine Kd.C_of_reads (d := (0 : Int)) ⟨rfl, hl, fun hn => ?_⟩
  have hg : ∀ j, j < ys.length → (encs (Value.int .u8) ys)[j]? = some (.int .u8 (ys.getD j 0)) := fun j hj => by
    simp [encs, List.getD_eq_getElem?_getD, List.getElem?_eq_getElem hj]
  obtain ⟨ad, e, _⟩ := h 0 _ (hg 0 hn)
  refine ⟨ad, e, fun j hj => ?_⟩
  obtain ⟨ad', e', h'⟩ := h j _ (hg j hj)
  rw [e] at e'
  cases e'
  exact h'
/-- It can be read in another world in which its cells are the same. -/
theorem Rd.fr {S : Nat → Prop} {w w' : World} {A : Option Addr} {ys : List Int} (h : Rd w A ys) (hf : Fr S w w') (hS : ∀ ad, A = some ad → ¬ S ad.block) : Rd w' A ys := fun j u hu => by
  obtain ⟨ad, e, hc⟩ := h j u hu
  exact ⟨ad, e, hf.cell hc (by rw [addr_block]; exact hS ad e)⟩
theorem QB.rd {w : World} {base : Nat} {A : Option Addr} {n c : Nat} {xs : List Int} (h : QB w base (.slice A n c) xs) : Rd w A xs := fun j u hu => by
  have hj : j < xs.length := by simpa [encs] using (List.getElem?_eq_some_iff.1 hu).1
  obtain ⟨A', c', he, hl⟩ := q_slice h
  cases he
  obtain ⟨ad, e, hc⟩ := q_cells h (by omega)
  exact ⟨ad, e, hc j u hu⟩
theorem QB.slice {w : World} {base : Nat} {v : Value} {xs : List Int} (h : QB w base v xs) : ∃ A c, v = .slice A xs.length c ∧ xs.length ≤ c := q_slice h
theorem QB.fr {S : Nat → Prop} {w w' : World} {base : Nat} {v : Value} {xs : List Int} (h : QB w base v xs) (hf : Fr S w w') (hS : ∀ k, v.ownBlock = some k → ¬ S k) : QB w' base v xs := q_move h (fun k hk => hf.block k (q_lt h k hk) (hS k hk))
theorem QB.base {w : World} {base : Nat} {v : Value} {xs : List Int} (h : QB w base v xs) : ∀ k, v.ownBlock = some k → base ≤ k := fun k hk => (q_typed h k hk).1
theorem QB.nil (w : World) (base : Nat) : QB w base (.slice none 0 0) [] := ⟨rfl, .inl ⟨rfl, none, rfl, fun a h => by cases h⟩⟩
theorem QB.drop {w : World} {base : Nat} {A : Option Addr} {n c : Nat} {xs : List Int} (h : QB w base (.slice A n c) xs) (k : Nat) (hk : k ≤ xs.length) : QB w base (.slice (if c = k then A else A.map (·.add k)) (n - k) (c - k)) (xs.drop k) := by
  obtain ⟨A', c', he, hl⟩ := q_slice h
  cases he
  have := q_drop h hk
  rw [Nat.mul_one] at this
  show QRow w base 5 1 _ (xs.drop k).length (encs (Value.int .u8) (xs.drop k))
  rw [List.length_drop, show encs (Value.int .u8) (xs.drop k) = (encs (Value.int .u8) xs).drop k from List.map_drop]
  exact this
theorem Fr.of_grown {w w' : World} {row : Option Nat} (h : w.grownBy w' row) : Fr (fun k => some k = row) w w' := ⟨h.os, h.tape, h.output, h.size, fun k hk hn => h.block k hk hn⟩
section
variable {P : Program} {ops : Array Oper} {rest : List Oper} {o : Oper} {a : Act} {Q : Exit → Act → World → Prop} {w : World}
theorem run_appq (base : Nat) (ty : TypeId) (hi : (Try.prog.info? 5).map (fun i => (i.zero, i.size, i.bytes)) = some (some (.int .u8 0), 1, 1)) (v : Value) (xs : List Int) (hq : QB w base v xs) (A : Option Addr) (c : Nat) (ys : List Int) (hy : Rd w A ys) (hl : xs.length + ys.length ≤ 140737488355328) (hb : base ≤ w.heap.size) :
    ∃ v1 w1, (Builtin.append_ #[29, 29] ty #[v, .slice A ys.length c]).run Try.prog w = .ok v1 w1 ∧ QB w1 base v1 (xs ++ ys) ∧ w.grownBy w1 v.ownBlock ∧ (v1.ownBlock = v.ownBlock ∨ ∃ b, v1.ownBlock = some b ∧ w.heap.size ≤ b) := by
  obtain ⟨i0, hi0, h0, h1, h2⟩ := info_parts hi
  by_cases hm : ys = []
  · subst hm
    refine ⟨v, w, ?_, by rw [List.append_nil]; exact hq, World.grownBy.refl w _, .inl rfl⟩
    obtain ⟨A', c', rfl, hc'⟩ := q_slice hq
    cases A <;> cases A' <;> simp [Builtin.append_, run_underlying Try.underlying29, sizeOf, typeInfo, hi0, Builtin.lenOf, Builtin.firstCells, hc', storeCells, loadCells, loadCellsFrom, Result.andThen]
  · obtain ⟨y, ys', rfl⟩ := List.exists_cons_of_ne_nil hm
    obtain ⟨ad, hA, _⟩ := hy 0 (.int .u8 y) rfl
    subst hA
    obtain ⟨v1, w1, hr, hq1, hg, hat⟩ := q_append (P := Try.prog) w base 29 ty 5 i0 (.int .u8 0) 1 1 Try.underlying29 hi0 h0 h1 h2 rfl (by decide) v xs.length _ hq ad (y :: ys').length c (encs (Value.int .u8) (y :: ys')) (by rw [encs_len, Nat.mul_one])
      (fun j u hu => by obtain ⟨ad', e, h⟩ := hy j u hu; cases e; exact h) (by simp [encs, Value.oneCell']) (by simp) (by simp only [maxLen]; omega) (by omega) hb
    refine ⟨v1, w1, hr, ?_, hg, hat⟩
    show QRow w1 base 5 1 v1 (xs ++ y :: ys').length (encs (Value.int .u8) (xs ++ y :: ys'))
    rw [List.length_append, show encs (Value.int .u8) (xs ++ y :: ys') = encs (Value.int .u8) xs ++ encs (Value.int .u8) (y :: ys') from List.map_append]
    exact hq1
/-- append(v, ys...): the row's value and the world are letters. -/
theorem wpList_appq {P : Program} (hP : P = Try.prog) (hgd : o.guard = none) (base : Nat) (s x : Operand) (ho : o.op = .call { callee := .builtin .append, args := #[s, x], argTypes := #[29, 29] })
    (hi : (Try.prog.info? 5).map (fun i => (i.zero, i.size, i.bytes)) = some (some (.int .u8 0), 1, 1)) (v : Value) (xs : List Int) (hs : a.eval s = v) (hq : QB w base v xs) (A : Option Addr) (m c : Nat) (ys : List Int) (hx : a.eval x = .slice A m c) (hm : m = ys.length) (hy : Rd w A ys) (hl : xs.length + ys.length ≤ 140737488355328) (hb : base ≤ w.heap.size)
    (h : ∀ v1 w1, QB w1 base v1 (xs ++ ys) → Fr (fun k => some k = v.ownBlock) w w1 → (v1.ownBlock = v.ownBlock ∨ ∃ b, v1.ownBlock = some b ∧ w.heap.size ≤ b) → wpList P ops Q rest (a.put o.dst v1) w1) : wpList P ops Q (o :: rest) a w := by
  subst hP hm
  obtain ⟨v1, w1, hr, h1, h2, h3⟩ := run_appq (w := w) base o.type hi v xs hq A c ys hy hl hb
  refine wpList_plain hgd fun K hK => ?_
  unfold Oper.wp execOp
  simp only [ho, resolve, invoke, builtin, Sem.run_bind, Sem.run_pure, Result.andThen_ok, List.map_toArray, List.map_cons, List.map_nil, hs, hx, hr]
  exact hK _ _ (h v1 w1 h1 (Fr.of_grown h2) h3)
end

/-! ### Rows of bytes that begin at their block's head -/
abbrev OB (w : World) (base : Nat) (v : Value) (xs : List Int) : Prop := w.ownsRow base 5 1 v xs.length (encs (Value.int .u8) xs)
theorem OB.slice {w : World} {base : Nat} {v : Value} {xs : List Int} (h : OB w base v xs) : ∃ A c, v = .slice A xs.length c ∧ xs.length ≤ c := q_slice (q_of_own h)
theorem OB.fr {S : Nat → Prop} {w w' : World} {base : Nat} {v : Value} {xs : List Int} (h : OB w base v xs) (hf : Fr S w w') (hS : ∀ k, v.ownBlock = some k → ¬ S k) : OB w' base v xs := own_move h (fun k hk => hf.block k (q_lt (q_of_own h) k hk) (hS k hk))
theorem OB.base {w : World} {base : Nat} {v : Value} {xs : List Int} (h : OB w base v xs) : ∀ k, v.ownBlock = some k → base ≤ k := fun k hk => (q_typed (q_of_own h) k hk).1
theorem OB.nil (w : World) (base : Nat) : OB w base (.slice none 0 0) [] := ⟨rfl, .inl ⟨rfl, rfl⟩⟩
theorem OB.lower {w : World} {base base' : Nat} {v : Value} {xs : List Int} (h : OB w base v xs) (hb : base' ≤ base) : OB w base' v xs := by
  obtain ⟨h1, h2⟩ := h
  refine ⟨h1, ?_⟩
  rcases h2 with h2 | ⟨g, cap, cur, hv, hg, r⟩
  · exact .inl h2
  · exact .inr ⟨g, cap, cur, hv, Nat.le_trans hb hg, r⟩
section
variable {P : Program} {ops : Array Oper} {rest : List Oper} {o : Oper} {a : Act} {Q : Exit → Act → World → Prop} {w : World}
/-- append(v, ys...), ys not empty: the row's value and the world are letters. -/
theorem wpList_appo {P : Program} (hP : P = Try.prog) (hgd : o.guard = none) (base : Nat) (s x : Operand) (ho : o.op = .call { callee := .builtin .append, args := #[s, x], argTypes := #[29, 29] })
    (hi : (Try.prog.info? 5).map (fun i => (i.zero, i.size, i.bytes)) = some (some (.int .u8 0), 1, 1)) (v : Value) (xs : List Int) (hs : a.eval s = v) (hq : OB w base v xs) (A : Option Addr) (m c : Nat) (ys : List Int) (hx : a.eval x = .slice A m c) (hm : m = ys.length) (hy : Rd w A ys) (hne : ys ≠ []) (hl : xs.length + ys.length ≤ 140737488355328) (hb : base ≤ w.heap.size)
    (h : ∀ v1 w1, OB w1 base v1 (xs ++ ys) → Fr (fun k => some k = v.ownBlock) w w1 → (v1.ownBlock = v.ownBlock ∨ ∃ b, v1.ownBlock = some b ∧ w.heap.size ≤ b) → wpList P ops Q rest (a.put o.dst v1) w1) : wpList P ops Q (o :: rest) a w := by
  subst hP hm
  obtain ⟨i0, hi0, h0, h1, h2⟩ := info_parts hi
  obtain ⟨y, ys', rfl⟩ := List.exists_cons_of_ne_nil hne
  obtain ⟨ad, hA, _⟩ := hy 0 (.int .u8 y) rfl
  subst hA
  obtain ⟨v1, w1, hr, hq1, hg, _, hat⟩ := run_append_own_at (P := Try.prog) w base 29 o.type 5 i0 (.int .u8 0) 1 1 Try.underlying29 hi0 h0 h1 h2 rfl (by decide) v xs.length _ hq ad (y :: ys').length c (encs (Value.int .u8) (y :: ys')) (by rw [encs_len, Nat.mul_one])
    (fun j u hu => by obtain ⟨ad', e, h⟩ := hy j u hu; cases e; exact h) (by simp [encs, Value.oneCell']) (by simp only [maxLen]; omega) (by omega) hb
  have hq2 : OB w1 base v1 (xs ++ y :: ys') := by
    show w1.ownsRow base 5 1 v1 (xs ++ y :: ys').length (encs (Value.int .u8) (xs ++ y :: ys'))
    rw [List.length_append, show encs (Value.int .u8) (xs ++ y :: ys') = encs (Value.int .u8) xs ++ encs (Value.int .u8) (y :: ys') from List.map_append]
    exact hq1
  refine wpList_plain hgd fun K hK => ?_
  unfold Oper.wp execOp
  simp only [ho, resolve, invoke, builtin, Sem.run_bind, Sem.run_pure, Result.andThen_ok, List.map_toArray, List.map_cons, List.map_nil, hs, hx, hr]
  exact hK _ _ (h v1 w1 hq2 (Fr.of_grown hg) (hat.elim .inl (fun h => .inr ⟨_, h, Nat.le_refl _⟩)))
end
end Go.Proofs.Ytnabilhcmplhcaa.Sha

/-
  The document's hash: the blocks.
-/
set_option linter.unusedVariables false
set_option linter.unusedSimpArgs false
namespace Go.Proofs.Ytnabilhcmplhcaa.Sha
open Go.RowKit Go.Proofs.YtnabilhcmplhcaaW.PrintWords Go.Proofs.YtnabilhcmplhcaaW.PrintLast Go.Proofs.YtnabilhcmplhcaaW.PrintMore Go.Proofs.Ytnabilhcmplhcaa.Q Go.Proofs.Ytnabilhcmplhcaa.Fr Go.Proofs.Ytnabilhcmplhcaa.Oct

theorem Rd.mid {w : World} {A : Option Addr} {ys : List Int} (h : Rd w A ys) (lo k : Nat) : Rd w (A.map (·.add lo)) ((ys.drop lo).take k) := fun j u hu => by
  have hu' : (encs (Value.int .u8) ys)[lo + j]? = some u := by
    simp only [encs, List.getElem?_map, List.getElem?_take, List.getElem?_drop] at hu ⊢
    split at hu
    · exact hu
    · simp at hu
  obtain ⟨ad, e, hc⟩ := h (lo + j) u hu'
  refine ⟨ad.add lo, by rw [e]; rfl, ?_⟩
  rw [show (ad.add lo).add j = ad.add (lo + j) from by simp only [Addr.add]; split <;> split <;> (try split) <;> simp_all <;> omega]
  exact hc

section
variable {P : Program} {ops : Array Oper} {rest : List Oper} {o : Oper} {a : Act} {Q : Act → Prop} {w : World}
/-- A whole array is read, in a region that draws. -/
theorem wpStill_load_mid (hg : o.guard = none) (ty : TypeId) (x : Operand) (ho : o.op = .load ty x) (b off : Nat) (hx : a.eval x = .pointer (some ⟨b, off, none⟩)) (cs : List Value) (d : TypeDesc) (hc : w.rangeAt b off cs)
    (hu : P.underlying ty = some d) (hd : d.isRow = true) (hi : (P.info? ty).map (·.size) = some cs.length) (h : wpStill P ops w Q rest (a.put o.dst (.agg cs.toArray))) : wpStill P ops w Q (o :: rest) a := by
  refine wpStill_step (fun K hK => ?_)
  have hw : Region.wanted o (yielded ops a.tmps) = true := by simp [Region.wanted, hg]
  rw [if_pos hw]
  unfold Oper.still execOp
  simp only [ho, hx, Instr.loadAt, Instr.sureAddr, Sem.run_bind, Sem.run_pure, Result.andThen_ok, run_loadVar_mid w b off ty cs d hc hu hd hi, Oper.stillUpon]
  exact ⟨trivial, hK _ h⟩
end
set_option maxHeartbeats 8000000 in
set_option maxRecDepth 100000 in
theorem roundM (u : Nat → Value) (gs : Nat) (A : Option Addr) (c : Nat) (m : List Int) (t n : Nat) (hn : m.length = 64 * n) (ht : t < n) (hl : m.length ≤ 140737488355328) (hc : m.length ≤ c) (hB : Bys m) (S : List Int) (hS : S.length = 8) (w0 w : World)
    (hs : w.heap[gs]? = some (.cells (encs (Value.int .u32) S).toArray 116 (0, 0))) (hr : Rd w A m) (hf : Fr (fun k => k = gs) w0 w) (hg0 : gs < w0.heap.size)
    (Q : Exit → Act → World → Prop) (hQ : ∀ a' w', Fm 46 a' → sl a' 3 = .pointer (some ⟨gs, 0, none⟩) → sl a' 4 = .slice A m.length c → sl a' 5 = .int .i64 (64 * (t : Int) + 64) → Fr (fun k => k = gs) w0 w' → w'.heap[gs]? = some (.cells (encs (Value.int .u32) (compress S ((m.drop (64 * t)).take 64))).toArray 116 (0, 0)) → Q .normal a' w') :
    Code.wp Try.prog (bodyN Try.f58 0) Q ⟨#[u 0, u 1, u 2, .pointer (some ⟨gs, 0, none⟩), .slice A m.length c, .int .i64 (64 * (t : Int)), u 6, u 7, u 8, u 9, u 10, u 11, u 12, u 13, u 14, u 15, u 16, u 17, u 18, u 19, u 20, u 21, u 22, u 23, u 24, u 25, u 26, u 27, u 28, u 29, u 30, u 31, u 32, u 33, u 34, u 35, u 36, u 37, u 38, u 39, u 40, u 41, u 42, u 43, u 44, u 45], []⟩ w := by
  have hi8 : (Try.prog.info? 116).map (·.size) = some 8 := by kernel_rfl
  have hlP : ((m.drop (64 * t)).take 64).length = 64 := by rw [List.length_take, List.length_drop]; omega
  have hl2 : (encs (Value.int .u32) (compress S ((m.drop (64 * t)).take 64))).toArray.size = 8 := by simp [encs, compress_len, hS]
  have ho2 : (encs (Value.int .u32) (compress S ((m.drop (64 * t)).take 64))).toArray.all (·.oneCell') = true := by simp [encs, Value.oneCell']
  have hl1 : (encs (Value.int .u32) S).toArray.size = 8 := by simp [encs, hS]
  have hbl := fun (w3 : World) (h3 : Rd w3 A m) => Block_calls S hS (A.map (·.add (64 * t))) (c - 64 * t) ((m.drop (64 * t)).take 64) hlP ((hB.drop _).take _) (by omega) w3 ((h3.mid (64 * t) 64).C (by omega))
  obtain ⟨i0, hi0, _, hsz, _⟩ := info_parts info5
  have hcut := cut_mid (P := Try.prog) 29 5 .i64 .i64 Try.underlying29 hi0 1 hsz A m.length c (64 * (t : Int)) (64 * (t : Int) + 64) (by omega) (by omega) (by omega) hc
  rw [show (64 * (t : Int)).toNat = 64 * t by omega, if_neg (by omega), Nat.mul_one, show (64 * (t : Int) + 64).toNat - 64 * t = 64 by omega] at hcut
  obtain ⟨c1, e1⟩ : ∃ cs, (encs (Value.int .u32) S).toArray = cs := ⟨_, rfl⟩
  obtain ⟨c2, e2⟩ : ∃ cs, (encs (Value.int .u32) (compress S ((m.drop (64 * t)).take 64))).toArray = cs := ⟨_, rfl⟩
  have hrg : ∀ w3 : World, w3.heap[gs]? = some (.cells c1 116 (0, 0)) → w3.rangeAt gs 0 (encs (Value.int .u32) S) := fun w3 h3 => rangeS (tl := []) (by rw [List.append_nil, e1]; exact h3)
  have hlS : (encs (Value.int .u32) S).length = 8 := by rw [encs_len, hS]
  rw [e1] at hs hbl hl1
  rw [e2] at hQ hl2 ho2 hbl
  have HX := Aside0.mk (And.intro hl2 (And.intro ho2 (And.intro hi8 (And.intro hbl (And.intro hl1 (And.intro e1 (And.intro hrg (And.intro hlS hn))))))))
  clear hl2 ho2 hi8 hbl hl1 hrg hlS e1 e2
  have c0 : decide (64 * (t : Int) < (m.length : Int)) = true := decide_eq_true (by omega)
  have e5 : IntKind.i64.wrap (64 * (t : Int) + 64) = 64 * (t : Int) + 64 := IntWalk.i64_in _ (by omega)
  clear hn
  conv => arg 2; whnf
  go_wp2
  refine region_tail 6 (by kernel_rfl) (by kernel_rfl) ?_
  intro w3 e3
  have hs3 : w3.heap[gs]? = some (.cells c1 116 (0, 0)) := by rw [e3]; exact hs
  have hf3 : Fr (fun k => k = gs) w0 w3 := by rw [e3]; exact hf.of_drew
  have hr3 : Rd w3 A m := by rw [e3]; exact hr
  clear hs hf hr e3
  have HS := Aside0.mk (And.intro hs3 (And.intro hf3 hr3))
  clear hs3 hf3 hr3
  simp only [List.take_succ_cons, List.take_zero, List.drop_succ_cons, List.drop_zero]
  refine wpStill_load_mid (by rfl) 116 _ (by rfl) gs 0 (by rfl) (encs (Value.int .u32) S) _ (HX.out.2.2.2.2.2.2.1 w3 HS.out.1) Try.underlying116 (by rfl) (by rw [HX.out.2.2.2.2.2.2.2.1]; exact HX.out.2.2.1) ?_
  rw [HX.out.2.2.2.2.2.1]
  repeat still_step
  refine wpStill_nil ?_
  clear hcut
  go_wp2_with (fail)
  refine (HX.out.2.2.2.1 w3 HS.out.2.2).mono ?_
  rintro e w4 ⟨rfl, hb4⟩
  have hs4 := (Fr.of_below hb4 (fun _ => False)).blk HS.out.1 (fun h => h)
  have hf4 := HS.out.2.1.trans (Fr.of_below hb4 (fun _ => False)) (fun i h => h.elim)
  clear HS hb4
  have HF := Aside0.mk hf4
  clear hf4
  go_wp2_with (first | ((with_reducible refine gate_store (p := 3) rfl ?_); refine wpList_store_abs (by rfl) 116 _ _ (by rfl) gs c2 (by rfl) (by rfl) 116 c1 hs4 (by rw [HX.out.1]; exact HX.out.2.2.1) (by rw [HX.out.1]; exact HX.out.2.2.2.2.1) HX.out.2.1 ?_; intro w5 hf5 hs5 hg5) | fail)
  refine hQ _ _ ⟨rfl, rfl⟩ rfl rfl rfl ?_ hg5
  exact HF.out.trans hf5 (fun i h => .inl h)
set_option maxHeartbeats 8000000 in
set_option maxRecDepth 100000 in
theorem exitM (u : Nat → Value) (A : Option Addr) (c k : Nat) (w : World) (Q : Exit → Act → World → Prop) (hQ : ∀ a', Fm 46 a' → sl a' 3 = u 3 → Q (.exit 0) a' w) :
    Code.wp Try.prog (bodyN Try.f58 0) Q ⟨#[u 0, u 1, u 2, u 3, .slice A k c, .int .i64 (k : Int), u 6, u 7, u 8, u 9, u 10, u 11, u 12, u 13, u 14, u 15, u 16, u 17, u 18, u 19, u 20, u 21, u 22, u 23, u 24, u 25, u 26, u 27, u 28, u 29, u 30, u 31, u 32, u 33, u 34, u 35, u 36, u 37, u 38, u 39, u 40, u 41, u 42, u 43, u 44, u 45], []⟩ w := by
  conv => arg 2; whnf
  have c0 : decide ((k : Int) < (k : Int)) = false := by simp
  go_wp2
  exact hQ _ ⟨rfl, rfl⟩ rfl
def JM (gs : Nat) (A : Option Addr) (c : Nat) (m : List Int) (w0 : World) (t : Nat) (a : Act) (w : World) : Prop :=
  Fm 46 a ∧ sl a 3 = .pointer (some ⟨gs, 0, none⟩) ∧ sl a 4 = .slice A m.length c ∧ sl a 5 = .int .i64 ((64 * t : Nat) : Int) ∧
    Fr (fun k => k = gs) w0 w ∧ w.heap[gs]? = some (.cells (encs (Value.int .u32) (run t S0 m)).toArray 116 (0, 0))
theorem loopM (gs : Nat) (A : Option Addr) (c : Nat) (m : List Int) (n : Nat) (hn : m.length = 64 * n) (hl : m.length ≤ 140737488355328) (hc : m.length ≤ c) (hB : Bys m) (w0 : World) (hr : ∀ w, Fr (fun k => k = gs) w0 w → Rd w A m) (hg0 : gs < w0.heap.size)
    (Q : Exit → Act → World → Prop) (hQ : ∀ a' w', Fm 46 a' → sl a' 3 = .pointer (some ⟨gs, 0, none⟩) → Fr (fun k => k = gs) w0 w' → w'.heap[gs]? = some (.cells (encs (Value.int .u32) (run n S0 m)).toArray 116 (0, 0)) → Q (.exit 0) a' w')
    (a : Act) (w : World) (h : JM gs A c m w0 0 a w) : (Code.loop (bodyN Try.f58 0)).wp Try.prog Q a w := by
  refine wp_loop_up n (JM gs A c m w0) h ?_
  rintro t a w ht ⟨hF, h3, h4, h5, hf, hs⟩
  have ha := fm46 hF
  by_cases h64 : t = n
  · subst h64
    rw [h4, h5, ← hn] at ha
    rw [ha]
    exact exitM (sl a) A c m.length w _ fun a' b0 b1 => hQ _ _ b0 (b1.trans h3) hf hs
  · have e1 : ((64 * t : Nat) : Int) = 64 * (t : Int) := by omega
    have e2 : ((64 * (t + 1) : Nat) : Int) = 64 * (t : Int) + 64 := by omega
    rw [h3, h4, h5, e1] at ha
    rw [ha]
    refine roundM (sl a) gs A c m t n hn (by omega) hl hc hB _ ((run_len t S0 m).trans rfl) w0 w hs (hr w hf) hf hg0 _ ?_
    intro a' w' b0 b1 b2 b3 b4 b5
    refine ⟨by omega, b0, b1, b2, by rw [b3, e2], b4, ?_⟩
    rw [b5, run_succ]

/-! ### the words written out -/
theorem idx8 (S : List Int) (hS : S.length = 8) (t : Nat) (ht : t < 8) (w : World) : (Instr.index 116 (.agg (encs (Value.int .u32) S).toArray) (.int .i64 (t : Int))).run Try.prog w = .ok (.int .u32 (S.getD t 0)) w := by
  obtain ⟨va, vb, vc, vd, ve, vf, vg, vh, rfl⟩ := eight hS
  rcases (show t = 0 ∨ t = 1 ∨ t = 2 ∨ t = 3 ∨ t = 4 ∨ t = 5 ∨ t = 6 ∨ t = 7 by omega) with rfl|rfl|rfl|rfl|rfl|rfl|rfl|rfl <;> kernel_rfl
end Go.Proofs.Ytnabilhcmplhcaa.Sha

/-
  The document's hash: the words written out.
-/
set_option linter.unusedVariables false
set_option linter.unusedSimpArgs false
namespace Go.Proofs.Ytnabilhcmplhcaa.Sha
open Go.RowKit Go.Proofs.YtnabilhcmplhcaaW.PrintWords Go.Proofs.YtnabilhcmplhcaaW.PrintLast Go.Proofs.YtnabilhcmplhcaaW.PrintMore Go.Proofs.Ytnabilhcmplhcaa.Q Go.Proofs.Ytnabilhcmplhcaa.Fr Go.Proofs.Ytnabilhcmplhcaa.Oct

noncomputable def bodyIn (f : Func) (n m : Nat) : Code := ((loopsIn (bodyN f n))[m]?).getD .skip
/-- The byte of a word from 8 i on. -/
def byteAt (x : Int) (i : Nat) : Int := x / 2 ^ (8 * i) % 256
theorem bytes4_at (x : Int) : bytes4 x = [byteAt x 3, byteAt x 2, byteAt x 1, byteAt x 0] := by
  simp [bytes4, byteAt]
set_option maxHeartbeats 8000000 in
set_option maxRecDepth 100000 in
theorem roundP (u : Nat → Value) (v : Value) (x : Int) (i : Nat) (hi : i = 3 ∨ i = 2 ∨ i = 1 ∨ i = 0) (xs : List Int) (base : Nat) (w0 w : World) (hb0 : w0.heap.size ≤ base) (hb : base ≤ w.heap.size) (hl : xs.length < 1000) (hq : OB w base v xs) (hf : Fr (fun _ => False) w0 w)
    (Q : Exit → Act → World → Prop) (hQ : ∀ a' w' v', Fm 46 a' → sl a' 6 = v' → sl a' 8 = .int .u32 x → sl a' 9 = .int .i64 ((i : Int) - 1) → sl a' 27 = u 27 → sl a' 28 = u 28 → OB w' base v' (xs ++ [byteAt x i]) → Fr (fun _ => False) w0 w' → base ≤ w'.heap.size → Q .normal a' w') :
    Code.wp Try.prog (bodyIn Try.f58 1 0) Q ⟨#[u 0, u 1, u 2, u 3, u 4, u 5, v, u 7, .int .u32 x, .int .i64 (i : Int), u 10, u 11, u 12, u 13, u 14, u 15, u 16, u 17, u 18, u 19, u 20, u 21, u 22, u 23, u 24, u 25, u 26, u 27, u 28, u 29, u 30, u 31, u 32, u 33, u 34, u 35, u 36, u 37, u 38, u 39, u 40, u 41, u 42, u 43, u 44, u 45], []⟩ w := by
  have HQ := Aside0.mk hq
  have HF := Aside0.mk hf
  obtain ⟨A, c, rfl, _⟩ := hq.slice
  clear hq hf
  rcases hi with rfl | rfl | rfl | rfl
  · have hbt : byteAt x 3 = x / 16777216 % 256 := by simp [byteAt]
    rw [hbt] at hQ
    conv => arg 2; whnf
    go_wp2_with (first | ((with_reducible refine gate_builtin (b := .append) (xs := #[.tmp 35, .tmp 42]) rfl ?_); at_builtin; refine Aside0.out ?_))
    refine ⟨?_⟩
    refine wpList_appo rfl (by rfl) base _ _ (by rfl) info5 (.slice A xs.length c) xs (by rfl) (HQ.out.fr ((Fr.refl (fun _ => False) w).alloc _) (fun k hk h => h)) _ _ _ [x / 16777216 % 256] (by rfl) (by rfl) (Rd.blk (heap_alloc_new _ _)) (by simp) (by simp only [List.length_cons, List.length_nil]; omega) (by rw [World.size_alloc]; omega) ?_
    intro v1 w1 hq1 hf1 hat1
    have hF1 := (HF.out.alloc (.cells #[Value.int .u8 (x / 16777216 % 256)] 5)).trans hf1 (S := fun _ => False) (fun k hk => .inr (by have := HQ.out.base k hk.symm; omega))
    have hs1 := hf1.size
    rw [World.size_alloc] at hs1
    clear hf1 HF HQ
    go_wp2
    exact hQ _ _ _ ⟨rfl, rfl⟩ rfl rfl rfl rfl rfl hq1 hF1 (by omega)
  · have hbt : byteAt x 2 = x / 65536 % 256 := by simp [byteAt]
    rw [hbt] at hQ
    conv => arg 2; whnf
    go_wp2_with (first | ((with_reducible refine gate_builtin (b := .append) (xs := #[.tmp 35, .tmp 42]) rfl ?_); at_builtin; refine Aside0.out ?_))
    refine ⟨?_⟩
    refine wpList_appo rfl (by rfl) base _ _ (by rfl) info5 (.slice A xs.length c) xs (by rfl) (HQ.out.fr ((Fr.refl (fun _ => False) w).alloc _) (fun k hk h => h)) _ _ _ [x / 65536 % 256] (by rfl) (by rfl) (Rd.blk (heap_alloc_new _ _)) (by simp) (by simp only [List.length_cons, List.length_nil]; omega) (by rw [World.size_alloc]; omega) ?_
    intro v1 w1 hq1 hf1 hat1
    have hF1 := (HF.out.alloc (.cells #[Value.int .u8 (x / 65536 % 256)] 5)).trans hf1 (S := fun _ => False) (fun k hk => .inr (by have := HQ.out.base k hk.symm; omega))
    have hs1 := hf1.size
    rw [World.size_alloc] at hs1
    clear hf1 HF HQ
    go_wp2
    exact hQ _ _ _ ⟨rfl, rfl⟩ rfl rfl rfl rfl rfl hq1 hF1 (by omega)
  · have hbt : byteAt x 1 = x / 256 % 256 := by simp [byteAt]
    rw [hbt] at hQ
    conv => arg 2; whnf
    go_wp2_with (first | ((with_reducible refine gate_builtin (b := .append) (xs := #[.tmp 35, .tmp 42]) rfl ?_); at_builtin; refine Aside0.out ?_))
    refine ⟨?_⟩
    refine wpList_appo rfl (by rfl) base _ _ (by rfl) info5 (.slice A xs.length c) xs (by rfl) (HQ.out.fr ((Fr.refl (fun _ => False) w).alloc _) (fun k hk h => h)) _ _ _ [x / 256 % 256] (by rfl) (by rfl) (Rd.blk (heap_alloc_new _ _)) (by simp) (by simp only [List.length_cons, List.length_nil]; omega) (by rw [World.size_alloc]; omega) ?_
    intro v1 w1 hq1 hf1 hat1
    have hF1 := (HF.out.alloc (.cells #[Value.int .u8 (x / 256 % 256)] 5)).trans hf1 (S := fun _ => False) (fun k hk => .inr (by have := HQ.out.base k hk.symm; omega))
    have hs1 := hf1.size
    rw [World.size_alloc] at hs1
    clear hf1 HF HQ
    go_wp2
    exact hQ _ _ _ ⟨rfl, rfl⟩ rfl rfl rfl rfl rfl hq1 hF1 (by omega)
  · have hbt : byteAt x 0 = x % 256 := by simp [byteAt]
    rw [hbt] at hQ
    conv => arg 2; whnf
    go_wp2_with (first | ((with_reducible refine gate_builtin (b := .append) (xs := #[.tmp 35, .tmp 42]) rfl ?_); at_builtin; refine Aside0.out ?_))
    refine ⟨?_⟩
    refine wpList_appo rfl (by rfl) base _ _ (by rfl) info5 (.slice A xs.length c) xs (by rfl) (HQ.out.fr ((Fr.refl (fun _ => False) w).alloc _) (fun k hk h => h)) _ _ _ [x % 256] (by rfl) (by rfl) (Rd.blk (heap_alloc_new _ _)) (by simp) (by simp only [List.length_cons, List.length_nil]; omega) (by rw [World.size_alloc]; omega) ?_
    intro v1 w1 hq1 hf1 hat1
    have hF1 := (HF.out.alloc (.cells #[Value.int .u8 (x % 256)] 5)).trans hf1 (S := fun _ => False) (fun k hk => .inr (by have := HQ.out.base k hk.symm; omega))
    have hs1 := hf1.size
    rw [World.size_alloc] at hs1
    clear hf1 HF HQ
    go_wp2
    exact hQ _ _ _ ⟨rfl, rfl⟩ rfl rfl rfl rfl rfl hq1 hF1 (by omega)
end Go.Proofs.Ytnabilhcmplhcaa.Sha

/-
  The document's hash, whole.
-/
set_option linter.unusedVariables false
set_option linter.unusedSimpArgs false
namespace Go.Proofs.Ytnabilhcmplhcaa.Sha
open Go.RowKit Go.Proofs.YtnabilhcmplhcaaW.PrintWords Go.Proofs.YtnabilhcmplhcaaW.PrintLast Go.Proofs.YtnabilhcmplhcaaW.PrintMore Go.Proofs.Ytnabilhcmplhcaa.Q Go.Proofs.Ytnabilhcmplhcaa.Fr Go.Proofs.Ytnabilhcmplhcaa.Oct

set_option maxHeartbeats 8000000 in
set_option maxRecDepth 100000 in
theorem exitP (u : Nat → Value) (w : World) (Q : Exit → Act → World → Prop) (hQ : ∀ a', Fm 46 a' → sl a' 6 = u 6 → sl a' 27 = u 27 → sl a' 28 = u 28 → Q (.exit 4) a' w) :
    Code.wp Try.prog (bodyIn Try.f58 1 0) Q ⟨#[u 0, u 1, u 2, u 3, u 4, u 5, u 6, u 7, u 8, .int .i64 (-1), u 10, u 11, u 12, u 13, u 14, u 15, u 16, u 17, u 18, u 19, u 20, u 21, u 22, u 23, u 24, u 25, u 26, u 27, u 28, u 29, u 30, u 31, u 32, u 33, u 34, u 35, u 36, u 37, u 38, u 39, u 40, u 41, u 42, u 43, u 44, u 45], []⟩ w := by
  conv => arg 2; whnf
  go_wp2
  exact hQ _ ⟨rfl, rfl⟩ rfl rfl rfl
def JP (S27 S28 : Value) (x : Int) (xs : List Int) (base : Nat) (w0 : World) (t : Nat) (a : Act) (w : World) : Prop :=
  Fm 46 a ∧ sl a 8 = .int .u32 x ∧ sl a 9 = .int .i64 (3 - (t : Int)) ∧ sl a 27 = S27 ∧ sl a 28 = S28 ∧ OB w base (sl a 6) (xs ++ (bytes4 x).take t) ∧ Fr (fun _ => False) w0 w ∧ base ≤ w.heap.size
theorem loopP (S27 S28 : Value) (x : Int) (xs : List Int) (base : Nat) (w0 : World) (hb0 : w0.heap.size ≤ base) (hl : xs.length < 900)
    (Q : Exit → Act → World → Prop) (hQ : ∀ a' w', Fm 46 a' → sl a' 27 = S27 → sl a' 28 = S28 → OB w' base (sl a' 6) (xs ++ bytes4 x) → Fr (fun _ => False) w0 w' → base ≤ w'.heap.size → Q (.exit 4) a' w')
    (a : Act) (w : World) (h : JP S27 S28 x xs base w0 0 a w) : (Code.loop (bodyIn Try.f58 1 0)).wp Try.prog Q a w := by
  refine wp_loop_up 4 (JP S27 S28 x xs base w0) h ?_
  rintro t a w ht ⟨hF, h8, h9, h27, h28, hq, hf, hb⟩
  have ha := fm46 hF
  by_cases h64 : t = 4
  · subst h64
    rw [h9] at ha
    rw [ha]
    exact exitP (sl a) w _ fun a' b0 b1 b2 b3 => hQ _ _ b0 (b2.trans h27) (b3.trans h28) (by rw [b1]; exact hq) hf hb
  · have e1 : (3 - (t : Int)) = ((3 - t : Nat) : Int) := by omega
    rw [h8, h9, e1] at ha
    rw [ha]
    have hx : (xs ++ (bytes4 x).take t) ++ [byteAt x (3 - t)] = xs ++ (bytes4 x).take (t + 1) := by
      rw [bytes4_at, List.append_assoc]
      congr 1
      rcases (show t = 0 ∨ t = 1 ∨ t = 2 ∨ t = 3 by omega) with rfl|rfl|rfl|rfl <;> rfl
    have hlt : (xs ++ (bytes4 x).take t).length < 1000 := by rw [List.length_append, List.length_take, bytes4]; simp only [List.length_cons, List.length_nil]; omega
    refine roundP (sl a) (sl a 6) x (3 - t) (by omega) _ base w0 w hb0 hb hlt hq hf _ ?_
    intro a' w' v' b0 b1 b2 b3 b4 b5 b6 b7 b8
    refine ⟨by omega, b0, b2, by rw [b3]; congr 1; omega, b4.trans h27, b5.trans h28, ?_, b7, b8⟩
    rw [b1, ← hx]
    exact b6

set_option maxHeartbeats 8000000 in
set_option maxRecDepth 100000 in
theorem roundO (u : Nat → Value) (v : Value) (S : List Int) (hS : S.length = 8) (t : Nat) (ht : t < 8) (xs : List Int) (base : Nat) (w0 w : World) (hb0 : w0.heap.size ≤ base) (hb : base ≤ w.heap.size) (hl : xs.length < 900) (hq : OB w base v xs) (hf : Fr (fun _ => False) w0 w)
    (Q : Exit → Act → World → Prop) (hQ : ∀ a' w', Fm 46 a' → sl a' 27 = .agg (encs (Value.int .u32) S).toArray → sl a' 28 = .int .i64 ((t : Int) + 1) → OB w' base (sl a' 6) (xs ++ bytes4 (S.getD t 0)) → Fr (fun _ => False) w0 w' → base ≤ w'.heap.size → Q .normal a' w') :
    Code.wp Try.prog (bodyN Try.f58 1) Q ⟨#[u 0, u 1, u 2, u 3, u 4, u 5, v, u 7, u 8, u 9, u 10, u 11, u 12, u 13, u 14, u 15, u 16, u 17, u 18, u 19, u 20, u 21, u 22, u 23, u 24, u 25, u 26, .agg (encs (Value.int .u32) S).toArray, .int .i64 (t : Int), u 29, u 30, u 31, u 32, u 33, u 34, u 35, u 36, u 37, u 38, u 39, u 40, u 41, u 42, u 43, u 44, u 45], []⟩ w := by
  have hix := idx8 S hS t ht
  obtain ⟨c1, e1⟩ : ∃ cs, (encs (Value.int .u32) S).toArray = cs := ⟨_, rfl⟩
  rw [e1] at hix hQ
  rw [e1]
  obtain ⟨x, hx⟩ : ∃ x, S.getD t 0 = x := ⟨_, rfl⟩
  rw [hx] at hix hQ
  have HQ := Aside0.mk hq
  have HF := Aside0.mk hf
  clear hq hf e1 hx
  have c0 : decide ((t : Int) < 8) = true := decide_eq_true (by omega)
  conv => arg 2; whnf
  go_wp2
  refine loopP (.agg c1) (.int .i64 (t : Int)) x xs base w0 hb0 hl _ ?_ _ _ ⟨⟨rfl, rfl⟩, rfl, rfl, rfl, rfl, by rw [List.take_zero, List.append_nil]; exact HQ.out, HF.out, hb⟩
  intro a' w' hFm j27 j28 jq jf jb
  have hv : ∃ v', sl a' 6 = v' := ⟨_, rfl⟩
  obtain ⟨v', hv⟩ := hv
  rw [hv] at jq
  rw [fm46 hFm, j27, j28, hv]
  clear HQ HF hFm j27 j28 hv hix
  go_wp2
  exact hQ _ _ ⟨rfl, rfl⟩ rfl rfl jq jf jb
set_option maxHeartbeats 8000000 in
set_option maxRecDepth 100000 in
theorem exitO (u : Nat → Value) (w : World) (Q : Exit → Act → World → Prop) (hQ : ∀ a', Fm 46 a' → sl a' 6 = u 6 → Q (.exit 2) a' w) :
    Code.wp Try.prog (bodyN Try.f58 1) Q ⟨#[u 0, u 1, u 2, u 3, u 4, u 5, u 6, u 7, u 8, u 9, u 10, u 11, u 12, u 13, u 14, u 15, u 16, u 17, u 18, u 19, u 20, u 21, u 22, u 23, u 24, u 25, u 26, u 27, .int .i64 8, u 29, u 30, u 31, u 32, u 33, u 34, u 35, u 36, u 37, u 38, u 39, u 40, u 41, u 42, u 43, u 44, u 45], []⟩ w := by
  conv => arg 2; whnf
  go_wp2
  exact hQ _ ⟨rfl, rfl⟩ rfl
def JO (S : List Int) (base : Nat) (w0 : World) (t : Nat) (a : Act) (w : World) : Prop :=
  Fm 46 a ∧ sl a 27 = .agg (encs (Value.int .u32) S).toArray ∧ sl a 28 = .int .i64 (t : Int) ∧ OB w base (sl a 6) (outB (S.take t)) ∧ Fr (fun _ => False) w0 w ∧ base ≤ w.heap.size
theorem outB_len (S : List Int) : (outB S).length = 4 * S.length := by
  induction S with
  | nil => rfl
  | cons x S ih => rw [outB, List.flatMap_cons, List.length_append]; rw [outB] at ih; rw [ih, bytes4]; simp only [List.length_cons, List.length_nil]; omega
theorem outB_take (S : List Int) (t : Nat) (ht : t < S.length) : outB (S.take (t + 1)) = outB (S.take t) ++ bytes4 (S.getD t 0) := by
  rw [List.take_succ_eq_append_getElem ht, outB, List.flatMap_append, List.flatMap_cons, List.flatMap_nil, List.append_nil, List.getD_eq_getElem?_getD, List.getElem?_eq_getElem ht]
  rfl
theorem loopO (S : List Int) (hS : S.length = 8) (base : Nat) (w0 : World) (hb0 : w0.heap.size ≤ base)
    (Q : Exit → Act → World → Prop) (hQ : ∀ a' w', Fm 46 a' → OB w' base (sl a' 6) (outB S) → Fr (fun _ => False) w0 w' → Q (.exit 2) a' w')
    (a : Act) (w : World) (h : JO S base w0 0 a w) : (Code.loop (bodyN Try.f58 1)).wp Try.prog Q a w := by
  refine wp_loop_up 8 (JO S base w0) h ?_
  rintro t a w ht ⟨hF, h27, h28, hq, hf, hb⟩
  have ha := fm46 hF
  by_cases h64 : t = 8
  · subst h64
    rw [h28] at ha
    rw [List.take_of_length_le (by omega)] at hq
    rw [ha]
    exact exitO (sl a) w _ fun a' b0 b1 => hQ _ _ b0 (by rw [b1]; exact hq) hf
  · rw [h27, h28] at ha
    rw [ha]
    refine roundO (sl a) (sl a 6) S hS t (by omega) _ base w0 w hb0 hb (by rw [outB_len, List.length_take]; omega) hq hf _ ?_
    intro a' w' b0 b1 b2 b3 b4 b5
    refine ⟨by omega, b0, b1, by rw [b2]; congr 1, ?_, b4, b5⟩
    rw [outB_take S t (by omega)]
    exact b3

/-! ### the padding -/
theorem pad_zeros (x0 : List Int) : ∀ (z k : Nat) (x3 : List Int), (x3.length + z) % 64 = 56 → z < 64 → x3.length + z < 140737488355328 →
    catenaryref02_Pad.l0 (k + z + 1) x0 x3 = catenaryref02_Pad.l1 k (x3 ++ List.replicate z 0) (IntKind.u64.wrap (IntKind.u64.wrap (x0.length : Int) * 8)) 7
  | 0, k, x3, h, _, hl => by
    rw [Nat.add_zero, catenaryref02_Pad.l0, if_pos (by omega), List.replicate_zero, List.append_nil]
  | z + 1, k, x3, h, hz, hl => by
    rw [catenaryref02_Pad.l0, if_neg (by omega), if_pos (by omega), show k + (z + 1) = k + z + 1 by omega, pad_zeros x0 z k (x3 ++ [0]) (by rw [List.length_append, List.length_singleton]; omega) (by omega) (by rw [List.length_append, List.length_singleton]; omega), List.append_assoc]
    rfl
theorem pad_step (k : Nat) (x3 : List Int) (n i : Int) (hi : 0 ≤ i ∧ i ≤ 7) (hl : x3.length < 140737488355328) : catenaryref02_Pad.l1 (k + 1) x3 n i = catenaryref02_Pad.l1 k (x3 ++ [n / 2 ^ (8 * i).toNat % 256]) n (i - 1) := by
  have e : ∀ i : Int, i = 0 ∨ i = 1 ∨ i = 2 ∨ i = 3 ∨ i = 4 ∨ i = 5 ∨ i = 6 ∨ i = 7 → IntKind.u64.wrap (wrap64 (8 * i)) = 8 * i ∧ wrap64 (i - 1) = i - 1 := by
    rintro i (rfl|rfl|rfl|rfl|rfl|rfl|rfl|rfl) <;> exact ⟨by decide +kernel, by decide +kernel⟩
  obtain ⟨e1, e2⟩ := e i (by omega)
  rw [catenaryref02_Pad.l1, if_pos (by omega), e1, if_pos (by omega), if_pos hl, e2]
  unfold shr
  rw [show min (8 * i).toNat IntKind.u64.bits = (8 * i).toNat from Nat.min_eq_left (show (8 * i).toNat ≤ 64 by omega)]
theorem pad_bytes (x3 : List Int) (n : Int) (hl : x3.length < 140737488355300) : catenaryref02_Pad.l1 9 x3 n 7 = some (x3 ++ be8 n) := by
  have l : ∀ (ys : List Int), ys.length ≤ 10 → (x3 ++ ys).length < 140737488355328 := fun ys h => by rw [List.length_append]; omega
  rw [pad_step 8 _ n 7 (by decide) (by omega)]
  rw [pad_step 7 _ n _ (by decide) (l _ (by simp))]
  rw [List.append_assoc, pad_step 6 _ n _ (by decide) (l _ (by simp))]
  rw [List.append_assoc, pad_step 5 _ n _ (by decide) (l _ (by simp))]
  rw [List.append_assoc, pad_step 4 _ n _ (by decide) (l _ (by simp))]
  rw [List.append_assoc, pad_step 3 _ n _ (by decide) (l _ (by simp))]
  rw [List.append_assoc, pad_step 2 _ n _ (by decide) (l _ (by simp))]
  rw [List.append_assoc, pad_step 1 _ n _ (by decide) (l _ (by simp))]
  rw [catenaryref02_Pad.l1, if_neg (by decide), List.append_assoc]
  simp [be8]
theorem pad_f (l : List Int) (hl : l.length < 140737488355000) : ∃ k, catenaryref02_Pad.f k l = some (padded l) := by
  refine ⟨9 + zpad l.length + 1, ?_⟩
  have e : IntKind.u64.wrap (IntKind.u64.wrap (l.length : Int) * 8) = (l.length : Int) * 8 := by simp only [IntKind.wrap_u64]; omega
  unfold catenaryref02_Pad.f
  simp only [Option.bind_some, List.nil_append, List.length_nil]
  rw [if_pos (by omega), if_pos (by omega), pad_zeros l (zpad l.length) 9 (l ++ [128]) (by rw [List.length_append, List.length_singleton, zpad]; omega) (by rw [zpad]; omega) (by rw [List.length_append, List.length_singleton, zpad]; omega), e]
  rw [pad_bytes _ _ (by rw [List.length_append, List.length_append, List.length_replicate, List.length_singleton, zpad]; omega)]
  rw [padded, tailB, List.append_assoc, List.append_assoc]
  rfl
theorem padded_len (l : List Int) : (padded l).length = 64 * ((padded l).length / 64) ∧ (padded l).length ≤ l.length + 73 := by
  have := tail_len l.length
  have h2 : (padded l).length = l.length + (tailB l.length).length := by rw [padded, List.length_append]
  have h3 : (tailB l.length).length ≤ 73 := by simp only [tailB, List.length_cons, List.length_append, List.length_replicate, be8, List.length_nil, zpad]; omega
  omega

set_option maxHeartbeats 8000000 in
set_option maxRecDepth 100000 in
theorem rsum_calls (A : Option Addr) (c : Nat) (l : List Int) (w : World) (hr : Kd.C (Kd.int .u8) w A l.length l) (hc : l.length ≤ c) (hB : Bys l) (hl : l.length < 140737488355000) :
    Calls Try.prog 58 #[.slice A l.length c] w fun e w' => ∃ v : Value, e = .returned v ∧ OB w' w.heap.size v (sha l) ∧ Below w.heap.size w w' := by
  obtain ⟨k, hk⟩ := pad_f l hl
  have HR := Aside0.mk (And.intro hr (And.intro hc hk))
  clear hr hc hk
  have hi8 : (Try.prog.info? 116).map (·.size) = some 8 := by kernel_rfl
  go_enter Try.func58, Try.ntmps58
  go_wp2_with (first | ((with_reducible refine gate_dst (N := 10) rfl ?_); refine wpList_build_abs (by rfl) 116 _ (by rfl) (encs (Value.int .u32) S0).toArray (by kernel_rfl) ?_) | ((with_reducible refine gate_dst (N := 3) rfl ?_); refine wpList_alloc_abs (by rfl) 116 (by rfl) (.agg Z8) (by kernel_rfl) ?_; intro w1 hb1 hs1 hg1) | ((with_reducible refine gate_store (p := 3) rfl ?_); refine wpList_store_abs (by rfl) 116 _ _ (by rfl) w.heap.size (encs (Value.int .u32) S0).toArray (by rfl) (by rfl) 116 Z8 hg1 (by kernel_rfl) (by decide +kernel) (by decide +kernel) ?_; intro w2 hf2 hs2 hg2) | fail)
  have F2 : Fr (fun _ => False) w w2 := (Fr.of_below hb1 _).trans hf2 (fun i h => .inr (by omega))
  have HG := Aside0.mk hg2
  have HF := Aside0.mk F2
  clear hb1 hg1 hf2 hg2 F2
  refine (catenaryref02_Pad.calls k A c l _ w2 (HF.out.C HR.out.1 (fun i h => h.elim)) HR.out.2.1 HR.out.2.2).mono ?_
  rintro e w3 ⟨v, rfl, hR, hb3⟩
  have hq : QB w3 w2.heap.size v (padded l) := q_of_own (Kd.own_of_R hR)
  obtain ⟨Am, cm, rfl, hcm⟩ := hq.slice
  have hrm : Rd w3 Am (padded l) := hq.rd
  have ham : ∀ ad, Am = some ad → ad.block ≠ w.heap.size := fun ad h => by
    have := hq.base ad.block (by rw [h]; rfl)
    omega
  have lt3 := hb3.size
  have HG3 := Aside0.mk ((Fr.of_below hb3 (fun _ => False)).blk HG.out (fun h => h))
  have HF3 := Aside0.mk (HF.out.trans (Fr.of_below hb3 (fun _ => False)) (fun i h => h.elim))
  have HM := Aside0.mk (And.intro hrm (And.intro ham hcm))
  clear HG HF hR hq hb3 hrm ham hcm
  have hpl := padded_len l
  have HP := Aside0.mk hpl
  clear hpl
  go_wp2
  refine loopM w.heap.size Am cm (padded l) ((padded l).length / 64) HP.out.1 (by have := HP.out.2; omega) HM.out.2.2 (hB.append (Bys_tail _)) w3 (fun w' h => HM.out.1.fr h (fun ad e => HM.out.2.1 ad e)) (by omega) _ ?_ _ _ ⟨⟨rfl, rfl⟩, rfl, rfl, rfl, Fr.refl _ _, HG3.out⟩
  intro a' w4 hFm j3 jf js
  rw [fm46 hFm, j3]
  have HS := Aside0.mk js
  have HF4 := Aside0.mk (HF3.out.trans jf (S := fun _ => False) (fun i h => .inr (by omega)))
  have lt4 := jf.size
  clear js jf hFm j3 HG3 HF3 HM
  have hS : (run ((padded l).length / 64) S0 (padded l)).length = 8 := run_len _ _ _
  obtain ⟨S, eS⟩ : ∃ S, run ((padded l).length / 64) S0 (padded l) = S := ⟨_, rfl⟩
  rw [eS] at hS
  have e8 : (encs (Value.int .u32) S).toArray.size = 8 := by simp [encs, hS]
  have HE := Aside0.mk (And.intro eS (And.intro e8 hi8))
  clear eS e8 hi8
  go_wp2_with (first | ((with_reducible refine gate_dst (N := 26) rfl ?_); refine Kd.R_lit (Kd.int .u8) _ 5 (by rfl) (N := 26) (by rfl) (xs := ([] : List Int)) (inner := []) (ok := fun _ => True) (okp := fun _ => True) (by first | (go_simp; done) | (go_simp; rfl)) (Reps.none _ _) (fun _ hk => hk) trivial (Below.refl _ _) (Nat.le_refl _) (by simp) ?_; intro v5 w5 ho5 hb5 hg5 hn5) | ((with_reducible refine gate_dst (N := 27) rfl ?_); refine wpList_load_row (by rfl) 116 _ (by rfl) w.heap.size (by rfl) _ (encs (Value.int .u32) S).toArray _ _ ((Fr.of_below hb5 (fun _ => False)).blk (by rw [← HE.out.1]; exact HS.out) (fun h => h)) Try.underlying116 (by rfl) (by rw [HE.out.2.1]; exact HE.out.2.2) ?_) | fail)
  have hq5 : OB w5 w.heap.size v5 [] := OB.lower (Kd.own_of_R ho5) (by omega)
  have hf5 : Fr (fun _ => False) w w5 := HF4.out.trans (Fr.of_below hb5 (fun _ => False)) (fun i h => h.elim)
  have lt5 := hb5.size
  clear ho5 hb5 hg5 hn5 HF4 HS
  refine loopO S hS w.heap.size w (Nat.le_refl _) _ ?_ _ _ ⟨⟨rfl, rfl⟩, rfl, rfl, hq5, hf5, by omega⟩
  intro a'' w6 hFm jq jf
  have e9 : sha l = outB S := by rw [sha, HE.out.1]
  obtain ⟨v6, ev⟩ : ∃ v, sl a'' 6 = v := ⟨_, rfl⟩
  rw [ev] at jq
  rw [fm46 hFm, ev]
  have HJ := Aside0.mk (And.intro jq (And.intro jf e9))
  clear jq jf e9 ev hFm hq5 hf5
  go_wp2
  go_ret
  exact ⟨_, rfl, by rw [HJ.out.2.2]; exact HJ.out.1, HJ.out.2.1.below _ (Nat.le_refl _) (fun i h => h.elim)⟩
end Go.Proofs.Ytnabilhcmplhcaa.Sha
