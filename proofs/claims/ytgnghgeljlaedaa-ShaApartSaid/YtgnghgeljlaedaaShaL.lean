/-
  The document's hash: the blocks.
-/
import Derived.Test.YtgnghgeljlaedaaShaK
import Derived.Test.YtgnghgeljlaedaaQx2
set_option linter.unusedVariables false
set_option linter.unusedSimpArgs false
namespace Go.Proofs.Ytgnghgeljlaedaa.Sha
open Go.RowKit Go.Proofs.YtgnghgeljlaedaaW.PrintWords Go.Proofs.YtgnghgeljlaedaaW.PrintLast Go.Proofs.YtgnghgeljlaedaaW.PrintMore Go.Proofs.Ytgnghgeljlaedaa.Q Go.Proofs.Ytgnghgeljlaedaa.Fr Go.Proofs.Ytgnghgeljlaedaa.Oct

theorem Rd.mid {w : World} {A : Option Addr} {ys : List Int} (h : Rd w A ys) (lo k : Nat) : Rd w (A.map (·.add lo)) ((ys.drop lo).take k) := fun j u hu => by
  have hu' : (encs (Value.int .u8) ys)[lo + j]? = some u := by
    simp only [encs, List.getElem?_map, List.getElem?_take, List.getElem?_drop] at hu ⊢
    split at hu
    · exact hu
    · simp at hu
  obtain ⟨ad, e, hc⟩ := h (lo + j) u hu'
  refine ⟨ad.add lo, by rw [e]; rfl, ?_⟩
  rw [show (ad.add lo).add j = ad.add (lo + j) from by simp only [Addr.add]; split <;> split <;> (try split) <;> simp_all <;> omega]
  exact hc

section
variable {P : Program} {ops : Array Oper} {rest : List Oper} {o : Oper} {a : Act} {Q : Act → Prop} {w : World}
/-- A whole array is read, in a region that draws. -/
theorem wpStill_load_mid (hg : o.guard = none) (ty : TypeId) (x : Operand) (ho : o.op = .load ty x) (b off : Nat) (hx : a.eval x = .pointer (some ⟨b, off, none⟩)) (cs : List Value) (d : TypeDesc) (hc : w.rangeAt b off cs)
    (hu : P.underlying ty = some d) (hd : d.isRow = true) (hi : (P.info? ty).map (·.size) = some cs.length) (h : wpStill P ops w Q rest (a.put o.dst (.agg cs.toArray))) : wpStill P ops w Q (o :: rest) a := by
  refine wpStill_step (fun K hK => ?_)
  have hw : Region.wanted o (yielded ops a.tmps) = true := by simp [Region.wanted, hg]
  rw [if_pos hw]
  unfold Oper.still execOp
  simp only [ho, hx, Instr.loadAt, Instr.sureAddr, Sem.run_bind, Sem.run_pure, Result.andThen_ok, run_loadVar_mid w b off ty cs d hc hu hd hi, Oper.stillUpon]
  exact ⟨trivial, hK _ h⟩
end
set_option maxHeartbeats 8000000 in
set_option maxRecDepth 100000 in
theorem roundM (u : Nat → Value) (gs : Nat) (A : Option Addr) (c : Nat) (m : List Int) (t n : Nat) (hn : m.length = 64 * n) (ht : t < n) (hl : m.length ≤ 140737488355328) (hc : m.length ≤ c) (hB : Bys m) (S : List Int) (hS : S.length = 8) (w0 w : World)
    (hs : w.heap[gs]? = some (.cells (encs (Value.int .u32) S).toArray 50 (0, 0))) (hr : Rd w A m) (hf : Fr (fun k => k = gs) w0 w) (hg0 : gs < w0.heap.size)
    (Q : Exit → Act → World → Prop) (hQ : ∀ a' w', Fm 46 a' → sl a' 3 = .pointer (some ⟨gs, 0, none⟩) → sl a' 4 = .slice A m.length c → sl a' 5 = .int .i64 (64 * (t : Int) + 64) → Fr (fun k => k = gs) w0 w' → w'.heap[gs]? = some (.cells (encs (Value.int .u32) (compress S ((m.drop (64 * t)).take 64))).toArray 50 (0, 0)) → Q .normal a' w') :
    Code.wp Try.prog (bodyN Try.f15 0) Q ⟨#[u 0, u 1, u 2, .pointer (some ⟨gs, 0, none⟩), .slice A m.length c, .int .i64 (64 * (t : Int)), u 6, u 7, u 8, u 9, u 10, u 11, u 12, u 13, u 14, u 15, u 16, u 17, u 18, u 19, u 20, u 21, u 22, u 23, u 24, u 25, u 26, u 27, u 28, u 29, u 30, u 31, u 32, u 33, u 34, u 35, u 36, u 37, u 38, u 39, u 40, u 41, u 42, u 43, u 44, u 45], []⟩ w := by
  have hi8 : (Try.prog.info? 50).map (·.size) = some 8 := by kernel_rfl
  have hlP : ((m.drop (64 * t)).take 64).length = 64 := by rw [List.length_take, List.length_drop]; omega
  have hl2 : (encs (Value.int .u32) (compress S ((m.drop (64 * t)).take 64))).toArray.size = 8 := by simp [encs, compress_len, hS]
  have ho2 : (encs (Value.int .u32) (compress S ((m.drop (64 * t)).take 64))).toArray.all (·.oneCell') = true := by simp [encs, Value.oneCell']
  have hl1 : (encs (Value.int .u32) S).toArray.size = 8 := by simp [encs, hS]
  have hbl := fun (w3 : World) (h3 : Rd w3 A m) => Block_calls S hS (A.map (·.add (64 * t))) (c - 64 * t) ((m.drop (64 * t)).take 64) hlP ((hB.drop _).take _) (by omega) w3 ((h3.mid (64 * t) 64).C (by omega))
  obtain ⟨i0, hi0, _, hsz, _⟩ := info_parts info5
  have hcut := cut_mid (P := Try.prog) 23 5 .i64 .i64 Try.underlying23 hi0 1 hsz A m.length c (64 * (t : Int)) (64 * (t : Int) + 64) (by omega) (by omega) (by omega) hc
  rw [show (64 * (t : Int)).toNat = 64 * t by omega, if_neg (by omega), Nat.mul_one, show (64 * (t : Int) + 64).toNat - 64 * t = 64 by omega] at hcut
  obtain ⟨c1, e1⟩ : ∃ cs, (encs (Value.int .u32) S).toArray = cs := ⟨_, rfl⟩
  obtain ⟨c2, e2⟩ : ∃ cs, (encs (Value.int .u32) (compress S ((m.drop (64 * t)).take 64))).toArray = cs := ⟨_, rfl⟩
  have hrg : ∀ w3 : World, w3.heap[gs]? = some (.cells c1 50 (0, 0)) → w3.rangeAt gs 0 (encs (Value.int .u32) S) := fun w3 h3 => rangeS (tl := []) (by rw [List.append_nil, e1]; exact h3)
  have hlS : (encs (Value.int .u32) S).length = 8 := by rw [encs_len, hS]
  rw [e1] at hs hbl hl1
  rw [e2] at hQ hl2 ho2 hbl
  have HX := Aside0.mk (And.intro hl2 (And.intro ho2 (And.intro hi8 (And.intro hbl (And.intro hl1 (And.intro e1 (And.intro hrg (And.intro hlS hn))))))))
  clear hl2 ho2 hi8 hbl hl1 hrg hlS e1 e2
  have c0 : decide (64 * (t : Int) < (m.length : Int)) = true := decide_eq_true (by omega)
  have e5 : IntKind.i64.wrap (64 * (t : Int) + 64) = 64 * (t : Int) + 64 := IntWalk.i64_in _ (by omega)
  clear hn
  conv => arg 2; whnf
  go_wp2
  refine region_tail 6 (by kernel_rfl) (by kernel_rfl) ?_
  intro w3 e3
  have hs3 : w3.heap[gs]? = some (.cells c1 50 (0, 0)) := by rw [e3]; exact hs
  have hf3 : Fr (fun k => k = gs) w0 w3 := by rw [e3]; exact hf.of_drew
  have hr3 : Rd w3 A m := by rw [e3]; exact hr
  clear hs hf hr e3
  have HS := Aside0.mk (And.intro hs3 (And.intro hf3 hr3))
  clear hs3 hf3 hr3
  simp only [List.take_succ_cons, List.take_zero, List.drop_succ_cons, List.drop_zero]
  refine wpStill_load_mid (by rfl) 50 _ (by rfl) gs 0 (by rfl) (encs (Value.int .u32) S) _ (HX.out.2.2.2.2.2.2.1 w3 HS.out.1) Try.underlying50 (by rfl) (by rw [HX.out.2.2.2.2.2.2.2.1]; exact HX.out.2.2.1) ?_
  rw [HX.out.2.2.2.2.2.1]
  repeat still_step
  refine wpStill_nil ?_
  clear hcut
  go_wp2_with (fail)
  refine (HX.out.2.2.2.1 w3 HS.out.2.2).mono ?_
  rintro e w4 ⟨rfl, hb4⟩
  have hs4 := (Fr.of_below hb4 (fun _ => False)).blk HS.out.1 (fun h => h)
  have hf4 := HS.out.2.1.trans (Fr.of_below hb4 (fun _ => False)) (fun i h => h.elim)
  clear HS hb4
  have HF := Aside0.mk hf4
  clear hf4
  go_wp2_with (first | ((with_reducible refine gate_store (p := 3) rfl ?_); refine wpList_store_abs (by rfl) 50 _ _ (by rfl) gs c2 (by rfl) (by rfl) 50 c1 hs4 (by rw [HX.out.1]; exact HX.out.2.2.1) (by rw [HX.out.1]; exact HX.out.2.2.2.2.1) HX.out.2.1 ?_; intro w5 hf5 hs5 hg5) | fail)
  refine hQ _ _ ⟨rfl, rfl⟩ rfl rfl rfl ?_ hg5
  exact HF.out.trans hf5 (fun i h => .inl h)
set_option maxHeartbeats 8000000 in
set_option maxRecDepth 100000 in
theorem exitM (u : Nat → Value) (A : Option Addr) (c k : Nat) (w : World) (Q : Exit → Act → World → Prop) (hQ : ∀ a', Fm 46 a' → sl a' 3 = u 3 → Q (.exit 0) a' w) :
    Code.wp Try.prog (bodyN Try.f15 0) Q ⟨#[u 0, u 1, u 2, u 3, .slice A k c, .int .i64 (k : Int), u 6, u 7, u 8, u 9, u 10, u 11, u 12, u 13, u 14, u 15, u 16, u 17, u 18, u 19, u 20, u 21, u 22, u 23, u 24, u 25, u 26, u 27, u 28, u 29, u 30, u 31, u 32, u 33, u 34, u 35, u 36, u 37, u 38, u 39, u 40, u 41, u 42, u 43, u 44, u 45], []⟩ w := by
  conv => arg 2; whnf
  have c0 : decide ((k : Int) < (k : Int)) = false := by simp
  go_wp2
  exact hQ _ ⟨rfl, rfl⟩ rfl
def JM (gs : Nat) (A : Option Addr) (c : Nat) (m : List Int) (w0 : World) (t : Nat) (a : Act) (w : World) : Prop :=
  Fm 46 a ∧ sl a 3 = .pointer (some ⟨gs, 0, none⟩) ∧ sl a 4 = .slice A m.length c ∧ sl a 5 = .int .i64 ((64 * t : Nat) : Int) ∧
    Fr (fun k => k = gs) w0 w ∧ w.heap[gs]? = some (.cells (encs (Value.int .u32) (run t S0 m)).toArray 50 (0, 0))
theorem loopM (gs : Nat) (A : Option Addr) (c : Nat) (m : List Int) (n : Nat) (hn : m.length = 64 * n) (hl : m.length ≤ 140737488355328) (hc : m.length ≤ c) (hB : Bys m) (w0 : World) (hr : ∀ w, Fr (fun k => k = gs) w0 w → Rd w A m) (hg0 : gs < w0.heap.size)
    (Q : Exit → Act → World → Prop) (hQ : ∀ a' w', Fm 46 a' → sl a' 3 = .pointer (some ⟨gs, 0, none⟩) → Fr (fun k => k = gs) w0 w' → w'.heap[gs]? = some (.cells (encs (Value.int .u32) (run n S0 m)).toArray 50 (0, 0)) → Q (.exit 0) a' w')
    (a : Act) (w : World) (h : JM gs A c m w0 0 a w) : (Code.loop (bodyN Try.f15 0)).wp Try.prog Q a w := by
  refine wp_loop_up n (JM gs A c m w0) h ?_
  rintro t a w ht ⟨hF, h3, h4, h5, hf, hs⟩
  have ha := fm46 hF
  by_cases h64 : t = n
  · subst h64
    rw [h4, h5, ← hn] at ha
    rw [ha]
    exact exitM (sl a) A c m.length w _ fun a' b0 b1 => hQ _ _ b0 (b1.trans h3) hf hs
  · have e1 : ((64 * t : Nat) : Int) = 64 * (t : Int) := by omega
    have e2 : ((64 * (t + 1) : Nat) : Int) = 64 * (t : Int) + 64 := by omega
    rw [h3, h4, h5, e1] at ha
    rw [ha]
    refine roundM (sl a) gs A c m t n hn (by omega) hl hc hB _ ((run_len t S0 m).trans rfl) w0 w hs (hr w hf) hf hg0 _ ?_
    intro a' w' b0 b1 b2 b3 b4 b5
    refine ⟨by omega, b0, b1, b2, by rw [b3, e2], b4, ?_⟩
    rw [b5, run_succ]

/-! ### the words written out -/
theorem idx8 (S : List Int) (hS : S.length = 8) (t : Nat) (ht : t < 8) (w : World) : (Instr.index 50 (.agg (encs (Value.int .u32) S).toArray) (.int .i64 (t : Int))).run Try.prog w = .ok (.int .u32 (S.getD t 0)) w := by
  obtain ⟨va, vb, vc, vd, ve, vf, vg, vh, rfl⟩ := eight hS
  rcases (show t = 0 ∨ t = 1 ∨ t = 2 ∨ t = 3 ∨ t = 4 ∨ t = 5 ∨ t = 6 ∨ t = 7 by omega) with rfl|rfl|rfl|rfl|rfl|rfl|rfl|rfl <;> kernel_rfl
end Go.Proofs.Ytgnghgeljlaedaa.Sha
