/-
  The document's block, whole: the same as the program's.
-/
import Derived.Test.YtgnghgeljlaedaaShaI
import Derived.Great.Ranges
set_option linter.unusedVariables false
set_option linter.unusedSimpArgs false
namespace Go.Proofs.Ytgnghgeljlaedaa.Sha
open Go.RowKit Go.Proofs.YtgnghgeljlaedaaW.PrintWords Go.Proofs.YtgnghgeljlaedaaW.PrintLast Go.Proofs.YtgnghgeljlaedaaW.PrintMore Go.Proofs.Ytgnghgeljlaedaa.Q Go.Proofs.Ytgnghgeljlaedaa.Fr Go.Proofs.Ytgnghgeljlaedaa.Oct

set_option maxHeartbeats 8000000 in
set_option maxRecDepth 100000 in
theorem exitR (u : Nat → Value) (w : World) (Q : Exit → Act → World → Prop) (hQ : ∀ a', Fm 113 a' → sl a' 2 = u 2 → sl a' 4 = u 4 → sl a' 7 = u 7 → Q (.exit 0) a' w) :
    Code.wp Try.prog (bodyN Try.f35 0) Q ⟨#[u 0, u 1, u 2, u 3, u 4, u 5, u 6, u 7, .int .i64 64, u 9, u 10, u 11, u 12, u 13, u 14, u 15, u 16, u 17, u 18, u 19, u 20, u 21, u 22, u 23, u 24, u 25, u 26, u 27, u 28, u 29, u 30, u 31, u 32, u 33, u 34, u 35, u 36, u 37, u 38, u 39, u 40, u 41, u 42, u 43, u 44, u 45, u 46, u 47, u 48, u 49, u 50, u 51, u 52, u 53, u 54, u 55, u 56, u 57, u 58, u 59, u 60, u 61, u 62, u 63, u 64, u 65, u 66, u 67, u 68, u 69, u 70, u 71, u 72, u 73, u 74, u 75, u 76, u 77, u 78, u 79, u 80, u 81, u 82, u 83, u 84, u 85, u 86, u 87, u 88, u 89, u 90, u 91, u 92, u 93, u 94, u 95, u 96, u 97, u 98, u 99, u 100, u 101, u 102, u 103, u 104, u 105, u 106, u 107, u 108, u 109, u 110, u 111, u 112], []⟩ w := by
  conv => arg 2; whnf
  go_wp2
  exact hQ _ ⟨rfl, rfl⟩ rfl rfl rfl
def JR (gb gr gk gw gv : Nat) (K W V : List Int) (w0 : World) (t : Nat) (a : Act) (w : World) : Prop :=
  Fm 113 a ∧ sl a 2 = .pointer (some ⟨gb, 0, none⟩) ∧ sl a 4 = .pointer (some ⟨gr, 0, none⟩) ∧ sl a 5 = .pointer (some ⟨gw, 0, none⟩) ∧ sl a 6 = .pointer (some ⟨gk, 0, none⟩) ∧ sl a 7 = .pointer (some ⟨gv, 0, none⟩) ∧ sl a 8 = .int .i64 (t : Int) ∧
    Fr (fun k => k = gv) w0 w ∧ w.heap[gv]? = some (.cells (encs (Value.int .u32) (rnds K W V t)).toArray 50 (0, 0))
theorem loopR (gb gr gk gw gv : Nat) (K W V : List Int) (tk tw : TypeId) (w0 : World) (hV : V.length = 8) (hK : K.length = 64) (hW : W.length = 64) (hk : w0.heap[gk]? = some (.cells (encs (Value.int .u32) K).toArray tk (0, 0)))
    (hw : w0.heap[gw]? = some (.cells (encs (Value.int .u32) W).toArray tw (0, 0))) (hnk : gk ≠ gv) (hnw : gw ≠ gv)
    (Q : Exit → Act → World → Prop) (hQ : ∀ a' w', Fm 113 a' → sl a' 2 = .pointer (some ⟨gb, 0, none⟩) → sl a' 4 = .pointer (some ⟨gr, 0, none⟩) → sl a' 7 = .pointer (some ⟨gv, 0, none⟩) → Fr (fun k => k = gv) w0 w' → w'.heap[gv]? = some (.cells (encs (Value.int .u32) (rnds K W V 64)).toArray 50 (0, 0)) → Q (.exit 0) a' w')
    (a : Act) (w : World) (h : JR gb gr gk gw gv K W V w0 0 a w) : (Code.loop (bodyN Try.f35 0)).wp Try.prog Q a w := by
  refine wp_loop_up 64 (JR gb gr gk gw gv K W V w0) h ?_
  rintro t a w ht ⟨hF, h2, h4, h5, h6, h7, h8, hf, hv⟩
  have ha := fm113 hF
  by_cases h64 : t = 64
  · subst h64
    rw [h8] at ha
    rw [ha]
    exact exitR (sl a) w _ fun a' b0 b1 b2 b3 => hQ _ _ b0 (b1.trans h2) (b2.trans h4) (b3.trans h7) hf hv
  · have e1 : ((t + 1 : Nat) : Int) = (t : Int) + 1 := by omega
    obtain ⟨va, vb, vc, vd, ve, vf, vg, vh, hx⟩ := eight ((rnds_len K W V t).trans hV)
    rw [hx] at hv
    have ck := cellV (hf.blk hk hnk) (t : Int) (by omega) (by omega)
    have cw := cellV (hf.blk hw hnw) (t : Int) (by omega) (by omega)
    rw [h2, h4, h5, h6, h7, h8] at ha
    rw [ha]
    refine roundR (sl a) gb gr gk gw gv t (by omega) (by omega) w0 w va vb vc vd ve vf vg vh (K.getD t 0) (W.getD t 0) hv ck cw hf _ ?_
    intro a' w' b0 b2 b4 b5 b6 b7 b8 b9 b10
    refine ⟨by omega, b0, b2, b4, b5, b6, b7, by rw [b8, e1], b9, ?_⟩
    rw [b10, rnds, hx]

set_option maxHeartbeats 8000000 in
set_option maxRecDepth 100000 in
theorem roundT (u : Nat → Value) (gs gr gv : Nat) (t : Int) (ht0 : 0 ≤ t) (ht : t < 8) (w0 w : World) (S : List Int) (hS : S.length = 8) (st vt : Int)
   (hs : w.heap[gs]? = some (.cells (encs (Value.int .u32) S).toArray 50 (0, 0))) (hst : S.getD t.toNat 0 = st)
   (hv : w.cell? ⟨gv, t.toNat, none⟩ = some (.int .u32 vt)) (hf : Fr (fun k => k = gs) w0 w)
   (Q : Exit → Act → World → Prop) (hQ : ∀ a' w', Fm 113 a' → sl a' 2 = .pointer (some ⟨gs, 0, none⟩) → sl a' 4 = .pointer (some ⟨gr, 0, none⟩) → sl a' 7 = .pointer (some ⟨gv, 0, none⟩) → sl a' 17 = .int .i64 (t + 1) →
      Fr (fun k => k = gs) w0 w' → w'.heap[gs]? = some (.cells (encs (Value.int .u32) (S.set t.toNat ((st + vt) % 4294967296))).toArray 50 (0, 0)) → Q .normal a' w') :
    Code.wp Try.prog (bodyN Try.f35 1) Q ⟨#[u 0, u 1, .pointer (some ⟨gs, 0, none⟩), u 3, .pointer (some ⟨gr, 0, none⟩), u 5, u 6, .pointer (some ⟨gv, 0, none⟩), u 8, u 9, u 10, u 11, u 12, u 13, u 14, u 15, u 16, .int .i64 t, u 18, u 19, u 20, u 21, u 22, u 23, u 24, u 25, u 26, u 27, u 28, u 29, u 30, u 31, u 32, u 33, u 34, u 35, u 36, u 37, u 38, u 39, u 40, u 41, u 42, u 43, u 44, u 45, u 46, u 47, u 48, u 49, u 50, u 51, u 52, u 53, u 54, u 55, u 56, u 57, u 58, u 59, u 60, u 61, u 62, u 63, u 64, u 65, u 66, u 67, u 68, u 69, u 70, u 71, u 72, u 73, u 74, u 75, u 76, u 77, u 78, u 79, u 80, u 81, u 82, u 83, u 84, u 85, u 86, u 87, u 88, u 89, u 90, u 91, u 92, u 93, u 94, u 95, u 96, u 97, u 98, u 99, u 100, u 101, u 102, u 103, u 104, u 105, u 106, u 107, u 108, u 109, u 110, u 111, u 112], []⟩ w := by
  conv => arg 2; whnf
  have c0 := decide_eq_true ht
  have hc := cellV hs t (by omega) (by omega)
  rw [hst] at hc
  go_wp2
  refine region_tail 7 (by kernel_rfl) (by kernel_rfl) ?_
  intro w3 e3
  have e4 : ∀ p, w3.cell? p = w.cell? p := fun p => by rw [e3]; simp
  rw [← e4] at hc hv
  have hs3 : w3.heap[gs]? = some (.cells (encs (Value.int .u32) S).toArray 50 (0, 0)) := by rw [e3]; exact hs
  have hf3 : Fr (fun k => k = gs) w0 w3 := by rw [e3]; exact hf.of_drew
  clear hs hf e3 e4
  have HS := Aside0.mk hs3
  have HF := Aside0.mk hf3
  clear hs3 hf3
  simp only [List.take_succ_cons, List.take_zero, List.drop_succ_cons, List.drop_zero]
  repeat still_step
  refine wpStill_nil ?_
  have fz := frozenV HS.out t.toNat
  go_wp2
  refine hQ _ _ ⟨rfl, rfl⟩ rfl rfl rfl rfl ?_ ?_
  · exact HF.out.setCell (.inl rfl) _
  · exact heap_putV HS.out _ (by omega) _
set_option maxHeartbeats 8000000 in
set_option maxRecDepth 100000 in
theorem exitT (u : Nat → Value) (w : World) (Q : Exit → Act → World → Prop) (hQ : ∀ a', Fm 113 a' → sl a' 2 = u 2 → sl a' 4 = u 4 → Q (.exit 2) a' w) :
    Code.wp Try.prog (bodyN Try.f35 1) Q ⟨#[u 0, u 1, u 2, u 3, u 4, u 5, u 6, u 7, u 8, u 9, u 10, u 11, u 12, u 13, u 14, u 15, u 16, .int .i64 8, u 18, u 19, u 20, u 21, u 22, u 23, u 24, u 25, u 26, u 27, u 28, u 29, u 30, u 31, u 32, u 33, u 34, u 35, u 36, u 37, u 38, u 39, u 40, u 41, u 42, u 43, u 44, u 45, u 46, u 47, u 48, u 49, u 50, u 51, u 52, u 53, u 54, u 55, u 56, u 57, u 58, u 59, u 60, u 61, u 62, u 63, u 64, u 65, u 66, u 67, u 68, u 69, u 70, u 71, u 72, u 73, u 74, u 75, u 76, u 77, u 78, u 79, u 80, u 81, u 82, u 83, u 84, u 85, u 86, u 87, u 88, u 89, u 90, u 91, u 92, u 93, u 94, u 95, u 96, u 97, u 98, u 99, u 100, u 101, u 102, u 103, u 104, u 105, u 106, u 107, u 108, u 109, u 110, u 111, u 112], []⟩ w := by
  conv => arg 2; whnf
  go_wp2
  exact hQ _ ⟨rfl, rfl⟩ rfl rfl
def JT (gs gr gv : Nat) (S V : List Int) (w0 : World) (t : Nat) (a : Act) (w : World) : Prop :=
  Fm 113 a ∧ sl a 2 = .pointer (some ⟨gs, 0, none⟩) ∧ sl a 4 = .pointer (some ⟨gr, 0, none⟩) ∧ sl a 7 = .pointer (some ⟨gv, 0, none⟩) ∧ sl a 17 = .int .i64 (t : Int) ∧
    Fr (fun k => k = gs) w0 w ∧ w.heap[gs]? = some (.cells (encs (Value.int .u32) (adds S V t)).toArray 50 (0, 0))
theorem loopT (gs gr gv : Nat) (S V : List Int) (tv : TypeId) (w0 : World) (hS : S.length = 8) (hV : V.length = 8) (hv : w0.heap[gv]? = some (.cells (encs (Value.int .u32) V).toArray tv (0, 0))) (hn : gv ≠ gs)
    (Q : Exit → Act → World → Prop) (hQ : ∀ a' w', Fm 113 a' → sl a' 2 = .pointer (some ⟨gs, 0, none⟩) → sl a' 4 = .pointer (some ⟨gr, 0, none⟩) → Fr (fun k => k = gs) w0 w' → w'.heap[gs]? = some (.cells (encs (Value.int .u32) (adds S V 8)).toArray 50 (0, 0)) → Q (.exit 2) a' w')
    (a : Act) (w : World) (h : JT gs gr gv S V w0 0 a w) : (Code.loop (bodyN Try.f35 1)).wp Try.prog Q a w := by
  refine wp_loop_up 8 (JT gs gr gv S V w0) h ?_
  rintro t a w ht ⟨hF, h2, h4, h7, h17, hf, hs⟩
  have ha := fm113 hF
  by_cases h64 : t = 8
  · subst h64
    rw [h17] at ha
    rw [ha]
    exact exitT (sl a) w _ fun a' b0 b1 b2 => hQ _ _ b0 (b1.trans h2) (b2.trans h4) hf hs
  · have e1 : ((t + 1 : Nat) : Int) = (t : Int) + 1 := by omega
    rw [h2, h4, h7, h17] at ha
    have cv := cellV (hf.blk hv hn) (t : Int) (by omega) (by omega)
    rw [ha]
    refine roundT (sl a) gs gr gv t (by omega) (by omega) w0 w _ ((adds_len S V t).trans hS) _ (V.getD t 0) hs rfl cv hf _ ?_
    intro a' w' b0 b1 b2 b3 b4 b5 b6
    refine ⟨by omega, b0, b1, b2, b3, by rw [b4, e1], b5, ?_⟩
    rw [b6, adds, Int.toNat_natCast]

section
variable {P : Program} {ops : Array Oper} {rest : List Oper} {o : Oper} {a : Act} {Q : Exit → Act → World → Prop} {w : World}
theorem wpList_box_abs (hg : o.guard = none) (t : TypeId) (x : Operand) (ho : o.op = .box t x) (cells : Array Value) (hx : a.eval x = .agg cells)
    (hK : ∀ w1, Below w.heap.size w w1 → w1.heap.size = w.heap.size + 1 → w1.heap[w.heap.size]? = some (.cells cells t (0, 0)) → wpList P ops Q rest (a.put o.dst (.pointer (some ⟨w.heap.size, 0, none⟩))) w1) : wpList P ops Q (o :: rest) a w :=
  Great.wpList_boxTo hg t x ho _ rfl _ rfl cells (by rw [hx]; rfl) (hK _ (below_alloc (Below.refl _ _) _) (by simp) (heap_alloc_new w _))
end

set_option maxHeartbeats 8000000 in
set_option maxRecDepth 100000 in
theorem Block_calls (S : List Int) (hS : S.length = 8) (A : Option Addr) (c : Nat) (P : List Int) (hP : P.length = 64) (hB : Bys P) (hc : 64 ≤ c) (w : World) (hr : Kd.C (Kd.int .u8) w A P.length P) :
    Calls Try.prog 35 #[.agg (encs (Value.int .u32) S).toArray, .slice A 64 c] w fun e w' => e = .returned (.agg (encs (Value.int .u32) (compress S P)).toArray) ∧ Below w.heap.size w w' := by
  have HR := Aside0.mk hr
  clear hr
  have hi8 : (Try.prog.info? 50).map (·.size) = some 8 := by kernel_rfl
  have hl1 : (encs (Value.int .u32) S).toArray.size = 8 := by simp [encs, hS]
  have ho1 : (encs (Value.int .u32) S).toArray.all (·.oneCell') = true := by simp [encs, Value.oneCell']
  have hl2 : (encs (Value.int .u32) (compress S P)).toArray.size = 8 := by simp [encs, compress_len, hS]
  have ho2 : (encs (Value.int .u32) (compress S P)).toArray.all (·.oneCell') = true := by simp [encs, Value.oneCell']
  have hl3 : (encs (Value.int .u32) (sched P 64)).toArray.size = 64 := by simp [encs, sched_len]
  have ho3 : (encs (Value.int .u32) (sched P 64)).toArray.all (·.oneCell') = true := by simp [encs, Value.oneCell']
  have hi64 : (Try.prog.info? 67).map (·.size) = some 64 := by kernel_rfl
  obtain ⟨c1, e1⟩ : ∃ cs, (encs (Value.int .u32) S).toArray = cs := ⟨_, rfl⟩
  obtain ⟨c2, e2⟩ : ∃ cs, (encs (Value.int .u32) (compress S P)).toArray = cs := ⟨_, rfl⟩
  obtain ⟨c3, e3⟩ : ∃ cs, (encs (Value.int .u32) (sched P 64)).toArray = cs := ⟨_, rfl⟩
  rw [e1, e2]
  rw [e1] at hl1 ho1
  rw [e2] at hl2 ho2
  rw [e3] at hl3 ho3
  have H1 := Aside0.mk (And.intro hl1 (And.intro ho1 e1))
  have H2 := Aside0.mk (And.intro hl2 (And.intro ho2 e2))
  have H3 := Aside0.mk (And.intro hl3 (And.intro ho3 e3))
  have H8 := Aside0.mk (And.intro hi8 hi64)
  clear hl1 ho1 e1 hl2 ho2 e2 hl3 ho3 e3 hi8 hi64
  go_enter Try.func35, Try.ntmps35
  go_wp2_with (first | ((with_reducible refine gate_dst (N := 2) rfl ?_); refine wpList_box_abs (by rfl) 50 _ (by rfl) c1 (by rfl) ?_; intro w1 hb1 hs1 hg1) | ((with_reducible refine gate_dst (N := 4) rfl ?_); refine wpList_alloc_abs (by rfl) 50 (by rfl) (.agg Z8) (by kernel_rfl) ?_; intro w2 hb2 hs2 hg2) | fail)
  have hl1 := H1.out.1
  have FA : Fr (fun _ => False) w w2 := (Fr.of_below hb1 _).trans (Fr.of_below hb2 (fun _ => False)) (fun i h => h.elim)
  have HB := Aside0.mk ((Fr.of_below hb2 (fun _ => False)).blk hg1 (fun h => h))
  have HG := Aside0.mk hg2
  have HF := Aside0.mk FA
  clear hb1 hg1 hb2 hg2 FA hl1
  refine (schedule_calls A c P hP hB hc w2 (HF.out.C HR.out (fun i h => h.elim))).mono ?_
  rintro e w3 ⟨rfl, hb3⟩
  rw [H3.out.2.2]
  have lt3 := hb3.size
  have hB3 := (Fr.of_below hb3 (fun _ => False)).blk HB.out (fun h => h)
  have hG3 := (Fr.of_below hb3 (fun _ => False)).blk HG.out (fun h => h)
  have F3 := HF.out.trans (Fr.of_below hb3 (fun _ => False)) (fun i h => h.elim)
  clear HF HB HG hb3
  have HB := Aside0.mk hB3
  have HG := Aside0.mk hG3
  have HF := Aside0.mk F3
  clear hB3 hG3 F3
  go_wp2_with (first | ((with_reducible refine gate_dst (N := 5) rfl ?_); refine wpList_alloc_abs (by rfl) 67 (by rfl) (.agg ZT) (by kernel_rfl) ?_; intro w4 hb4 hs4 hg4) | ((with_reducible refine gate_store (p := 5) rfl ?_); refine wpList_store_abs (by rfl) 67 _ _ (by rfl) w3.heap.size c3 (by rfl) (by rfl) 67 ZT hg4 (by rw [H3.out.1]; exact H8.out.2) (by rw [H3.out.1]; exact ZT_size) H3.out.2.1 ?_; intro w5 hf5 hs5 hg5) | fail)
  have F5 := (HF.out.trans (Fr.of_below hb4 (fun _ => False)) (fun i h => h.elim)).trans hf5 (S := fun _ => False) (fun i h => .inr (by omega))
  have hB5 := hf5.blk ((Fr.of_below hb4 (fun _ => False)).blk HB.out (fun h => h)) (fun h => by omega)
  have hG5 := hf5.blk ((Fr.of_below hb4 (fun _ => False)).blk HG.out (fun h => h)) (fun h => by omega)
  clear HF HB HG hb4 hg4 hf5
  refine (K_calls w5).mono ?_
  rintro e w6 ⟨rfl, hb6⟩
  have lt6 := hb6.size
  have HB := Aside0.mk ((Fr.of_below hb6 (fun _ => False)).blk hB5 (fun h => h))
  have HG := Aside0.mk ((Fr.of_below hb6 (fun _ => False)).blk hG5 (fun h => h))
  have HW := Aside0.mk ((Fr.of_below hb6 (fun _ => False)).blk hg5 (fun h => h))
  have HF := Aside0.mk (F5.trans (Fr.of_below hb6 (fun _ => False)) (fun i h => h.elim))
  clear hB5 hG5 hg5 F5 hb6
  go_wp2_with (first | ((with_reducible refine gate_dst (N := 6) rfl ?_); refine wpList_alloc_abs (by rfl) 67 (by rfl) (.agg ZT) (by kernel_rfl) ?_; intro w7 hb7 hs7 hg7) | ((with_reducible refine gate_store (p := 6) rfl ?_); refine wpList_store_abs (by rfl) 67 _ _ (by rfl) w6.heap.size KT (by rfl) (by rfl) 67 ZT hg7 (by rw [KT_size]; exact H8.out.2) (by rw [ZT_size, KT_size]) KT_one ?_; intro w8 hf8 hs8 hg8; have HB8 := Aside0.mk (hf8.blk ((Fr.of_below hb7 (fun _ => False)).blk HB.out (fun h => h)) (fun h => by omega))) | ((with_reducible refine gate_dst (N := 21) rfl ?_); refine wpList_load_row (by rfl) 50 _ (by rfl) w.heap.size (by rfl) _ c1 _ _ HB8.out Try.underlying50 (by rfl) (by rw [H1.out.1]; exact H8.out.1) ?_) | ((with_reducible refine gate_dst (N := 7) rfl ?_); refine wpList_alloc_abs (by rfl) 50 (by rfl) (.agg Z8) (by kernel_rfl) ?_; intro w9 hb9 hs9 hg9) | ((with_reducible refine gate_store (p := 7) rfl ?_); refine wpList_store_abs (by rfl) 50 _ _ (by rfl) w8.heap.size c1 (by rfl) (by rfl) 50 Z8 hg9 (by rw [H1.out.1]; exact H8.out.1) (by rw [H1.out.1]; exact Z8_size) H1.out.2.1 ?_; intro w10 hf10 hs10 hg10) | fail)
  have F8 := (HF.out.trans (Fr.of_below hb7 (fun _ => False)) (fun i h => h.elim)).trans hf8 (S := fun _ => False) (fun i h => .inr (by omega))
  have F10 := (F8.trans (Fr.of_below hb9 (fun _ => False)) (fun i h => h.elim)).trans hf10 (S := fun _ => False) (fun i h => .inr (by omega))
  have hG8 := hf8.blk ((Fr.of_below hb7 (fun _ => False)).blk HG.out (fun h => h)) (fun h => by omega)
  have hW8 := hf8.blk ((Fr.of_below hb7 (fun _ => False)).blk HW.out (fun h => h)) (fun h => by omega)
  have hB10 := hf10.blk ((Fr.of_below hb9 (fun _ => False)).blk HB8.out (fun h => h)) (fun h => by omega)
  have hG10 := hf10.blk ((Fr.of_below hb9 (fun _ => False)).blk hG8 (fun h => h)) (fun h => by omega)
  have hW10 := hf10.blk ((Fr.of_below hb9 (fun _ => False)).blk hW8 (fun h => h)) (fun h => by omega)
  have hK10 := hf10.blk ((Fr.of_below hb9 (fun _ => False)).blk hg8 (fun h => h)) (fun h => by omega)
  rw [← H3.out.2.2] at hW10
  rw [← H1.out.2.2] at hg10 hB10
  clear HF F8 hG8 hW8 HB HG HW HB8 hb7 hg7 hf8 hg8 hb9 hg9 hf10
  have e8 : w8.heap.size = w6.heap.size + 1 := by omega
  rw [hs1] at hG10
  rw [e8] at hg10
  refine loopR w.heap.size (w.heap.size + 1) w6.heap.size w3.heap.size (w6.heap.size + 1) Ktab (sched P 64) S 67 67 w10 hS (by decide +kernel) (sched_len _ _) hK10 hW10 (by omega) (by omega) _ ?_ _ _ ⟨⟨rfl, rfl⟩, rfl, rfl, rfl, rfl, rfl, rfl, Fr.refl _ _, hg10⟩
  intro a' w11 hF j2 j4 j7 jf jv
  rw [fm113 hF, j2, j4, j7]
  have HB := Aside0.mk (jf.blk hB10 (fun h => by omega))
  have HG := Aside0.mk (jf.blk hG10 (fun h => by omega))
  have HV := Aside0.mk jv
  have HF := Aside0.mk (F10.trans jf (S := fun _ => False) (fun i h => .inr (by omega)))
  clear hB10 hG10 jv F10 jf hF j2 j4 j7 hg10 hK10 hW10
  go_wp2
  refine loopT w.heap.size (w.heap.size + 1) (w6.heap.size + 1) S (rnds Ktab (sched P 64) S 64) 50 w11 hS ((rnds_len _ _ _ _).trans hS) HV.out (by omega) _ ?_ _ _ ⟨⟨rfl, rfl⟩, rfl, rfl, rfl, rfl, Fr.refl _ _, HB.out⟩
  intro a' w12 hF j2 j4 jf js
  rw [fm113 hF, j2, j4]
  have js2 : w12.heap[w.heap.size]? = some (.cells c2 50 (0, 0)) := by rw [← H2.out.2.2]; exact js
  have HR2 := Aside0.mk js2
  have HG2 := Aside0.mk (jf.blk HG.out (fun h => by omega))
  have HF2 := Aside0.mk (HF.out.trans jf (S := fun _ => False) (fun i h => .inr (by omega)))
  clear js js2 HB HG HV HF jf hF j2 j4
  go_wp2_with (first | ((with_reducible refine gate_dst (N := 112) rfl ?_); refine wpList_load_row (by rfl) 50 _ (by rfl) w.heap.size (by rfl) _ c2 _ _ HR2.out Try.underlying50 (by rfl) (by rw [H2.out.1]; exact H8.out.1) ?_) | ((with_reducible refine gate_store (p := 4) rfl ?_); refine wpList_store_abs (by rfl) 50 _ _ (by rfl) (w.heap.size + 1) c2 (by rfl) (by rfl) 50 Z8 HG2.out (by rw [H2.out.1]; exact H8.out.1) (by rw [H2.out.1]; exact Z8_size) H2.out.2.1 ?_; intro w13 hf13 hs13 hg13) | fail)
  refine bodyPost_ret (results_cell_row (by rfl) _ _ (w.heap.size + 1) 50 c2 (0, 0) _ (by rfl) hg13 Try.underlying50 (by rfl) (by rw [H2.out.1]; exact H8.out.1)) rfl ?_
  exact ⟨rfl, (HF2.out.trans hf13 (S := fun _ => False) (fun i h => .inr (by omega))).below _ (Nat.le_refl _) (fun i h => h.elim)⟩
end Go.Proofs.Ytgnghgeljlaedaa.Sha
