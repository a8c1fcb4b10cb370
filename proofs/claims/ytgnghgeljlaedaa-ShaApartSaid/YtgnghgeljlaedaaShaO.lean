/-
  The document's hash, whole.
-/
import Derived.Test.YtgnghgeljlaedaaShaN
set_option linter.unusedVariables false
set_option linter.unusedSimpArgs false
namespace Go.Proofs.Ytgnghgeljlaedaa.Sha
open Go.RowKit Go.Proofs.YtgnghgeljlaedaaW.PrintWords Go.Proofs.YtgnghgeljlaedaaW.PrintLast Go.Proofs.YtgnghgeljlaedaaW.PrintMore Go.Proofs.Ytgnghgeljlaedaa.Q Go.Proofs.Ytgnghgeljlaedaa.Fr Go.Proofs.Ytgnghgeljlaedaa.Oct

set_option maxHeartbeats 8000000 in
set_option maxRecDepth 100000 in
theorem exitP (u : Nat → Value) (w : World) (Q : Exit → Act → World → Prop) (hQ : ∀ a', Fm 46 a' → sl a' 6 = u 6 → sl a' 27 = u 27 → sl a' 28 = u 28 → Q (.exit 4) a' w) :
    Code.wp Try.prog (bodyIn Try.f15 1 0) Q ⟨#[u 0, u 1, u 2, u 3, u 4, u 5, u 6, u 7, u 8, .int .i64 (-1), u 10, u 11, u 12, u 13, u 14, u 15, u 16, u 17, u 18, u 19, u 20, u 21, u 22, u 23, u 24, u 25, u 26, u 27, u 28, u 29, u 30, u 31, u 32, u 33, u 34, u 35, u 36, u 37, u 38, u 39, u 40, u 41, u 42, u 43, u 44, u 45], []⟩ w := by
  conv => arg 2; whnf
  go_wp2
  exact hQ _ ⟨rfl, rfl⟩ rfl rfl rfl
def JP (S27 S28 : Value) (x : Int) (xs : List Int) (base : Nat) (w0 : World) (t : Nat) (a : Act) (w : World) : Prop :=
  Fm 46 a ∧ sl a 8 = .int .u32 x ∧ sl a 9 = .int .i64 (3 - (t : Int)) ∧ sl a 27 = S27 ∧ sl a 28 = S28 ∧ OB w base (sl a 6) (xs ++ (bytes4 x).take t) ∧ Fr (fun _ => False) w0 w ∧ base ≤ w.heap.size
theorem loopP (S27 S28 : Value) (x : Int) (xs : List Int) (base : Nat) (w0 : World) (hb0 : w0.heap.size ≤ base) (hl : xs.length < 900)
    (Q : Exit → Act → World → Prop) (hQ : ∀ a' w', Fm 46 a' → sl a' 27 = S27 → sl a' 28 = S28 → OB w' base (sl a' 6) (xs ++ bytes4 x) → Fr (fun _ => False) w0 w' → base ≤ w'.heap.size → Q (.exit 4) a' w')
    (a : Act) (w : World) (h : JP S27 S28 x xs base w0 0 a w) : (Code.loop (bodyIn Try.f15 1 0)).wp Try.prog Q a w := by
  refine wp_loop_up 4 (JP S27 S28 x xs base w0) h ?_
  rintro t a w ht ⟨hF, h8, h9, h27, h28, hq, hf, hb⟩
  have ha := fm46 hF
  by_cases h64 : t = 4
  · subst h64
    rw [h9] at ha
    rw [ha]
    exact exitP (sl a) w _ fun a' b0 b1 b2 b3 => hQ _ _ b0 (b2.trans h27) (b3.trans h28) (by rw [b1]; exact hq) hf hb
  · have e1 : (3 - (t : Int)) = ((3 - t : Nat) : Int) := by omega
    rw [h8, h9, e1] at ha
    rw [ha]
    have hx : (xs ++ (bytes4 x).take t) ++ [byteAt x (3 - t)] = xs ++ (bytes4 x).take (t + 1) := by
      rw [bytes4_at, List.append_assoc]
      congr 1
      rcases (show t = 0 ∨ t = 1 ∨ t = 2 ∨ t = 3 by omega) with rfl|rfl|rfl|rfl <;> rfl
    have hlt : (xs ++ (bytes4 x).take t).length < 1000 := by rw [List.length_append, List.length_take, bytes4]; simp only [List.length_cons, List.length_nil]; omega
    refine roundP (sl a) (sl a 6) x (3 - t) (by omega) _ base w0 w hb0 hb hlt hq hf _ ?_
    intro a' w' v' b0 b1 b2 b3 b4 b5 b6 b7 b8
    refine ⟨by omega, b0, b2, by rw [b3]; congr 1; omega, b4.trans h27, b5.trans h28, ?_, b7, b8⟩
    rw [b1, ← hx]
    exact b6

set_option maxHeartbeats 8000000 in
set_option maxRecDepth 100000 in
theorem roundO (u : Nat → Value) (v : Value) (S : List Int) (hS : S.length = 8) (t : Nat) (ht : t < 8) (xs : List Int) (base : Nat) (w0 w : World) (hb0 : w0.heap.size ≤ base) (hb : base ≤ w.heap.size) (hl : xs.length < 900) (hq : OB w base v xs) (hf : Fr (fun _ => False) w0 w)
    (Q : Exit → Act → World → Prop) (hQ : ∀ a' w', Fm 46 a' → sl a' 27 = .agg (encs (Value.int .u32) S).toArray → sl a' 28 = .int .i64 ((t : Int) + 1) → OB w' base (sl a' 6) (xs ++ bytes4 (S.getD t 0)) → Fr (fun _ => False) w0 w' → base ≤ w'.heap.size → Q .normal a' w') :
    Code.wp Try.prog (bodyN Try.f15 1) Q ⟨#[u 0, u 1, u 2, u 3, u 4, u 5, v, u 7, u 8, u 9, u 10, u 11, u 12, u 13, u 14, u 15, u 16, u 17, u 18, u 19, u 20, u 21, u 22, u 23, u 24, u 25, u 26, .agg (encs (Value.int .u32) S).toArray, .int .i64 (t : Int), u 29, u 30, u 31, u 32, u 33, u 34, u 35, u 36, u 37, u 38, u 39, u 40, u 41, u 42, u 43, u 44, u 45], []⟩ w := by
  have hix := idx8 S hS t ht
  obtain ⟨c1, e1⟩ : ∃ cs, (encs (Value.int .u32) S).toArray = cs := ⟨_, rfl⟩
  rw [e1] at hix hQ
  rw [e1]
  obtain ⟨x, hx⟩ : ∃ x, S.getD t 0 = x := ⟨_, rfl⟩
  rw [hx] at hix hQ
  have HQ := Aside0.mk hq
  have HF := Aside0.mk hf
  clear hq hf e1 hx
  have c0 : decide ((t : Int) < 8) = true := decide_eq_true (by omega)
  conv => arg 2; whnf
  go_wp2
  refine loopP (.agg c1) (.int .i64 (t : Int)) x xs base w0 hb0 hl _ ?_ _ _ ⟨⟨rfl, rfl⟩, rfl, rfl, rfl, rfl, by rw [List.take_zero, List.append_nil]; exact HQ.out, HF.out, hb⟩
  intro a' w' hFm j27 j28 jq jf jb
  have hv : ∃ v', sl a' 6 = v' := ⟨_, rfl⟩
  obtain ⟨v', hv⟩ := hv
  rw [hv] at jq
  rw [fm46 hFm, j27, j28, hv]
  clear HQ HF hFm j27 j28 hv hix
  go_wp2
  exact hQ _ _ ⟨rfl, rfl⟩ rfl rfl jq jf jb
set_option maxHeartbeats 8000000 in
set_option maxRecDepth 100000 in
theorem exitO (u : Nat → Value) (w : World) (Q : Exit → Act → World → Prop) (hQ : ∀ a', Fm 46 a' → sl a' 6 = u 6 → Q (.exit 2) a' w) :
    Code.wp Try.prog (bodyN Try.f15 1) Q ⟨#[u 0, u 1, u 2, u 3, u 4, u 5, u 6, u 7, u 8, u 9, u 10, u 11, u 12, u 13, u 14, u 15, u 16, u 17, u 18, u 19, u 20, u 21, u 22, u 23, u 24, u 25, u 26, u 27, .int .i64 8, u 29, u 30, u 31, u 32, u 33, u 34, u 35, u 36, u 37, u 38, u 39, u 40, u 41, u 42, u 43, u 44, u 45], []⟩ w := by
  conv => arg 2; whnf
  go_wp2
  exact hQ _ ⟨rfl, rfl⟩ rfl
def JO (S : List Int) (base : Nat) (w0 : World) (t : Nat) (a : Act) (w : World) : Prop :=
  Fm 46 a ∧ sl a 27 = .agg (encs (Value.int .u32) S).toArray ∧ sl a 28 = .int .i64 (t : Int) ∧ OB w base (sl a 6) (outB (S.take t)) ∧ Fr (fun _ => False) w0 w ∧ base ≤ w.heap.size
theorem outB_len (S : List Int) : (outB S).length = 4 * S.length := by
  induction S with
  | nil => rfl
  | cons x S ih => rw [outB, List.flatMap_cons, List.length_append]; rw [outB] at ih; rw [ih, bytes4]; simp only [List.length_cons, List.length_nil]; omega
theorem outB_take (S : List Int) (t : Nat) (ht : t < S.length) : outB (S.take (t + 1)) = outB (S.take t) ++ bytes4 (S.getD t 0) := by
  rw [List.take_succ_eq_append_getElem ht, outB, List.flatMap_append, List.flatMap_cons, List.flatMap_nil, List.append_nil, List.getD_eq_getElem?_getD, List.getElem?_eq_getElem ht]
  rfl
theorem loopO (S : List Int) (hS : S.length = 8) (base : Nat) (w0 : World) (hb0 : w0.heap.size ≤ base)
    (Q : Exit → Act → World → Prop) (hQ : ∀ a' w', Fm 46 a' → OB w' base (sl a' 6) (outB S) → Fr (fun _ => False) w0 w' → Q (.exit 2) a' w')
    (a : Act) (w : World) (h : JO S base w0 0 a w) : (Code.loop (bodyN Try.f15 1)).wp Try.prog Q a w := by
  refine wp_loop_up 8 (JO S base w0) h ?_
  rintro t a w ht ⟨hF, h27, h28, hq, hf, hb⟩
  have ha := fm46 hF
  by_cases h64 : t = 8
  · subst h64
    rw [h28] at ha
    rw [List.take_of_length_le (by omega)] at hq
    rw [ha]
    exact exitO (sl a) w _ fun a' b0 b1 => hQ _ _ b0 (by rw [b1]; exact hq) hf
  · rw [h27, h28] at ha
    rw [ha]
    refine roundO (sl a) (sl a 6) S hS t (by omega) _ base w0 w hb0 hb (by rw [outB_len, List.length_take]; omega) hq hf _ ?_
    intro a' w' b0 b1 b2 b3 b4 b5
    refine ⟨by omega, b0, b1, by rw [b2]; congr 1, ?_, b4, b5⟩
    rw [outB_take S t (by omega)]
    exact b3

/-! ### the padding -/
theorem pad_zeros (x0 : List Int) : ∀ (z k : Nat) (x3 : List Int), (x3.length + z) % 64 = 56 → z < 64 → x3.length + z < 140737488355328 →
    catenaryref02_Pad.l0 (k + z + 1) x0 x3 = catenaryref02_Pad.l1 k (x3 ++ List.replicate z 0) (IntKind.u64.wrap (IntKind.u64.wrap (x0.length : Int) * 8)) 7
  | 0, k, x3, h, _, hl => by
    rw [Nat.add_zero, catenaryref02_Pad.l0, if_pos (by omega), List.replicate_zero, List.append_nil]
  | z + 1, k, x3, h, hz, hl => by
    rw [catenaryref02_Pad.l0, if_neg (by omega), if_pos (by omega), show k + (z + 1) = k + z + 1 by omega, pad_zeros x0 z k (x3 ++ [0]) (by rw [List.length_append, List.length_singleton]; omega) (by omega) (by rw [List.length_append, List.length_singleton]; omega), List.append_assoc]
    rfl
theorem pad_step (k : Nat) (x3 : List Int) (n i : Int) (hi : 0 ≤ i ∧ i ≤ 7) (hl : x3.length < 140737488355328) : catenaryref02_Pad.l1 (k + 1) x3 n i = catenaryref02_Pad.l1 k (x3 ++ [n / 2 ^ (8 * i).toNat % 256]) n (i - 1) := by
  have e : ∀ i : Int, i = 0 ∨ i = 1 ∨ i = 2 ∨ i = 3 ∨ i = 4 ∨ i = 5 ∨ i = 6 ∨ i = 7 → IntKind.u64.wrap (wrap64 (8 * i)) = 8 * i ∧ wrap64 (i - 1) = i - 1 := by
    rintro i (rfl|rfl|rfl|rfl|rfl|rfl|rfl|rfl) <;> exact ⟨by decide +kernel, by decide +kernel⟩
  obtain ⟨e1, e2⟩ := e i (by omega)
  rw [catenaryref02_Pad.l1, if_pos (by omega), e1, if_pos (by omega), if_pos hl, e2]
  unfold shr
  rw [show min (8 * i).toNat IntKind.u64.bits = (8 * i).toNat from Nat.min_eq_left (show (8 * i).toNat ≤ 64 by omega)]
theorem pad_bytes (x3 : List Int) (n : Int) (hl : x3.length < 140737488355300) : catenaryref02_Pad.l1 9 x3 n 7 = some (x3 ++ be8 n) := by
  have l : ∀ (ys : List Int), ys.length ≤ 10 → (x3 ++ ys).length < 140737488355328 := fun ys h => by rw [List.length_append]; omega
  rw [pad_step 8 _ n 7 (by decide) (by omega)]
  rw [pad_step 7 _ n _ (by decide) (l _ (by simp))]
  rw [List.append_assoc, pad_step 6 _ n _ (by decide) (l _ (by simp))]
  rw [List.append_assoc, pad_step 5 _ n _ (by decide) (l _ (by simp))]
  rw [List.append_assoc, pad_step 4 _ n _ (by decide) (l _ (by simp))]
  rw [List.append_assoc, pad_step 3 _ n _ (by decide) (l _ (by simp))]
  rw [List.append_assoc, pad_step 2 _ n _ (by decide) (l _ (by simp))]
  rw [List.append_assoc, pad_step 1 _ n _ (by decide) (l _ (by simp))]
  rw [catenaryref02_Pad.l1, if_neg (by decide), List.append_assoc]
  simp [be8]
theorem pad_f (l : List Int) (hl : l.length < 140737488355000) : ∃ k, catenaryref02_Pad.f k l = some (padded l) := by
  refine ⟨9 + zpad l.length + 1, ?_⟩
  have e : IntKind.u64.wrap (IntKind.u64.wrap (l.length : Int) * 8) = (l.length : Int) * 8 := by simp only [IntKind.wrap_u64]; omega
  unfold catenaryref02_Pad.f
  simp only [Option.bind_some, List.nil_append, List.length_nil]
  rw [if_pos (by omega), if_pos (by omega), pad_zeros l (zpad l.length) 9 (l ++ [128]) (by rw [List.length_append, List.length_singleton, zpad]; omega) (by rw [zpad]; omega) (by rw [List.length_append, List.length_singleton, zpad]; omega), e]
  rw [pad_bytes _ _ (by rw [List.length_append, List.length_append, List.length_replicate, List.length_singleton, zpad]; omega)]
  rw [padded, tailB, List.append_assoc, List.append_assoc]
  rfl
theorem padded_len (l : List Int) : (padded l).length = 64 * ((padded l).length / 64) ∧ (padded l).length ≤ l.length + 73 := by
  have := tail_len l.length
  have h2 : (padded l).length = l.length + (tailB l.length).length := by rw [padded, List.length_append]
  have h3 : (tailB l.length).length ≤ 73 := by simp only [tailB, List.length_cons, List.length_append, List.length_replicate, be8, List.length_nil, zpad]; omega
  omega

set_option maxHeartbeats 8000000 in
set_option maxRecDepth 100000 in
theorem rsum_calls (A : Option Addr) (c : Nat) (l : List Int) (w : World) (hr : Kd.C (Kd.int .u8) w A l.length l) (hc : l.length ≤ c) (hB : Bys l) (hl : l.length < 140737488355000) :
    Calls Try.prog 15 #[.slice A l.length c] w fun e w' => ∃ v : Value, e = .returned v ∧ OB w' w.heap.size v (sha l) ∧ Below w.heap.size w w' := by
  obtain ⟨k, hk⟩ := pad_f l hl
  have HR := Aside0.mk (And.intro hr (And.intro hc hk))
  clear hr hc hk
  have hi8 : (Try.prog.info? 50).map (·.size) = some 8 := by kernel_rfl
  go_enter Try.func15, Try.ntmps15
  go_wp2_with (first | ((with_reducible refine gate_dst (N := 10) rfl ?_); refine wpList_build_abs (by rfl) 50 _ (by rfl) (encs (Value.int .u32) S0).toArray (by kernel_rfl) ?_) | ((with_reducible refine gate_dst (N := 3) rfl ?_); refine wpList_alloc_abs (by rfl) 50 (by rfl) (.agg Z8) (by kernel_rfl) ?_; intro w1 hb1 hs1 hg1) | ((with_reducible refine gate_store (p := 3) rfl ?_); refine wpList_store_abs (by rfl) 50 _ _ (by rfl) w.heap.size (encs (Value.int .u32) S0).toArray (by rfl) (by rfl) 50 Z8 hg1 (by kernel_rfl) (by decide +kernel) (by decide +kernel) ?_; intro w2 hf2 hs2 hg2) | fail)
  have F2 : Fr (fun _ => False) w w2 := (Fr.of_below hb1 _).trans hf2 (fun i h => .inr (by omega))
  have HG := Aside0.mk hg2
  have HF := Aside0.mk F2
  clear hb1 hg1 hf2 hg2 F2
  refine (catenaryref02_Pad.calls k A c l _ w2 (HF.out.C HR.out.1 (fun i h => h.elim)) HR.out.2.1 HR.out.2.2).mono ?_
  rintro e w3 ⟨v, rfl, hR, hb3⟩
  have hq : QB w3 w2.heap.size v (padded l) := q_of_own (Kd.own_of_R hR)
  obtain ⟨Am, cm, rfl, hcm⟩ := hq.slice
  have hrm : Rd w3 Am (padded l) := hq.rd
  have ham : ∀ ad, Am = some ad → ad.block ≠ w.heap.size := fun ad h => by
    have := hq.base ad.block (by rw [h]; rfl)
    omega
  have lt3 := hb3.size
  have HG3 := Aside0.mk ((Fr.of_below hb3 (fun _ => False)).blk HG.out (fun h => h))
  have HF3 := Aside0.mk (HF.out.trans (Fr.of_below hb3 (fun _ => False)) (fun i h => h.elim))
  have HM := Aside0.mk (And.intro hrm (And.intro ham hcm))
  clear HG HF hR hq hb3 hrm ham hcm
  have hpl := padded_len l
  have HP := Aside0.mk hpl
  clear hpl
  go_wp2
  refine loopM w.heap.size Am cm (padded l) ((padded l).length / 64) HP.out.1 (by have := HP.out.2; omega) HM.out.2.2 (hB.append (Bys_tail _)) w3 (fun w' h => HM.out.1.fr h (fun ad e => HM.out.2.1 ad e)) (by omega) _ ?_ _ _ ⟨⟨rfl, rfl⟩, rfl, rfl, rfl, Fr.refl _ _, HG3.out⟩
  intro a' w4 hFm j3 jf js
  rw [fm46 hFm, j3]
  have HS := Aside0.mk js
  have HF4 := Aside0.mk (HF3.out.trans jf (S := fun _ => False) (fun i h => .inr (by omega)))
  have lt4 := jf.size
  clear js jf hFm j3 HG3 HF3 HM
  have hS : (run ((padded l).length / 64) S0 (padded l)).length = 8 := run_len _ _ _
  obtain ⟨S, eS⟩ : ∃ S, run ((padded l).length / 64) S0 (padded l) = S := ⟨_, rfl⟩
  rw [eS] at hS
  have e8 : (encs (Value.int .u32) S).toArray.size = 8 := by simp [encs, hS]
  have HE := Aside0.mk (And.intro eS (And.intro e8 hi8))
  clear eS e8 hi8
  go_wp2_with (first | ((with_reducible refine gate_dst (N := 26) rfl ?_); refine Kd.R_lit (Kd.int .u8) _ 5 (by rfl) (N := 26) (by rfl) (xs := ([] : List Int)) (inner := []) (ok := fun _ => True) (okp := fun _ => True) (by first | (go_simp; done) | (go_simp; rfl)) (Reps.none _ _) (fun _ hk => hk) trivial (Below.refl _ _) (Nat.le_refl _) (by simp) ?_; intro v5 w5 ho5 hb5 hg5 hn5) | ((with_reducible refine gate_dst (N := 27) rfl ?_); refine wpList_load_row (by rfl) 50 _ (by rfl) w.heap.size (by rfl) _ (encs (Value.int .u32) S).toArray _ _ ((Fr.of_below hb5 (fun _ => False)).blk (by rw [← HE.out.1]; exact HS.out) (fun h => h)) Try.underlying50 (by rfl) (by rw [HE.out.2.1]; exact HE.out.2.2) ?_) | fail)
  have hq5 : OB w5 w.heap.size v5 [] := OB.lower (Kd.own_of_R ho5) (by omega)
  have hf5 : Fr (fun _ => False) w w5 := HF4.out.trans (Fr.of_below hb5 (fun _ => False)) (fun i h => h.elim)
  have lt5 := hb5.size
  clear ho5 hb5 hg5 hn5 HF4 HS
  refine loopO S hS w.heap.size w (Nat.le_refl _) _ ?_ _ _ ⟨⟨rfl, rfl⟩, rfl, rfl, hq5, hf5, by omega⟩
  intro a'' w6 hFm jq jf
  have e9 : sha l = outB S := by rw [sha, HE.out.1]
  obtain ⟨v6, ev⟩ : ∃ v, sl a'' 6 = v := ⟨_, rfl⟩
  rw [ev] at jq
  rw [fm46 hFm, ev]
  have HJ := Aside0.mk (And.intro jq (And.intro jf e9))
  clear jq jf e9 ev hFm hq5 hf5
  go_wp2
  go_ret
  exact ⟨_, rfl, by rw [HJ.out.2.2]; exact HJ.out.1, HJ.out.2.1.below _ (Nat.le_refl _) (fun i h => h.elim)⟩
end Go.Proofs.Ytgnghgeljlaedaa.Sha
