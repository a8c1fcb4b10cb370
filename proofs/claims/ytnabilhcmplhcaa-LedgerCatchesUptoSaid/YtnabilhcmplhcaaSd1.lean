/-
  Hashes, whole; rows of bytes of one's own.
-/
import Derived.Test.YtnabilhcmplhcaaShaM4
set_option linter.unusedVariables false
set_option linter.unusedSimpArgs false
namespace Go.Proofs.Ytnabilhcmplhcaa.Sha
open Go.RowKit Go.Proofs.YtnabilhcmplhcaaW.PrintWords Go.Proofs.YtnabilhcmplhcaaW.PrintLast Go.Proofs.YtnabilhcmplhcaaW.PrintMore Go.Proofs.Ytnabilhcmplhcaa.Q Go.Proofs.Ytnabilhcmplhcaa.Fr Go.Proofs.Ytnabilhcmplhcaa.Oct

set_option maxHeartbeats 8000000 in
set_option maxRecDepth 100000 in
theorem roundB3 (u : Nat → Value) (gs base : Nat) (v : Value) (S rest : List Int) (hS : S.length = 8) (w0 w : World) (hs : w.heap[gs]? = some (.cells (encs (Value.int .u32) S).toArray 125 (0, 0))) (hq : QB w base v rest) (hne : v.ownBlock ≠ some gs) (h64 : 64 ≤ rest.length) (hm : rest.length ≤ 140737488355328) (hf : Fr (fun k => k = gs) w0 w)
    (Q : Exit → Act → World → Prop) (hQ : ∀ a' w' v', Fm 72 a' → sl a' 3 = .pointer (some ⟨gs, 0, none⟩) → sl a' 4 = v' → Fr (fun k => k = gs) w0 w' → v'.ownBlock = v.ownBlock → QB w' base v' (rest.drop 64) → w'.heap[gs]? = some (.cells (encs (Value.int .u32) (compress S (rest.take 64))).toArray 125 (0, 0)) → Q .normal a' w') :
    Code.wp Try.prog (bodyN Try.f66 2) Q ⟨#[u 0, u 1, u 2, .pointer (some ⟨gs, 0, none⟩), v, u 5, u 6, u 7, u 8, u 9, u 10, u 11, u 12, u 13, u 14, u 15, u 16, u 17, u 18, u 19, u 20, u 21, u 22, u 23, u 24, u 25, u 26, u 27, u 28, u 29, u 30, u 31, u 32, u 33, u 34, u 35, u 36, u 37, u 38, u 39, u 40, u 41, u 42, u 43, u 44, u 45, u 46, u 47, u 48, u 49, u 50, u 51, u 52, u 53, u 54, u 55, u 56, u 57, u 58, u 59, u 60, u 61, u 62, u 63, u 64, u 65, u 66, u 67, u 68, u 69, u 70, u 71], []⟩ w := by
  obtain ⟨A, c, rfl, hc⟩ := hq.slice
  obtain ⟨x, r', hr'⟩ := List.exists_cons_of_ne_nil (show rest ≠ [] by intro e; rw [e] at h64; simp at h64)
  obtain ⟨ad, rfl, _⟩ := hq.rd 0 (.int .u8 x) (by rw [hr']; rfl)
  clear hr'
  obtain ⟨i0, hi0, _, hsz, _⟩ := info_parts info5
  have hcut := cut_to (P := Try.prog) 29 5 .i64 Try.underlying29 hi0 (some ad) rest.length c 64 (by decide) (by omega) hc
  rw [show (64 : Int).toNat = 64 from rfl] at hcut
  have hcut2 := cut_from (P := Try.prog) 29 5 .i64 Try.underlying29 hi0 1 hsz (some ad) rest.length c 64 (by decide) (by omega)
  rw [show (64 : Int).toNat = 64 from rfl, Nat.mul_one] at hcut2
  have hown : (Value.slice (if c = 64 then some ad else (some ad).map (·.add 64)) (rest.length - 64) (c - 64)).ownBlock = (Value.slice (some ad) rest.length c).ownBlock := own_cut _ _ _ _ _ _
  have hdrop : ∀ w', QB w' base (.slice (some ad) rest.length c) rest → QB w' base (Value.slice (if c = 64 then some ad else (some ad).map (·.add 64)) (rest.length - 64) (c - 64)) (rest.drop 64) := fun w' hq => hq.drop 64 h64
  obtain ⟨A2, hv2⟩ : ∃ v, (if c = 64 then some ad else (some ad).map (·.add 64)) = v := ⟨_, rfl⟩
  rw [hv2] at hcut2 hown hdrop
  clear hv2
  have HH := Aside0.mk (And.intro hs (And.intro hq (And.intro hf (And.intro hown (And.intro hdrop hne)))))
  clear hs hq hf hown hdrop hne
  have c0 : decide (0 < (rest.length : Int)) = true := decide_eq_true (by omega)
  conv => arg 2; whnf
  go_wp2_with (fail)
  refine (block_calls gs S hS [] 125 ad c (rest.take 64) w (by rw [List.append_nil]; exact HH.out.1) (fun i i0 i1 => ?_)).mono ?_
  · have := (HH.out.2.1.rd.mid 0 64).cells i i0 (by rw [List.length_take, List.drop_zero]; omega)
    rw [List.drop_zero] at this
    exact this
  rintro e w4 ⟨rfl, hf4, hg4⟩
  rw [List.append_nil] at hg4
  have hq4 : QB w4 base (.slice (some ad) rest.length c) rest := HH.out.2.1.fr hf4 (fun k hk e => HH.out.2.2.2.2.2 (by rw [hk, e]))
  have HN := Aside0.mk (And.intro hg4 (And.intro (HH.out.2.2.2.2.1 w4 hq4) (And.intro (HH.out.2.2.1.trans hf4 (fun i h => .inl h)) HH.out.2.2.2.1)))
  clear HH hf4 hg4 hq4 hcut
  go_wp2
  exact hQ _ _ (.slice A2 (rest.length - 64) (c - 64)) ⟨rfl, rfl⟩ rfl rfl HN.out.2.2.1 HN.out.2.2.2 HN.out.2.1 HN.out.1
set_option maxHeartbeats 8000000 in
set_option maxRecDepth 100000 in
theorem exitB3 (u : Nat → Value) (A : Option Addr) (c : Nat) (w : World) (Q : Exit → Act → World → Prop) (hQ : ∀ a', Fm 72 a' → sl a' 3 = u 3 → Q (.exit 4) a' w) :
    Code.wp Try.prog (bodyN Try.f66 2) Q ⟨#[u 0, u 1, u 2, u 3, .slice A 0 c, u 5, u 6, u 7, u 8, u 9, u 10, u 11, u 12, u 13, u 14, u 15, u 16, u 17, u 18, u 19, u 20, u 21, u 22, u 23, u 24, u 25, u 26, u 27, u 28, u 29, u 30, u 31, u 32, u 33, u 34, u 35, u 36, u 37, u 38, u 39, u 40, u 41, u 42, u 43, u 44, u 45, u 46, u 47, u 48, u 49, u 50, u 51, u 52, u 53, u 54, u 55, u 56, u 57, u 58, u 59, u 60, u 61, u 62, u 63, u 64, u 65, u 66, u 67, u 68, u 69, u 70, u 71], []⟩ w := by
  conv => arg 2; whnf
  go_wp2
  exact hQ _ ⟨rfl, rfl⟩ rfl
theorem loopB3 (gs base : Nat) (S m : List Int) (hS : S.length = 8) (N : Nat) (hN : m.length = 64 * N) (hm : m.length ≤ 140737488355328) (w0 : World)
    (Q : Exit → Act → World → Prop) (hQ : ∀ a' w', Fm 72 a' → sl a' 3 = .pointer (some ⟨gs, 0, none⟩) → Fr (fun k => k = gs) w0 w' → w'.heap[gs]? = some (.cells (encs (Value.int .u32) (run N S m)).toArray 125 (0, 0)) → Q (.exit 4) a' w')
    (a : Act) (w : World) (h : Fm 72 a ∧ sl a 3 = .pointer (some ⟨gs, 0, none⟩) ∧ Fr (fun k => k = gs) w0 w ∧ (sl a 4).ownBlock ≠ some gs ∧ QB w base (sl a 4) m ∧ w.heap[gs]? = some (.cells (encs (Value.int .u32) S).toArray 125 (0, 0))) : (Code.loop (bodyN Try.f66 2)).wp Try.prog Q a w := by
  refine wp_loop_up N (fun t a w => Fm 72 a ∧ sl a 3 = .pointer (some ⟨gs, 0, none⟩) ∧ Fr (fun k => k = gs) w0 w ∧ (sl a 4).ownBlock ≠ some gs ∧ QB w base (sl a 4) (m.drop (64 * t)) ∧ w.heap[gs]? = some (.cells (encs (Value.int .u32) (run t S m)).toArray 125 (0, 0))) h ?_
  rintro t a w ht ⟨hF, h3, hf, hne, hq, hs⟩
  have ha := fm72 hF
  by_cases h64 : t = N
  · subst h64
    obtain ⟨A, c, e, hc⟩ := hq.slice
    rw [List.length_drop, hN, Nat.sub_self] at e
    rw [e] at ha
    rw [ha]
    exact exitB3 (sl a) A c w _ fun a' b0 b1 => hQ _ _ b0 (b1.trans h3) hf hs
  · rw [h3] at ha
    rw [ha]
    refine roundB3 (sl a) gs base (sl a 4) _ (m.drop (64 * t)) ((run_len t S m).trans hS) w0 w hs hq hne (by rw [List.length_drop]; omega) (by rw [List.length_drop]; omega) hf _ ?_
    intro a' w' v' b0 b1 b2 b3 b4 b5 b6
    refine ⟨by omega, b0, b1, b3, by rw [b2, b4]; exact hne, ?_, ?_⟩
    · rw [b2, show 64 * (t + 1) = 64 * t + 64 by omega, ← List.drop_drop]
      exact b5
    · rw [run_succ]
      exact b6

/-! ### the words written out -/
theorem idx8s (S : List Int) (hS : S.length = 8) (t : Nat) (ht : t < 8) (w : World) : (Instr.index 125 (.agg (encs (Value.int .u32) S).toArray) (.int .i64 (t : Int))).run Try.prog w = .ok (.int .u32 (S.getD t 0)) w := by
  obtain ⟨va, vb, vc, vd, ve, vf, vg, vh, rfl⟩ := eight hS
  rcases (show t = 0 ∨ t = 1 ∨ t = 2 ∨ t = 3 ∨ t = 4 ∨ t = 5 ∨ t = 6 ∨ t = 7 by omega) with rfl|rfl|rfl|rfl|rfl|rfl|rfl|rfl <;> kernel_rfl
set_option maxHeartbeats 8000000 in
set_option maxRecDepth 100000 in
theorem roundO4 (u : Nat → Value) (v : Value) (S : List Int) (hS : S.length = 8) (t : Nat) (ht : t < 8) (xs : List Int) (base : Nat) (w0 w : World) (hb0 : w0.heap.size ≤ base) (hb : base ≤ w.heap.size) (hl : xs.length < 900) (hq : OB w base v xs) (hf : Fr (fun _ => False) w0 w)
    (Q : Exit → Act → World → Prop) (hQ : ∀ a' w', Fm 72 a' → sl a' 52 = .agg (encs (Value.int .u32) S).toArray → sl a' 53 = .int .i64 ((t : Int) + 1) → OB w' base (sl a' 6) (xs ++ bytes4 (S.getD t 0)) → Fr (fun _ => False) w0 w' → base ≤ w'.heap.size → Q .normal a' w') :
    Code.wp Try.prog (bodyN Try.f66 3) Q ⟨#[u 0, u 1, u 2, u 3, u 4, u 5, v, u 7, u 8, u 9, u 10, u 11, u 12, u 13, u 14, u 15, u 16, u 17, u 18, u 19, u 20, u 21, u 22, u 23, u 24, u 25, u 26, u 27, u 28, u 29, u 30, u 31, u 32, u 33, u 34, u 35, u 36, u 37, u 38, u 39, u 40, u 41, u 42, u 43, u 44, u 45, u 46, u 47, u 48, u 49, u 50, u 51, .agg (encs (Value.int .u32) S).toArray, .int .i64 (t : Int), u 54, u 55, u 56, u 57, u 58, u 59, u 60, u 61, u 62, u 63, u 64, u 65, u 66, u 67, u 68, u 69, u 70, u 71], []⟩ w := by
  have hix := idx8s S hS t ht
  obtain ⟨c1, e1⟩ : ∃ cs, (encs (Value.int .u32) S).toArray = cs := ⟨_, rfl⟩
  rw [e1] at hix hQ
  rw [e1]
  obtain ⟨x, hx⟩ : ∃ x, S.getD t 0 = x := ⟨_, rfl⟩
  rw [hx] at hix hQ
  have HQ := Aside0.mk hq
  have HF := Aside0.mk hf
  obtain ⟨A, c, rfl, _⟩ := hq.slice
  clear hq hf e1 hx
  have c0 : decide ((t : Int) < 8) = true := decide_eq_true (by omega)
  conv => arg 2; whnf
  go_wp2_with (first | ((with_reducible refine gate_builtin (b := .append) (xs := #[.tmp 56, .tmp 68]) rfl ?_); at_builtin; refine Aside0.out ?_))
  refine ⟨?_⟩
  refine wpList_appo rfl (by rfl) base _ _ (by rfl) info5 (.slice A xs.length c) xs (by rfl) (HQ.out.fr ((Fr.refl (fun _ => False) w).alloc _) (fun k hk h => h)) _ _ _ (bytes4 x) (by rfl) (by rfl) (Rd.blk (heap_alloc_new _ _)) (by simp [bytes4]) (by simp only [bytes4, List.length_cons, List.length_nil]; omega) (by rw [World.size_alloc]; omega) ?_
  intro v1 w1 hq1 hf1 hat1
  have hF1 := (HF.out.alloc (.cells #[Value.int .u8 (x / 16777216 % 256), Value.int .u8 (x / 65536 % 256), Value.int .u8 (x / 256 % 256), Value.int .u8 (x % 256)] 5)).trans hf1 (S := fun _ => False) (fun k hk => .inr (by have := HQ.out.base k hk.symm; omega))
  have hs1 := hf1.size
  rw [World.size_alloc] at hs1
  clear hf1 HF HQ hix
  go_wp2
  exact hQ _ _ ⟨rfl, rfl⟩ rfl rfl hq1 hF1 (by omega)
set_option maxHeartbeats 8000000 in
set_option maxRecDepth 100000 in
theorem exitO4 (u : Nat → Value) (w : World) (Q : Exit → Act → World → Prop) (hQ : ∀ a', Fm 72 a' → sl a' 6 = u 6 → Q (.exit 6) a' w) :
    Code.wp Try.prog (bodyN Try.f66 3) Q ⟨#[u 0, u 1, u 2, u 3, u 4, u 5, u 6, u 7, u 8, u 9, u 10, u 11, u 12, u 13, u 14, u 15, u 16, u 17, u 18, u 19, u 20, u 21, u 22, u 23, u 24, u 25, u 26, u 27, u 28, u 29, u 30, u 31, u 32, u 33, u 34, u 35, u 36, u 37, u 38, u 39, u 40, u 41, u 42, u 43, u 44, u 45, u 46, u 47, u 48, u 49, u 50, u 51, u 52, .int .i64 8, u 54, u 55, u 56, u 57, u 58, u 59, u 60, u 61, u 62, u 63, u 64, u 65, u 66, u 67, u 68, u 69, u 70, u 71], []⟩ w := by
  conv => arg 2; whnf
  go_wp2
  exact hQ _ ⟨rfl, rfl⟩ rfl
theorem loopO4 (S : List Int) (hS : S.length = 8) (base : Nat) (w0 : World) (hb0 : w0.heap.size ≤ base)
    (Q : Exit → Act → World → Prop) (hQ : ∀ a' w', Fm 72 a' → OB w' base (sl a' 6) (outB S) → Fr (fun _ => False) w0 w' → Q (.exit 6) a' w')
    (a : Act) (w : World) (h : Fm 72 a ∧ sl a 52 = .agg (encs (Value.int .u32) S).toArray ∧ sl a 53 = .int .i64 0 ∧ OB w base (sl a 6) [] ∧ Fr (fun _ => False) w0 w ∧ base ≤ w.heap.size) : (Code.loop (bodyN Try.f66 3)).wp Try.prog Q a w := by
  refine wp_loop_up 8 (fun t a w => Fm 72 a ∧ sl a 52 = .agg (encs (Value.int .u32) S).toArray ∧ sl a 53 = .int .i64 (t : Int) ∧ OB w base (sl a 6) (outB (S.take t)) ∧ Fr (fun _ => False) w0 w ∧ base ≤ w.heap.size) h ?_
  rintro t a w ht ⟨hF, h27, h28, hq, hf, hb⟩
  have ha := fm72 hF
  by_cases h64 : t = 8
  · subst h64
    rw [h28] at ha
    rw [List.take_of_length_le (by omega)] at hq
    rw [ha]
    exact exitO4 (sl a) w _ fun a' b0 b1 => hQ _ _ b0 (by rw [b1]; exact hq) hf
  · rw [h27, h28] at ha
    rw [ha]
    refine roundO4 (sl a) (sl a 6) S hS t (by omega) _ base w0 w hb0 hb (by rw [outB_len, List.length_take]; omega) hq hf _ ?_
    intro a' w' b0 b1 b2 b3 b4 b5
    refine ⟨by omega, b0, b1, by rw [b2]; congr 1, ?_, b4, b5⟩
    rw [outB_take S t (by omega)]
    exact b3

/-- What a hash with these words, this rest and this size tells. -/
def fin (S rest : List Int) (n : Int) : List Int := outB (run ((rest ++ 128 :: (List.replicate (zpad rest.length) 0 ++ be8 (n * 8))).length / 64) S (rest ++ 128 :: (List.replicate (zpad rest.length) 0 ++ be8 (n * 8))))
set_option maxHeartbeats 8000000 in
set_option maxRecDepth 100000 in
theorem HSum_calls (g base : Nat) (rv : Value) (S rest : List Int) (n : Int) (hn0 : 0 ≤ n) (hn : n < 140737488355328) (hl : rest.length < 140737488350000) (w : World) (h : HashAt w g base rv S rest n) :
    Calls Try.prog 66 #[.pointer (some ⟨g, 0, none⟩)] w fun e w' => ∃ v : Value, e = .returned v ∧ OB w' w.heap.size v (fin S rest n) ∧ Below w.heap.size w w' := by
  have hS := h.len
  have k8 := (cells_hash hS h.heap).1
  have k9 := (cells_hash hS h.heap).2
  obtain ⟨Ar, cr, rfl, hcr⟩ := h.row.slice
  have hrg := rangeS h.heap
  have hi8 : (Try.prog.info? 125).map (·.size) = some 8 := by kernel_rfl
  have e8 : (encs (Value.int .u32) S).length = 8 := by rw [encs_len, hS]
  have hsz : (encs (Value.int .u32) S).toArray.size = 8 := by simp [encs, hS]
  have hone : (encs (Value.int .u32) S).toArray.all (·.oneCell') = true := by simp [encs, Value.oneCell']
  have HH := Aside0.mk (And.intro h (And.intro hrg (And.intro hi8 (And.intro e8 (And.intro hsz (And.intro hone (And.intro k8 k9)))))))
  clear h hrg hi8 e8 hsz hone k8 k9
  go_enter Try.func66, Try.ntmps66
  go_wp2_with (first | ((with_reducible refine gate_dst (N := 12) rfl ?_); refine wpList_load_mid (by rfl) 125 _ (by rfl) g 0 (by rfl) (encs (Value.int .u32) S) _ HH.out.2.1 Try.underlying125 (by rfl) (by rw [HH.out.2.2.2.1]; exact HH.out.2.2.1) ?_) | ((with_reducible refine gate_dst (N := 3) rfl ?_); refine wpList_alloc_abs (by rfl) 125 (by rfl) (.agg Z8) (by kernel_rfl) ?_; intro w1 hb1 hs1 hg1) | ((with_reducible refine gate_store (p := 3) rfl ?_); refine wpList_store_abs (by rfl) 125 _ _ (by rfl) w.heap.size (encs (Value.int .u32) S).toArray (by rfl) (by rfl) 125 Z8 hg1 (by rw [HH.out.2.2.2.2.1]; exact HH.out.2.2.1) (by rw [HH.out.2.2.2.2.1]; exact Z8_size) HH.out.2.2.2.2.2.1 ?_; intro w2 hf2 hs2 hg2; have F2 : Fr (fun _ => False) w w2 := (Fr.of_below hb1 _).trans hf2 (fun i h => .inr (by omega)); have k8 := F2.cell HH.out.2.2.2.2.2.2.1 (fun h => h)) | ((with_reducible refine gate_dst (N := 13) rfl ?_); refine Kd.R_lit (Kd.int .u8) _ 5 (by rfl) (N := 13) (by rfl) (xs := ([] : List Int)) (inner := []) (ok := fun _ => True) (okp := fun _ => True) (by first | (go_simp; done) | (go_simp; rfl)) (Reps.none _ _) (fun _ hk => hk) trivial (Below.refl _ _) (Nat.le_refl _) (by simp) ?_; intro v5 w5 ho5 hb5 hg5 hn5; have k8 := (Fr.of_below hb5 (fun _ => False)).cell k8 (fun h => h)) | ((with_reducible refine gate_builtin (b := .append) (xs := #[.tmp 13, .tmp 17]) rfl ?_); at_builtin; refine Aside0.out ?_))
  refine ⟨?_⟩
  have lt2 : w.heap.size < w2.heap.size := by omega
  have f5 := Fr.of_below hb5 (fun _ => False)
  have hq5 : QB w5 w2.heap.size v5 [] := q_of_own (Kd.own_of_R ho5)
  have hr5 : Rd w5 Ar rest := HH.out.1.row.rd.fr (F2.trans f5 (fun i h => h.elim)) (fun ad e h => h)
  have lt5 := hb5.size
  refine wpList_appq rfl (by rfl) w2.heap.size _ _ (by rfl) info5 v5 [] (by rfl) hq5 Ar rest.length cr rest (by rfl) rfl hr5 (by simp only [List.length_nil]; omega) (by omega) ?_
  intro v6 w6 hq6 hf6 hat6
  rw [List.nil_append] at hq6
  have F6 : Fr (fun _ => False) w2 w6 := f5.trans hf6 (fun k hk => .inr (by have := hq5.base k hk.symm; omega))
  have lt6 := hf6.size
  obtain ⟨A6, c6, rfl, _⟩ := hq6.slice
  have k9 := F2.cell HH.out.2.2.2.2.2.2.2 (fun h => h)
  have HK := Aside0.mk (And.intro hq6 (And.intro F6 (And.intro F2 (And.intro hg2 k9))))
  clear hq6 F6 F2 hg2 k9 hb1 hg1 hf2 f5 hq5 hr5 ho5 hb5 hg5 hn5 hf6 hat6 k8
  go_wp2_with (first | ((with_reducible refine gate_builtin (b := .append) (xs := #[.tmp 19, .tmp 20]) rfl ?_); at_builtin; refine Aside0.out ?_))
  refine ⟨?_⟩
  refine wpList_appq rfl (by rfl) w2.heap.size _ _ (by rfl) info5 (.slice A6 rest.length c6) rest (by rfl) (HK.out.1.fr ((Fr.refl (fun _ => False) w6).alloc _) (fun k hk h => h)) _ _ _ [128] (by rfl) (by rfl) (Rd.blk (heap_alloc_new _ _)) (by simp only [List.length_cons, List.length_nil]; omega) (by rw [World.size_alloc]; omega) ?_
  intro v7 w7 hq7 hf7 hat7
  have F7 := (HK.out.2.1.alloc (.cells #[Value.int .u8 128] 5)).trans hf7 (S := fun _ => False) (fun k hk => .inr (by have := HK.out.1.base k hk.symm; omega))
  have lt7 := hf7.size
  rw [World.size_alloc] at lt7
  clear hf7 hat7
  have HK2 := Aside0.mk HK.out.2.2
  clear HK
  go_wp2
  refine loopZ (.pointer (some ⟨g, 0, none⟩)) (.pointer (some ⟨w.heap.size, 0, none⟩)) (rest ++ [128]) (zpad rest.length) (by rw [List.length_append, List.length_singleton, zpad]; omega) (by rw [zpad]; omega) (by rw [List.length_append, List.length_singleton]; omega) w2.heap.size w2 (Nat.le_refl _) _ ?_ _ _ ⟨⟨rfl, rfl⟩, rfl, rfl, hq7, F7, by omega⟩
  clear hq7 F7
  intro a' w8 hFm j0 j3 jq jf jb
  obtain ⟨v8, ev⟩ : ∃ v, sl a' 4 = v := ⟨_, rfl⟩
  rw [ev] at jq
  rw [fm72 hFm, j0, j3, ev]
  have HJ := Aside0.mk (And.intro jq jf)
  clear jq jf hFm j0 j3 ev
  go_wp2
  refine loopL (.pointer (some ⟨w.heap.size, 0, none⟩)) g n hn0 hn _ (by rw [List.length_append, List.length_append, List.length_replicate, List.length_singleton, zpad]; omega) w2.heap.size w2 HK2.out.2.2 (Nat.le_refl _) _ ?_ _ _ ⟨⟨rfl, rfl⟩, rfl, rfl, rfl, HJ.out.1, HJ.out.2, jb⟩
  clear HJ
  intro a'' w9 hFm j3 jq jf jb9
  have em : (rest ++ [128] ++ List.replicate (zpad rest.length) 0) ++ be8 (n * 8) = rest ++ 128 :: (List.replicate (zpad rest.length) 0 ++ be8 (n * 8)) := by simp [List.append_assoc]
  rw [em] at jq
  have hml : (rest ++ 128 :: (List.replicate (zpad rest.length) 0 ++ be8 (n * 8))).length = rest.length + (zpad rest.length + 9) := by simp only [List.length_append, List.length_cons, List.length_replicate, be8, List.length_nil]
  obtain ⟨m, hm⟩ : ∃ m, rest ++ 128 :: (List.replicate (zpad rest.length) 0 ++ be8 (n * 8)) = m := ⟨_, rfl⟩
  have efin : fin S rest n = outB (run (m.length / 64) S m) := by rw [fin, hm]
  rw [hm] at jq hml
  have hm64 : m.length = 64 * (m.length / 64) ∧ m.length ≤ 140737488355328 := by rw [zpad] at hml; omega
  obtain ⟨v9, ev⟩ : ∃ v, sl a'' 4 = v := ⟨_, rfl⟩
  rw [ev] at jq
  rw [fm72 hFm, j3, ev]
  have hg9 := jf.blk HK2.out.2.1 (fun h => h)
  have hne9 : v9.ownBlock ≠ some w.heap.size := fun e => by have := jq.base _ e; omega
  have HJ := Aside0.mk (And.intro jq (And.intro (HK2.out.1.trans jf (fun i h => h.elim)) (And.intro hg9 (And.intro hne9 (And.intro hm64 efin)))))
  clear jq jf hFm j3 ev em hm hml hm64 hg9 hne9 efin
  go_wp2
  refine loopB3 w.heap.size w2.heap.size S m hS (m.length / 64) HJ.out.2.2.2.2.1.1 HJ.out.2.2.2.2.1.2 w9 _ ?_ _ _ ⟨⟨rfl, rfl⟩, rfl, Fr.refl _ _, HJ.out.2.2.2.1, HJ.out.1, HJ.out.2.2.1⟩
  intro a3 w10 hFm j3 jf js
  rw [fm72 hFm, j3]
  obtain ⟨T, eT⟩ : ∃ T, run (m.length / 64) S m = T := ⟨_, rfl⟩
  have hT : T.length = 8 := by rw [← eT]; exact (run_len _ _ _).trans hS
  rw [eT] at js
  have F10 : Fr (fun _ => False) w w10 := HJ.out.2.1.trans jf (fun i h => .inr (by omega))
  have efin : fin S rest n = outB T := by rw [HJ.out.2.2.2.2.2, eT]
  have hszT : (encs (Value.int .u32) T).toArray.size = 8 := by simp [encs, hT]
  have lt10 := jf.size
  have HL := Aside0.mk (And.intro js (And.intro F10 (And.intro efin (And.intro hszT HH.out.2.2.1))))
  clear js F10 efin jf hFm j3 hszT eT HJ HK2 HH
  go_wp2_with (first | ((with_reducible refine gate_dst (N := 52) rfl ?_); refine wpList_load_row (by rfl) 125 _ (by rfl) w.heap.size (by rfl) _ (encs (Value.int .u32) T).toArray _ _ HL.out.1 Try.underlying125 (by rfl) (by rw [HL.out.2.2.2.1]; exact HL.out.2.2.2.2) ?_) | fail)
  refine loopO4 T hT w.heap.size w (Nat.le_refl _) _ ?_ _ _ ⟨⟨rfl, rfl⟩, rfl, rfl, OB.nil _ _, HL.out.2.1, by omega⟩
  intro a4 w11 hFm jq jf
  obtain ⟨v11, ev⟩ : ∃ v, sl a4 6 = v := ⟨_, rfl⟩
  rw [ev] at jq
  rw [fm72 hFm, ev]
  have HR := Aside0.mk (And.intro jq (And.intro jf HL.out.2.2.1))
  clear jq jf hFm ev HL
  go_wp2
  go_ret
  exact ⟨_, rfl, by rw [HR.out.2.2]; exact HR.out.1, HR.out.2.1.below _ (Nat.le_refl _) (fun i h => h.elim)⟩
end Go.Proofs.Ytnabilhcmplhcaa.Sha

namespace Go.Proofs.Ytnabilhcmplhcaa.Sha
open Go.RowKit Go.Proofs.YtnabilhcmplhcaaW.PrintWords Go.Proofs.YtnabilhcmplhcaaW.PrintLast Go.Proofs.YtnabilhcmplhcaaW.PrintMore Go.Proofs.Ytnabilhcmplhcaa.Q Go.Proofs.Ytnabilhcmplhcaa.Fr Go.Proofs.Ytnabilhcmplhcaa.Oct

theorem run_app (q : Nat) : ∀ (S b p : List Int), 64 * q ≤ b.length → run q S (b ++ p) = run q S b := by
  induction q with
  | zero => intros; rfl
  | succ q ih =>
    intro S b p h
    rw [run, run, List.take_append_of_le_length (by omega), List.drop_append_of_le_length (by omega)]
    exact ih _ _ _ (by rw [List.length_drop]; omega)
theorem run_add (a b : Nat) : ∀ (S m : List Int), run (a + b) S m = run b (run a S m) (m.drop (64 * a)) := by
  induction a with
  | zero => intro S m; rw [Nat.zero_add, Nat.mul_zero, List.drop_zero]; rfl
  | succ a ih =>
    intro S m
    rw [show a + 1 + b = (a + b) + 1 by omega, run, ih, run, List.drop_drop, show 64 + 64 * a = 64 * (a + 1) by omega]
/-- What a hash holds to which b was fed. -/
def held (b : List Int) : List Int × List Int × Int := (run (b.length / 64) S0 b, b.drop (64 * (b.length / 64)), (b.length : Int))
theorem run_held (b p : List Int) : run ((b.drop (64 * (b.length / 64)) ++ p).length / 64) (run (b.length / 64) S0 b) (b.drop (64 * (b.length / 64)) ++ p) = run ((b ++ p).length / 64) S0 (b ++ p) := by
  have h1 : (b ++ p).length / 64 = b.length / 64 + (b.drop (64 * (b.length / 64)) ++ p).length / 64 := by
    rw [List.length_append, List.length_append, List.length_drop]; omega
  rw [h1, run_add, run_app _ S0 b p (by omega), List.drop_append_of_le_length (by omega)]
theorem feed_held (b p : List Int) (h : (b ++ p).length < 18446744073709551616) : feed (held b) p = held (b ++ p) := by
  have hl : (b.drop (64 * (b.length / 64)) ++ p).length = b.length - 64 * (b.length / 64) + p.length := by rw [List.length_append, List.length_drop]
  simp only [feed, held]
  rw [run_held]
  refine Prod.ext rfl (Prod.ext ?_ ?_)
  · show (b.drop _ ++ p).drop (64 * ((b.drop (64 * (b.length / 64)) ++ p).length / 64)) = (b ++ p).drop (64 * ((b ++ p).length / 64))
    rw [← List.drop_append_of_le_length (by omega : 64 * (b.length / 64) ≤ b.length), List.drop_drop]
    congr 1
    rw [List.drop_append_of_le_length (by omega), hl, List.length_append]
    omega
  · show IntKind.u64.wrap ((b.length : Int) + (p.length : Int)) = (((b ++ p).length : Nat) : Int)
    rw [List.length_append] at h ⊢
    rw [IntKind.wrap_u64]
    omega
theorem feeds_held (PS : List (List Int)) : ∀ (b : List Int), (b ++ PS.flatten).length < 18446744073709551616 → PS.foldl feed (held b) = held (b ++ PS.flatten) := by
  induction PS with
  | nil => intro b h; rw [List.flatten_nil, List.append_nil]; rfl
  | cons p PS ih =>
    intro b h
    rw [List.flatten_cons, ← List.append_assoc] at h ⊢
    rw [List.foldl_cons, feed_held b p (by rw [List.length_append] at h; omega), ih _ h]
theorem fin_held (b : List Int) : fin (held b).1 (held b).2.1 (held b).2.2 = sha b := by
  have hz : zpad (b.drop (64 * (b.length / 64))).length = zpad b.length := by rw [List.length_drop]; simp only [zpad]; omega
  simp only [fin, held, sha, padded, tailB]
  rw [hz]
  congr 1
  exact run_held b _

theorem held_nil : held [] = (S0, [], 0) := rfl

/-- One list of bytes in a slice of its own. -/
theorem parts_one {w : World} {g : Nat} {A : Option Addr} {c : Nat} {l : List Int} {t : TypeId} {S : Nat → Prop} (hg : w.heap[g]? = some (.cells #[.slice A l.length c] t (0, 0))) (hc : l.length ≤ c) (hr : Rd w A l) (hgS : ¬ S g) (hA : ∀ ad, A = some ad → l ≠ [] → ¬ S ad.block) : Parts w (some ⟨g, 0, none⟩) [l] S := fun i p hp => by
  have hi : i = 0 := by
    have := (List.getElem?_eq_some_iff.1 hp).1
    simpa using this
  subst hi
  obtain rfl : l = p := by simpa using hp
  refine ⟨_, A, c, rfl, ?_, hc, hgS, fun j u hu => ?_⟩
  · rw [add_at, cell_of_row w g _ _ t (0, 0) hg]; rfl
  · obtain ⟨ad, e, h⟩ := hr j u hu
    exact ⟨ad, e, hA ad e (by intro e2; rw [e2] at hu; simp [encs] at hu), h⟩

set_option maxHeartbeats 8000000 in
set_option maxRecDepth 100000 in
theorem ssum_calls (A : Option Addr) (c : Nat) (l : List Int) (w : World) (hr : Rd w A l) (hc : l.length ≤ c) (hl : l.length < 140737488355000) :
    Calls Try.prog 59 #[.slice A l.length c] w fun e w' => ∃ v : Value, e = .returned v ∧ OB w' w.heap.size v (sha l) ∧ Below w.heap.size w w' := by
  have HH := Aside0.mk (And.intro hr hc)
  clear hr hc
  go_enter Try.func59, Try.ntmps59
  go_wp2_with (fail)
  refine (New_calls w).mono ?_
  rintro e w1 ⟨g, rfl, hg, hH, hb1⟩
  have lt1 : g < w1.heap.size := blk_lt hH.heap
  have HN := Aside0.mk (And.intro hH hb1)
  clear hH hb1
  go_wp2_with (fail)
  have hal : Fr (fun _ => False) w1 (w1.alloc (.cells #[Value.slice A l.length c] 29)) := (Fr.refl _ _).alloc _
  have hg2 := heap_alloc_new w1 (.cells #[Value.slice A l.length c] 29)
  have hH2 : HashAt (w1.alloc (.cells #[Value.slice A l.length c] 29)) g w.heap.size (.slice none 0 0) S0 [] 0 := ⟨hal.blk HN.out.1.heap (fun h => h), rfl, QB.nil _ _, by simp [Value.ownBlock]⟩
  have F2 : Fr (fun _ => False) w (w1.alloc (.cells #[Value.slice A l.length c] 29)) := (Fr.of_below HN.out.2 _).trans hal (fun i h => h.elim)
  have hr2 : Rd (w1.alloc (.cells #[Value.slice A l.length c] 29)) A l := HH.out.1.fr F2 (fun ad e h => h)
  have lt2 : (w1.alloc (.cells #[Value.slice A l.length c] 29)).heap.size = w1.heap.size + 1 := by rw [World.size_alloc]
  have hp2 : Parts (w1.alloc (.cells #[Value.slice A l.length c] 29)) (some ⟨w1.heap.size, 0, none⟩) [l] (fun k => k = g ∨ some k = (Value.slice none 0 0).ownBlock) := by
    refine parts_one hg2 HH.out.2 hr2 (fun h => ?_) (fun ad e hne h => ?_)
    · rcases h with h | h
      · omega
      · simp [Value.ownBlock] at h
    · rcases h with h | h
      · obtain ⟨x, r', hr'⟩ := List.exists_cons_of_ne_nil hne
        obtain ⟨ad', e', hc'⟩ := HH.out.1 0 (.int .u8 x) (by rw [hr']; rfl)
        rw [e] at e'
        cases e'
        have := World.block_lt_of_cell? w _ hc'
        rw [addr_block] at this
        omega
      · simp [Value.ownBlock] at h
  generalize w1.alloc (.cells #[Value.slice A l.length c] 29) = w2 at *
  refine (Write_calls g w.heap.size (.slice none 0 0) S0 [] 0 (some ⟨w1.heap.size, 0, none⟩) 1 [l] (by simp) (fun p hp => by have : p = l := (by simpa using hp); rw [this]; omega) w2 hH2 (by simp) (by omega) hp2).mono ?_
  rintro e w3 ⟨rfl, hf3, _, rv', _, hH3⟩
  have ef : [l].foldl feed (S0, [], 0) = held l := by
    have := feeds_held [l] [] (by simp; omega)
    rw [held_nil] at this
    rw [this]; simp
  rw [ef] at hH3
  have F3 : Fr (fun _ => False) w w3 := F2.trans hf3 (fun i h => by
    rcases h with h | h
    · exact .inr (by omega)
    · simp [Value.ownBlock] at h)
  have lt3 := F3.size
  have HK := Aside0.mk (And.intro hH3 F3)
  clear hal hg2 hH2 F2 hr2 hp2 HN hf3 hH3 F3
  go_wp2_with (fail)
  refine (HSum_calls g w.heap.size rv' (held l).1 (held l).2.1 (held l).2.2 (by simp only [held]; omega) (by simp only [held]; omega) (by simp only [held, List.length_drop]; omega) w3 HK.out.1).mono ?_
  rintro e w4 ⟨v, rfl, hq4, hb4⟩
  rw [fin_held] at hq4
  have HR := Aside0.mk (And.intro (OB.lower hq4 lt3) (HK.out.2.trans (Fr.of_below hb4 (fun _ => False)) (fun i h => h.elim)))
  clear hq4 hb4 HK
  go_wp2
  go_ret
  exact ⟨_, rfl, HR.out.1, HR.out.2.below _ (Nat.le_refl _) (fun i h => h.elim)⟩
end Go.Proofs.Ytnabilhcmplhcaa.Sha

namespace Go.Proofs.Ytnabilhcmplhcaa.Sha
open Go.RowKit Go.Proofs.YtnabilhcmplhcaaW.PrintWords Go.Proofs.YtnabilhcmplhcaaW.PrintLast Go.Proofs.YtnabilhcmplhcaaW.PrintMore Go.Proofs.Ytnabilhcmplhcaa.Q Go.Proofs.Ytnabilhcmplhcaa.Fr Go.Proofs.Ytnabilhcmplhcaa.Oct
theorem Rd.mark {w : World} {g : Nat} {ys : List Int} {t : TypeId} {fr : Nat × Nat} (h : w.heap[g]? = some (.cells (encs (Value.int .u8) ys).toArray t fr)) : Rd w (some ⟨g, 0, none⟩) ys := fun j u hu => ⟨_, rfl, by
  rw [add_at]
  simp [World.cell?, h, hu]⟩
end Go.Proofs.Ytnabilhcmplhcaa.Sha

namespace Go.Proofs.Ytnabilhcmplhcaa.Sha
open Go.RowKit Go.Proofs.YtnabilhcmplhcaaW.PrintWords Go.Proofs.YtnabilhcmplhcaaW.PrintLast Go.Proofs.YtnabilhcmplhcaaW.PrintMore Go.Proofs.Ytnabilhcmplhcaa.Q Go.Proofs.Ytnabilhcmplhcaa.Fr Go.Proofs.Ytnabilhcmplhcaa.Oct

/-- The blocks of a hash. -/
def Fp (g : Nat) (rv : Value) (k : Nat) : Prop := k = g ∨ some k = rv.ownBlock
/-- A hash to which b was fed; its blocks lie from base on. -/
def Holds (w : World) (base g : Nat) (rv : Value) (b : List Int) : Prop := HashAt w g base rv (held b).1 (held b).2.1 (held b).2.2 ∧ base ≤ g ∧ b.length < 140737488355328
theorem HashAt.fr {w w' : World} {g base : Nat} {rv : Value} {S rest : List Int} {n : Int} {F : Nat → Prop} (h : HashAt w g base rv S rest n) (hf : Fr F w w') (hd : ∀ k, Fp g rv k → ¬ F k) : HashAt w' g base rv S rest n :=
  ⟨hf.blk h.heap (hd g (.inl rfl)), h.len, h.row.fr hf (fun k hk => hd k (.inr hk.symm)), h.ne⟩
theorem Holds.fr {w w' : World} {g base : Nat} {rv : Value} {b : List Int} {F : Nat → Prop} (h : Holds w base g rv b) (hf : Fr F w w') (hd : ∀ k, Fp g rv k → ¬ F k) : Holds w' base g rv b := ⟨h.1.fr hf hd, h.2⟩
theorem HashAt.lt {w : World} {g base : Nat} {rv : Value} {S rest : List Int} {n : Int} (h : HashAt w g base rv S rest n) : ∀ k, Fp g rv k → k < w.heap.size := fun k hk => by
  rcases hk with rfl | hk
  · exact blk_lt h.heap
  · exact q_lt h.row k hk.symm
theorem Holds.lt {w : World} {g base : Nat} {rv : Value} {b : List Int} (h : Holds w base g rv b) : ∀ k, Fp g rv k → k < w.heap.size := h.1.lt
theorem Holds.base {w : World} {g base : Nat} {rv : Value} {b : List Int} (h : Holds w base g rv b) : ∀ k, Fp g rv k → base ≤ k := fun k hk => by
  rcases hk with rfl | hk
  · exact h.2.1
  · exact h.1.row.base k hk.symm
/-- What is new lies apart from what was there. -/
theorem Fp.new {g : Nat} {rv rv' : Value} {N : Nat} (h : rv'.ownBlock = rv.ownBlock ∨ ∃ b, rv'.ownBlock = some b ∧ N ≤ b) : ∀ k, Fp g rv' k → Fp g rv k ∨ N ≤ k := fun k hk => by
  rcases hk with rfl | hk
  · exact .inl (.inl rfl)
  · rcases h with h | ⟨b, hb, hn⟩
    · exact .inl (.inr (by rw [← h]; exact hk))
    · rw [hb] at hk
      injection hk with hk
      exact .inr (by omega)
theorem Holds.lower {w : World} {base base' g : Nat} {rv : Value} {b : List Int} (h : Holds w base g rv b) (hb : base' ≤ base) : Holds w base' g rv b :=
  ⟨⟨h.1.heap, h.1.len, q_lower h.1.row hb, h.1.ne⟩, Nat.le_trans hb h.2.1, h.2.2⟩
theorem new_holds (w : World) : Calls Try.prog 64 #[] w fun e w' => ∃ g, e = .returned (.pointer (some ⟨g, 0, none⟩)) ∧ Holds w' w.heap.size g (.slice none 0 0) [] ∧ Below w.heap.size w w' :=
  (New_calls w).mono fun e w' ⟨g, he, hg, hH, hb⟩ => ⟨g, he, ⟨by rw [held_nil]; exact hH, hg, by simp⟩, hb⟩
theorem write_holds (g base : Nat) (rv : Value) (b : List Int) (A : Option Addr) (c : Nat) (PS : List (List Int)) (hk : PS.length ≤ 9223372036854775807) (hlen : ∀ p ∈ PS, p.length + 64 ≤ 140737488355328) (w : World) (h : Holds w base g rv b) (hb : base ≤ w.heap.size)
    (hp : Parts w A PS (Fp g rv)) (htot : (b ++ PS.flatten).length < 140737488355328) :
    Calls Try.prog 65 #[.pointer (some ⟨g, 0, none⟩), .slice A PS.length c] w fun e w' => e = .returned (.tuple #[]) ∧ Fr (Fp g rv) w w' ∧ ∃ rv' : Value, Holds w' base g rv' (b ++ PS.flatten) ∧ ∀ k, Fp g rv' k → Fp g rv k ∨ w.heap.size ≤ k := by
  refine (Write_calls g base rv (held b).1 (held b).2.1 (held b).2.2 A c PS hk hlen w h.1 (by simp only [held, List.length_drop]; omega) hb hp).mono ?_
  rintro e w' ⟨he, hf, _, rv', ho, hH⟩
  have ef : PS.foldl feed ((held b).1, (held b).2.1, (held b).2.2) = held (b ++ PS.flatten) := feeds_held PS b (by omega)
  rw [ef] at hH
  exact ⟨he, hf, rv', ⟨hH, h.2.1, htot⟩, Fp.new ho⟩
theorem sum_holds (g base : Nat) (rv : Value) (b : List Int) (w : World) (h : Holds w base g rv b) :
    Calls Try.prog 66 #[.pointer (some ⟨g, 0, none⟩)] w fun e w' => ∃ v : Value, e = .returned v ∧ OB w' w.heap.size v (sha b) ∧ Below w.heap.size w w' := by
  have := HSum_calls g base rv (held b).1 (held b).2.1 (held b).2.2 (by simp only [held]; omega) (by have := h.2.2; simp only [held]; omega) (by simp only [held, List.length_drop]; omega) w h.1
  rw [fin_held] at this
  exact this
end Go.Proofs.Ytnabilhcmplhcaa.Sha

namespace Go.Proofs.Ytnabilhcmplhcaa.Sha
open Go.RowKit Go.Proofs.YtnabilhcmplhcaaW.PrintWords Go.Proofs.YtnabilhcmplhcaaW.PrintLast Go.Proofs.YtnabilhcmplhcaaW.PrintMore Go.Proofs.Ytnabilhcmplhcaa.Q Go.Proofs.Ytnabilhcmplhcaa.Fr Go.Proofs.Ytnabilhcmplhcaa.Oct

/-- A byte of a row of one's own is written. -/
theorem OB.put {w : World} {base g c : Nat} {xs : List Int} (h : OB w base (.slice (some ⟨g, 0, none⟩) xs.length c) xs) (i : Nat) (hi : i < xs.length) (x : Int) : OB (w.setCell ⟨g, i, none⟩ (.int .u8 x)) base (.slice (some ⟨g, 0, none⟩) (xs.set i x).length c) (xs.set i x) := by
  have hR : Kd.R (Kd.int .u8) 5 w base (fun _ => True) (.slice (some ⟨g, 0, none⟩) xs.length c) xs := Kd.R_of_own h (fun _ _ => trivial)
  have h2 := Kd.R_putn (enc := Value.int .u8) (h1 := fun _ => rfl) hR (i : Int) x
  rw [Int.toNat_natCast] at h2
  rw [List.length_set]
  have := Kd.own_of_R h2
  rw [List.length_set] at this
  unfold OB
  rw [List.length_set]
  exact this
theorem OB.form {w : World} {base : Nat} {v : Value} {xs : List Int} (h : OB w base v xs) (hn : 0 < xs.length) : ∃ g c, v = .slice (some ⟨g, 0, none⟩) xs.length c := by
  rcases h.2 with ⟨_, h0⟩ | ⟨g, cap, cur, hv, _⟩
  · omega
  · exact ⟨g, cap, hv⟩
section
variable {ops : Array Oper} {rest : List Oper} {o : Oper} {a : Act} {Q : Exit → Act → World → Prop} {w : World}
/-- append(v, ys...), whatever ys. -/
theorem wpList_appe {P : Program} (hP : P = Try.prog) (hgd : o.guard = none) (base : Nat) (s x : Operand) (ho : o.op = .call { callee := .builtin .append, args := #[s, x], argTypes := #[29, 29] })
    (hi : (Try.prog.info? 5).map (fun i => (i.zero, i.size, i.bytes)) = some (some (.int .u8 0), 1, 1)) (v : Value) (xs : List Int) (hs : a.eval s = v) (hq : OB w base v xs) (A : Option Addr) (m c : Nat) (ys : List Int) (hx : a.eval x = .slice A m c) (hm : m = ys.length) (hy : Rd w A ys) (hl : xs.length + ys.length ≤ 140737488355328) (hb : base ≤ w.heap.size)
    (h : ∀ v1 w1, OB w1 base v1 (xs ++ ys) → Fr (fun k => some k = v.ownBlock) w w1 → (v1.ownBlock = v.ownBlock ∨ ∃ b, v1.ownBlock = some b ∧ w.heap.size ≤ b) → wpList P ops Q rest (a.put o.dst v1) w1) : wpList P ops Q (o :: rest) a w := by
  by_cases hne : ys = []
  · subst hP hm hne
    obtain ⟨i0, hi0, h0, h1, h2⟩ := info_parts hi
    obtain ⟨A', c', rfl, hc'⟩ := hq.slice
    have hr : (Builtin.append_ #[29, 29] o.type #[.slice A' xs.length c', .slice A ([] : List Int).length c]).run Try.prog w = .ok (.slice A' xs.length c') w := by
      cases A <;> cases A' <;> simp [Builtin.append_, run_underlying Try.underlying29, sizeOf, typeInfo, hi0, Builtin.lenOf, Builtin.firstCells, hc', storeCells, loadCells, loadCellsFrom, Result.andThen]
    refine wpList_plain hgd fun K hK => ?_
    unfold Oper.wp execOp
    simp only [ho, resolve, invoke, builtin, Sem.run_bind, Sem.run_pure, Result.andThen_ok, List.map_toArray, List.map_cons, List.map_nil, hs, hx, hr]
    exact hK _ _ (h _ w (by rw [List.append_nil]; exact hq) (Fr.refl _ _) (.inl rfl))
  · exact wpList_appo hP hgd base s x ho hi v xs hs hq A m c ys hx hm hy hne hl hb h
end
end Go.Proofs.Ytnabilhcmplhcaa.Sha
