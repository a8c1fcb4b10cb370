/-
  Sum: the loops.
-/
import Derived.Test.YtgnghgeljlaedaaShaU
set_option linter.unusedVariables false
set_option linter.unusedSimpArgs false
namespace Go.Proofs.Ytgnghgeljlaedaa.Sha
open Go.RowKit Go.Proofs.YtgnghgeljlaedaaW.PrintWords Go.Proofs.YtgnghgeljlaedaaW.PrintLast Go.Proofs.YtgnghgeljlaedaaW.PrintMore Go.Proofs.Ytgnghgeljlaedaa.Q Go.Proofs.Ytgnghgeljlaedaa.Fr Go.Proofs.Ytgnghgeljlaedaa.Oct

set_option maxHeartbeats 8000000 in
set_option maxRecDepth 100000 in
theorem roundZ (u : Nat → Value) (v : Value) (xs : List Int) (base : Nat) (w0 w : World) (hb0 : w0.heap.size ≤ base) (hb : base ≤ w.heap.size) (hl : xs.length < 140737488355000) (hne : xs.length % 64 ≠ 56) (hq : QB w base v xs) (hf : Fr (fun _ => False) w0 w)
    (Q : Exit → Act → World → Prop) (hQ : ∀ a' w', Fm 72 a' → sl a' 0 = u 0 → sl a' 3 = u 3 → QB w' base (sl a' 4) (xs ++ [0]) → Fr (fun _ => False) w0 w' → base ≤ w'.heap.size → Q .normal a' w') :
    Code.wp Try.prog (bodyN Try.f18 0) Q ⟨#[u 0, u 1, u 2, u 3, v, u 5, u 6, u 7, u 8, u 9, u 10, u 11, u 12, u 13, u 14, u 15, u 16, u 17, u 18, u 19, u 20, u 21, u 22, u 23, u 24, u 25, u 26, u 27, u 28, u 29, u 30, u 31, u 32, u 33, u 34, u 35, u 36, u 37, u 38, u 39, u 40, u 41, u 42, u 43, u 44, u 45, u 46, u 47, u 48, u 49, u 50, u 51, u 52, u 53, u 54, u 55, u 56, u 57, u 58, u 59, u 60, u 61, u 62, u 63, u 64, u 65, u 66, u 67, u 68, u 69, u 70, u 71], []⟩ w := by
  have HQ := Aside0.mk hq
  have HF := Aside0.mk hf
  obtain ⟨A, c, rfl, _⟩ := hq.slice
  clear hq hf
  have c8 : ¬ ((xs.length : Int) % 64) = 56 := by omega
  have c8b0 : (((xs.length : Int) % 64) == 56) = false := beq_eq_false_iff_ne.mpr c8
  have c8b1 : (((xs.length : Int) % 64) != 56) = true := bne_iff_ne.mpr c8
  conv => arg 2; whnf
  go_wp2_with (first | ((with_reducible refine gate_builtin (b := .append) (xs := #[.tmp 26, .tmp 27]) rfl ?_); at_builtin; refine Aside0.out ?_))
  refine ⟨?_⟩
  refine wpList_appq rfl (by rfl) base _ _ (by rfl) info5 (.slice A xs.length c) xs (by rfl) (HQ.out.fr ((Fr.refl (fun _ => False) w).alloc _) (fun k hk h => h)) _ _ _ [0] (by rfl) (by rfl) (Rd.blk (heap_alloc_new _ _)) (by simp only [List.length_cons, List.length_nil]; omega) (by rw [World.size_alloc]; omega) ?_
  intro v1 w1 hq1 hf1 hat1
  have hF1 := (HF.out.alloc (.cells #[Value.int .u8 0] 5)).trans hf1 (S := fun _ => False) (fun k hk => .inr (by have := HQ.out.base k hk.symm; omega))
  have hs1 := hf1.size
  rw [World.size_alloc] at hs1
  clear hf1 HF HQ
  go_wp2
  exact hQ _ _ ⟨rfl, rfl⟩ rfl rfl hq1 hF1 (by omega)
set_option maxHeartbeats 8000000 in
set_option maxRecDepth 100000 in
theorem exitZ (u : Nat → Value) (A : Option Addr) (c k : Nat) (hk : k % 64 = 56) (w : World) (Q : Exit → Act → World → Prop) (hQ : ∀ a', Fm 72 a' → sl a' 0 = u 0 → sl a' 3 = u 3 → sl a' 4 = .slice A k c → Q (.exit 0) a' w) :
    Code.wp Try.prog (bodyN Try.f18 0) Q ⟨#[u 0, u 1, u 2, u 3, .slice A k c, u 5, u 6, u 7, u 8, u 9, u 10, u 11, u 12, u 13, u 14, u 15, u 16, u 17, u 18, u 19, u 20, u 21, u 22, u 23, u 24, u 25, u 26, u 27, u 28, u 29, u 30, u 31, u 32, u 33, u 34, u 35, u 36, u 37, u 38, u 39, u 40, u 41, u 42, u 43, u 44, u 45, u 46, u 47, u 48, u 49, u 50, u 51, u 52, u 53, u 54, u 55, u 56, u 57, u 58, u 59, u 60, u 61, u 62, u 63, u 64, u 65, u 66, u 67, u 68, u 69, u 70, u 71], []⟩ w := by
  have c8 : ((k : Int) % 64) = 56 := by omega
  have c8b0 : (((k : Int) % 64) == 56) = true := beq_iff_eq.mpr c8
  have c8b1 : (((k : Int) % 64) != 56) = false := bne_eq_false_iff_eq.mpr c8
  conv => arg 2; whnf
  go_wp2
  exact hQ _ ⟨rfl, rfl⟩ rfl rfl rfl
theorem loopZ (s0 s3 : Value) (xs : List Int) (z : Nat) (hz : (xs.length + z) % 64 = 56) (hz64 : z < 64) (hl : xs.length < 140737488354000) (base : Nat) (w0 : World) (hb0 : w0.heap.size ≤ base)
    (Q : Exit → Act → World → Prop) (hQ : ∀ a' w', Fm 72 a' → sl a' 0 = s0 → sl a' 3 = s3 → QB w' base (sl a' 4) (xs ++ List.replicate z 0) → Fr (fun _ => False) w0 w' → base ≤ w'.heap.size → Q (.exit 0) a' w')
    (a : Act) (w : World) (h : Fm 72 a ∧ sl a 0 = s0 ∧ sl a 3 = s3 ∧ QB w base (sl a 4) xs ∧ Fr (fun _ => False) w0 w ∧ base ≤ w.heap.size) : (Code.loop (bodyN Try.f18 0)).wp Try.prog Q a w := by
  refine wp_loop_up z (fun t a w => Fm 72 a ∧ sl a 0 = s0 ∧ sl a 3 = s3 ∧ QB w base (sl a 4) (xs ++ List.replicate t 0) ∧ Fr (fun _ => False) w0 w ∧ base ≤ w.heap.size) (by rw [List.replicate_zero, List.append_nil]; exact h) ?_
  rintro t a w ht ⟨hF, h0, h3, hq, hf, hb⟩
  have ha := fm72 hF
  have hlen : (xs ++ List.replicate t (0 : Int)).length = xs.length + t := by rw [List.length_append, List.length_replicate]
  by_cases h64 : t = z
  · subst h64
    obtain ⟨A, c, e, hc⟩ := hq.slice
    rw [e] at ha
    rw [ha]
    exact exitZ (sl a) A c _ (by rw [hlen]; exact hz) w _ fun a' b0 b1 b2 b3 => hQ _ _ b0 (b1.trans h0) (b2.trans h3) (by rw [b3, ← e]; exact hq) hf hb
  · rw [ha]
    refine roundZ (sl a) (sl a 4) _ base w0 w hb0 hb (by omega) (by rw [hlen]; omega) hq hf _ ?_
    intro a' w' b0 b1 b2 b3 b4 b5
    refine ⟨by omega, b0, b1.trans h0, b2.trans h3, ?_, b4, b5⟩
    rw [List.append_assoc, show List.replicate t (0 : Int) ++ [0] = List.replicate (t + 1) 0 from (List.replicate_succ' ..).symm] at b3
    exact b3

/-! ### eight bytes -/
def byteAt8 (n : Int) (i : Nat) : Int := n / 2 ^ (8 * i) % 256
theorem be8_at (n : Int) : be8 n = [byteAt8 n 7, byteAt8 n 6, byteAt8 n 5, byteAt8 n 4, byteAt8 n 3, byteAt8 n 2, byteAt8 n 1, byteAt8 n 0] := by
  simp [be8, byteAt8]
set_option maxHeartbeats 8000000 in
set_option maxRecDepth 100000 in
theorem roundL (u : Nat → Value) (g : Nat) (v : Value) (n : Int) (i : Nat) (hi : i = 7 ∨ i = 6 ∨ i = 5 ∨ i = 4 ∨ i = 3 ∨ i = 2 ∨ i = 1 ∨ i = 0) (hn0 : 0 ≤ n) (hn : n < 140737488355328) (xs : List Int) (base : Nat) (w0 w : World) (hcell : w.cell? ⟨g, 9, none⟩ = some (.int .u64 n)) (hb0 : w0.heap.size ≤ base) (hb : base ≤ w.heap.size) (hl : xs.length < 140737488355000) (hq : QB w base v xs) (hf : Fr (fun _ => False) w0 w)
    (Q : Exit → Act → World → Prop) (hQ : ∀ a' w', Fm 72 a' → sl a' 0 = .pointer (some ⟨g, 0, none⟩) → sl a' 3 = u 3 → sl a' 5 = .int .i64 (8 * (i : Int) - 8) → QB w' base (sl a' 4) (xs ++ [byteAt8 (n * 8) i]) → Fr (fun _ => False) w0 w' → base ≤ w'.heap.size → Q .normal a' w') :
    Code.wp Try.prog (bodyN Try.f18 1) Q ⟨#[.pointer (some ⟨g, 0, none⟩), u 1, u 2, u 3, v, .int .i64 (8 * (i : Int)), u 6, u 7, u 8, u 9, u 10, u 11, u 12, u 13, u 14, u 15, u 16, u 17, u 18, u 19, u 20, u 21, u 22, u 23, u 24, u 25, u 26, u 27, u 28, u 29, u 30, u 31, u 32, u 33, u 34, u 35, u 36, u 37, u 38, u 39, u 40, u 41, u 42, u 43, u 44, u 45, u 46, u 47, u 48, u 49, u 50, u 51, u 52, u 53, u 54, u 55, u 56, u 57, u 58, u 59, u 60, u 61, u 62, u 63, u 64, u 65, u 66, u 67, u 68, u 69, u 70, u 71], []⟩ w := by
  have HQ := Aside0.mk hq
  have HF := Aside0.mk hf
  obtain ⟨A, c, rfl, _⟩ := hq.slice
  clear hq hf
  rcases hi with rfl | rfl | rfl | rfl | rfl | rfl | rfl | rfl
  · have hbt : byteAt8 (n * 8) 7 = 8 * n / 72057594037927936 := by simp [byteAt8] <;> omega
    rw [hbt] at hQ
    clear hbt
    conv => arg 2; whnf
    go_wp2_with (first | ((with_reducible refine gate_builtin (b := .append) (xs := #[.tmp 33, .tmp 42]) rfl ?_); at_builtin; refine Aside0.out ?_))
    refine ⟨?_⟩
    refine wpList_appq rfl (by rfl) base _ _ (by rfl) info5 (.slice A xs.length c) xs (by rfl) (HQ.out.fr ((Fr.refl (fun _ => False) w).alloc _) (fun k hk h => h)) _ _ _ [8 * n / 72057594037927936] (by rfl) (by rfl) (Rd.blk (heap_alloc_new _ _)) (by simp only [List.length_cons, List.length_nil]; omega) (by rw [World.size_alloc]; omega) ?_
    intro v1 w1 hq1 hf1 hat1
    have hF1 := (HF.out.alloc (.cells #[Value.int .u8 (8 * n / 72057594037927936)] 5)).trans hf1 (S := fun _ => False) (fun k hk => .inr (by have := HQ.out.base k hk.symm; omega))
    have hs1 := hf1.size
    rw [World.size_alloc] at hs1
    clear hf1 HF HQ hcell
    go_wp2
    exact hQ _ _ ⟨rfl, rfl⟩ rfl rfl rfl hq1 hF1 (by omega)
  · have hbt : byteAt8 (n * 8) 6 = 8 * n / 281474976710656 := by simp [byteAt8] <;> omega
    rw [hbt] at hQ
    clear hbt
    conv => arg 2; whnf
    go_wp2_with (first | ((with_reducible refine gate_builtin (b := .append) (xs := #[.tmp 33, .tmp 42]) rfl ?_); at_builtin; refine Aside0.out ?_))
    refine ⟨?_⟩
    refine wpList_appq rfl (by rfl) base _ _ (by rfl) info5 (.slice A xs.length c) xs (by rfl) (HQ.out.fr ((Fr.refl (fun _ => False) w).alloc _) (fun k hk h => h)) _ _ _ [8 * n / 281474976710656] (by rfl) (by rfl) (Rd.blk (heap_alloc_new _ _)) (by simp only [List.length_cons, List.length_nil]; omega) (by rw [World.size_alloc]; omega) ?_
    intro v1 w1 hq1 hf1 hat1
    have hF1 := (HF.out.alloc (.cells #[Value.int .u8 (8 * n / 281474976710656)] 5)).trans hf1 (S := fun _ => False) (fun k hk => .inr (by have := HQ.out.base k hk.symm; omega))
    have hs1 := hf1.size
    rw [World.size_alloc] at hs1
    clear hf1 HF HQ hcell
    go_wp2
    exact hQ _ _ ⟨rfl, rfl⟩ rfl rfl rfl hq1 hF1 (by omega)
  · have hbt : byteAt8 (n * 8) 5 = 8 * n / 1099511627776 % 256 := by simp [byteAt8] <;> omega
    rw [hbt] at hQ
    clear hbt
    conv => arg 2; whnf
    go_wp2_with (first | ((with_reducible refine gate_builtin (b := .append) (xs := #[.tmp 33, .tmp 42]) rfl ?_); at_builtin; refine Aside0.out ?_))
    refine ⟨?_⟩
    refine wpList_appq rfl (by rfl) base _ _ (by rfl) info5 (.slice A xs.length c) xs (by rfl) (HQ.out.fr ((Fr.refl (fun _ => False) w).alloc _) (fun k hk h => h)) _ _ _ [8 * n / 1099511627776 % 256] (by rfl) (by rfl) (Rd.blk (heap_alloc_new _ _)) (by simp only [List.length_cons, List.length_nil]; omega) (by rw [World.size_alloc]; omega) ?_
    intro v1 w1 hq1 hf1 hat1
    have hF1 := (HF.out.alloc (.cells #[Value.int .u8 (8 * n / 1099511627776 % 256)] 5)).trans hf1 (S := fun _ => False) (fun k hk => .inr (by have := HQ.out.base k hk.symm; omega))
    have hs1 := hf1.size
    rw [World.size_alloc] at hs1
    clear hf1 HF HQ hcell
    go_wp2
    exact hQ _ _ ⟨rfl, rfl⟩ rfl rfl rfl hq1 hF1 (by omega)
  · have hbt : byteAt8 (n * 8) 4 = 8 * n / 4294967296 % 256 := by simp [byteAt8] <;> omega
    rw [hbt] at hQ
    clear hbt
    conv => arg 2; whnf
    go_wp2_with (first | ((with_reducible refine gate_builtin (b := .append) (xs := #[.tmp 33, .tmp 42]) rfl ?_); at_builtin; refine Aside0.out ?_))
    refine ⟨?_⟩
    refine wpList_appq rfl (by rfl) base _ _ (by rfl) info5 (.slice A xs.length c) xs (by rfl) (HQ.out.fr ((Fr.refl (fun _ => False) w).alloc _) (fun k hk h => h)) _ _ _ [8 * n / 4294967296 % 256] (by rfl) (by rfl) (Rd.blk (heap_alloc_new _ _)) (by simp only [List.length_cons, List.length_nil]; omega) (by rw [World.size_alloc]; omega) ?_
    intro v1 w1 hq1 hf1 hat1
    have hF1 := (HF.out.alloc (.cells #[Value.int .u8 (8 * n / 4294967296 % 256)] 5)).trans hf1 (S := fun _ => False) (fun k hk => .inr (by have := HQ.out.base k hk.symm; omega))
    have hs1 := hf1.size
    rw [World.size_alloc] at hs1
    clear hf1 HF HQ hcell
    go_wp2
    exact hQ _ _ ⟨rfl, rfl⟩ rfl rfl rfl hq1 hF1 (by omega)
  · have hbt : byteAt8 (n * 8) 3 = 8 * n / 16777216 % 256 := by simp [byteAt8] <;> omega
    rw [hbt] at hQ
    clear hbt
    conv => arg 2; whnf
    go_wp2_with (first | ((with_reducible refine gate_builtin (b := .append) (xs := #[.tmp 33, .tmp 42]) rfl ?_); at_builtin; refine Aside0.out ?_))
    refine ⟨?_⟩
    refine wpList_appq rfl (by rfl) base _ _ (by rfl) info5 (.slice A xs.length c) xs (by rfl) (HQ.out.fr ((Fr.refl (fun _ => False) w).alloc _) (fun k hk h => h)) _ _ _ [8 * n / 16777216 % 256] (by rfl) (by rfl) (Rd.blk (heap_alloc_new _ _)) (by simp only [List.length_cons, List.length_nil]; omega) (by rw [World.size_alloc]; omega) ?_
    intro v1 w1 hq1 hf1 hat1
    have hF1 := (HF.out.alloc (.cells #[Value.int .u8 (8 * n / 16777216 % 256)] 5)).trans hf1 (S := fun _ => False) (fun k hk => .inr (by have := HQ.out.base k hk.symm; omega))
    have hs1 := hf1.size
    rw [World.size_alloc] at hs1
    clear hf1 HF HQ hcell
    go_wp2
    exact hQ _ _ ⟨rfl, rfl⟩ rfl rfl rfl hq1 hF1 (by omega)
  · have hbt : byteAt8 (n * 8) 2 = 8 * n / 65536 % 256 := by simp [byteAt8] <;> omega
    rw [hbt] at hQ
    clear hbt
    conv => arg 2; whnf
    go_wp2_with (first | ((with_reducible refine gate_builtin (b := .append) (xs := #[.tmp 33, .tmp 42]) rfl ?_); at_builtin; refine Aside0.out ?_))
    refine ⟨?_⟩
    refine wpList_appq rfl (by rfl) base _ _ (by rfl) info5 (.slice A xs.length c) xs (by rfl) (HQ.out.fr ((Fr.refl (fun _ => False) w).alloc _) (fun k hk h => h)) _ _ _ [8 * n / 65536 % 256] (by rfl) (by rfl) (Rd.blk (heap_alloc_new _ _)) (by simp only [List.length_cons, List.length_nil]; omega) (by rw [World.size_alloc]; omega) ?_
    intro v1 w1 hq1 hf1 hat1
    have hF1 := (HF.out.alloc (.cells #[Value.int .u8 (8 * n / 65536 % 256)] 5)).trans hf1 (S := fun _ => False) (fun k hk => .inr (by have := HQ.out.base k hk.symm; omega))
    have hs1 := hf1.size
    rw [World.size_alloc] at hs1
    clear hf1 HF HQ hcell
    go_wp2
    exact hQ _ _ ⟨rfl, rfl⟩ rfl rfl rfl hq1 hF1 (by omega)
  · have hbt : byteAt8 (n * 8) 1 = 8 * n / 256 % 256 := by simp [byteAt8] <;> omega
    rw [hbt] at hQ
    clear hbt
    conv => arg 2; whnf
    go_wp2_with (first | ((with_reducible refine gate_builtin (b := .append) (xs := #[.tmp 33, .tmp 42]) rfl ?_); at_builtin; refine Aside0.out ?_))
    refine ⟨?_⟩
    refine wpList_appq rfl (by rfl) base _ _ (by rfl) info5 (.slice A xs.length c) xs (by rfl) (HQ.out.fr ((Fr.refl (fun _ => False) w).alloc _) (fun k hk h => h)) _ _ _ [8 * n / 256 % 256] (by rfl) (by rfl) (Rd.blk (heap_alloc_new _ _)) (by simp only [List.length_cons, List.length_nil]; omega) (by rw [World.size_alloc]; omega) ?_
    intro v1 w1 hq1 hf1 hat1
    have hF1 := (HF.out.alloc (.cells #[Value.int .u8 (8 * n / 256 % 256)] 5)).trans hf1 (S := fun _ => False) (fun k hk => .inr (by have := HQ.out.base k hk.symm; omega))
    have hs1 := hf1.size
    rw [World.size_alloc] at hs1
    clear hf1 HF HQ hcell
    go_wp2
    exact hQ _ _ ⟨rfl, rfl⟩ rfl rfl rfl hq1 hF1 (by omega)
  · have hbt : byteAt8 (n * 8) 0 = 8 * n % 256 := by simp [byteAt8] <;> omega
    rw [hbt] at hQ
    clear hbt
    conv => arg 2; whnf
    go_wp2_with (first | ((with_reducible refine gate_builtin (b := .append) (xs := #[.tmp 33, .tmp 42]) rfl ?_); at_builtin; refine Aside0.out ?_))
    refine ⟨?_⟩
    refine wpList_appq rfl (by rfl) base _ _ (by rfl) info5 (.slice A xs.length c) xs (by rfl) (HQ.out.fr ((Fr.refl (fun _ => False) w).alloc _) (fun k hk h => h)) _ _ _ [8 * n % 256] (by rfl) (by rfl) (Rd.blk (heap_alloc_new _ _)) (by simp only [List.length_cons, List.length_nil]; omega) (by rw [World.size_alloc]; omega) ?_
    intro v1 w1 hq1 hf1 hat1
    have hF1 := (HF.out.alloc (.cells #[Value.int .u8 (8 * n % 256)] 5)).trans hf1 (S := fun _ => False) (fun k hk => .inr (by have := HQ.out.base k hk.symm; omega))
    have hs1 := hf1.size
    rw [World.size_alloc] at hs1
    clear hf1 HF HQ hcell
    go_wp2
    exact hQ _ _ ⟨rfl, rfl⟩ rfl rfl rfl hq1 hF1 (by omega)
set_option maxHeartbeats 8000000 in
set_option maxRecDepth 100000 in
theorem exitL (u : Nat → Value) (w : World) (Q : Exit → Act → World → Prop) (hQ : ∀ a', Fm 72 a' → sl a' 0 = u 0 → sl a' 3 = u 3 → sl a' 4 = u 4 → Q (.exit 2) a' w) :
    Code.wp Try.prog (bodyN Try.f18 1) Q ⟨#[u 0, u 1, u 2, u 3, u 4, .int .i64 (-8), u 6, u 7, u 8, u 9, u 10, u 11, u 12, u 13, u 14, u 15, u 16, u 17, u 18, u 19, u 20, u 21, u 22, u 23, u 24, u 25, u 26, u 27, u 28, u 29, u 30, u 31, u 32, u 33, u 34, u 35, u 36, u 37, u 38, u 39, u 40, u 41, u 42, u 43, u 44, u 45, u 46, u 47, u 48, u 49, u 50, u 51, u 52, u 53, u 54, u 55, u 56, u 57, u 58, u 59, u 60, u 61, u 62, u 63, u 64, u 65, u 66, u 67, u 68, u 69, u 70, u 71], []⟩ w := by
  conv => arg 2; whnf
  go_wp2
  exact hQ _ ⟨rfl, rfl⟩ rfl rfl rfl
theorem loopL (s3 : Value) (g : Nat) (n : Int) (hn0 : 0 ≤ n) (hn : n < 140737488355328) (xs : List Int) (hl : xs.length < 140737488354500) (base : Nat) (w0 : World) (hcell : w0.cell? ⟨g, 9, none⟩ = some (.int .u64 n)) (hb0 : w0.heap.size ≤ base)
    (Q : Exit → Act → World → Prop) (hQ : ∀ a' w', Fm 72 a' → sl a' 3 = s3 → QB w' base (sl a' 4) (xs ++ be8 (n * 8)) → Fr (fun _ => False) w0 w' → base ≤ w'.heap.size → Q (.exit 2) a' w')
    (a : Act) (w : World) (h : Fm 72 a ∧ sl a 0 = .pointer (some ⟨g, 0, none⟩) ∧ sl a 3 = s3 ∧ sl a 5 = .int .i64 56 ∧ QB w base (sl a 4) xs ∧ Fr (fun _ => False) w0 w ∧ base ≤ w.heap.size) : (Code.loop (bodyN Try.f18 1)).wp Try.prog Q a w := by
  refine wp_loop_up 8 (fun t a w => Fm 72 a ∧ sl a 0 = .pointer (some ⟨g, 0, none⟩) ∧ sl a 3 = s3 ∧ sl a 5 = .int .i64 (56 - 8 * (t : Int)) ∧ QB w base (sl a 4) (xs ++ (be8 (n * 8)).take t) ∧ Fr (fun _ => False) w0 w ∧ base ≤ w.heap.size) (by rw [List.take_zero, List.append_nil]; exact h) ?_
  rintro t a w ht ⟨hF, h0, h3, h5, hq, hf, hb⟩
  have ha := fm72 hF
  by_cases h64 : t = 8
  · subst h64
    rw [h5] at ha
    rw [ha]
    exact exitL (sl a) w _ fun a' b0 b1 b2 b3 => hQ _ _ b0 (b2.trans h3) (by rw [b3]; exact hq) hf hb
  · have e1 : (56 - 8 * (t : Int)) = 8 * ((7 - t : Nat) : Int) := by omega
    rw [h0, h5, e1] at ha
    rw [ha]
    have hx : (xs ++ (be8 (n * 8)).take t) ++ [byteAt8 (n * 8) (7 - t)] = xs ++ (be8 (n * 8)).take (t + 1) := by
      rw [be8_at, List.append_assoc]
      congr 1
      rcases (show t = 0 ∨ t = 1 ∨ t = 2 ∨ t = 3 ∨ t = 4 ∨ t = 5 ∨ t = 6 ∨ t = 7 by omega) with rfl|rfl|rfl|rfl|rfl|rfl|rfl|rfl <;> rfl
    have hlt : (xs ++ (be8 (n * 8)).take t).length < 140737488355000 := by rw [List.length_append, List.length_take, be8]; simp only [List.length_cons, List.length_nil]; omega
    refine roundL (sl a) g (sl a 4) n (7 - t) (by omega) hn0 hn _ base w0 w (hf.cell hcell (fun h => h)) hb0 hb hlt hq hf _ ?_
    intro a' w' b0 b1 b2 b3 b4 b5 b6
    refine ⟨by omega, b0, b1, b2.trans h3, by rw [b3]; congr 1; omega, ?_, b5, b6⟩
    rw [← hx]
    exact b4
end Go.Proofs.Ytgnghgeljlaedaa.Sha
