/-
  The document's hash: the words written out.
-/
import Derived.Test.YtgnghgeljlaedaaShaL
set_option linter.unusedVariables false
set_option linter.unusedSimpArgs false
namespace Go.Proofs.Ytgnghgeljlaedaa.Sha
open Go.RowKit Go.Proofs.YtgnghgeljlaedaaW.PrintWords Go.Proofs.YtgnghgeljlaedaaW.PrintLast Go.Proofs.YtgnghgeljlaedaaW.PrintMore Go.Proofs.Ytgnghgeljlaedaa.Q Go.Proofs.Ytgnghgeljlaedaa.Fr Go.Proofs.Ytgnghgeljlaedaa.Oct

noncomputable def bodyIn (f : Func) (n m : Nat) : Code := ((loopsIn (bodyN f n))[m]?).getD .skip
/-- The byte of a word from 8 i on. -/
def byteAt (x : Int) (i : Nat) : Int := x / 2 ^ (8 * i) % 256
theorem bytes4_at (x : Int) : bytes4 x = [byteAt x 3, byteAt x 2, byteAt x 1, byteAt x 0] := by
  simp [bytes4, byteAt]
set_option maxHeartbeats 8000000 in
set_option maxRecDepth 100000 in
theorem roundP (u : Nat → Value) (v : Value) (x : Int) (i : Nat) (hi : i = 3 ∨ i = 2 ∨ i = 1 ∨ i = 0) (xs : List Int) (base : Nat) (w0 w : World) (hb0 : w0.heap.size ≤ base) (hb : base ≤ w.heap.size) (hl : xs.length < 1000) (hq : OB w base v xs) (hf : Fr (fun _ => False) w0 w)
    (Q : Exit → Act → World → Prop) (hQ : ∀ a' w' v', Fm 46 a' → sl a' 6 = v' → sl a' 8 = .int .u32 x → sl a' 9 = .int .i64 ((i : Int) - 1) → sl a' 27 = u 27 → sl a' 28 = u 28 → OB w' base v' (xs ++ [byteAt x i]) → Fr (fun _ => False) w0 w' → base ≤ w'.heap.size → Q .normal a' w') :
    Code.wp Try.prog (bodyIn Try.f15 1 0) Q ⟨#[u 0, u 1, u 2, u 3, u 4, u 5, v, u 7, .int .u32 x, .int .i64 (i : Int), u 10, u 11, u 12, u 13, u 14, u 15, u 16, u 17, u 18, u 19, u 20, u 21, u 22, u 23, u 24, u 25, u 26, u 27, u 28, u 29, u 30, u 31, u 32, u 33, u 34, u 35, u 36, u 37, u 38, u 39, u 40, u 41, u 42, u 43, u 44, u 45], []⟩ w := by
  have HQ := Aside0.mk hq
  have HF := Aside0.mk hf
  obtain ⟨A, c, rfl, _⟩ := hq.slice
  clear hq hf
  rcases hi with rfl | rfl | rfl | rfl
  · have hbt : byteAt x 3 = x / 16777216 % 256 := by simp [byteAt]
    rw [hbt] at hQ
    conv => arg 2; whnf
    go_wp2_with (first | ((with_reducible refine gate_builtin (b := .append) (xs := #[.tmp 35, .tmp 42]) rfl ?_); at_builtin; refine Aside0.out ?_))
    refine ⟨?_⟩
    refine wpList_appo rfl (by rfl) base _ _ (by rfl) info5 (.slice A xs.length c) xs (by rfl) (HQ.out.fr ((Fr.refl (fun _ => False) w).alloc _) (fun k hk h => h)) _ _ _ [x / 16777216 % 256] (by rfl) (by rfl) (Rd.blk (heap_alloc_new _ _)) (by simp) (by simp only [List.length_cons, List.length_nil]; omega) (by rw [World.size_alloc]; omega) ?_
    intro v1 w1 hq1 hf1 hat1
    have hF1 := (HF.out.alloc (.cells #[Value.int .u8 (x / 16777216 % 256)] 5)).trans hf1 (S := fun _ => False) (fun k hk => .inr (by have := HQ.out.base k hk.symm; omega))
    have hs1 := hf1.size
    rw [World.size_alloc] at hs1
    clear hf1 HF HQ
    go_wp2
    exact hQ _ _ _ ⟨rfl, rfl⟩ rfl rfl rfl rfl rfl hq1 hF1 (by omega)
  · have hbt : byteAt x 2 = x / 65536 % 256 := by simp [byteAt]
    rw [hbt] at hQ
    conv => arg 2; whnf
    go_wp2_with (first | ((with_reducible refine gate_builtin (b := .append) (xs := #[.tmp 35, .tmp 42]) rfl ?_); at_builtin; refine Aside0.out ?_))
    refine ⟨?_⟩
    refine wpList_appo rfl (by rfl) base _ _ (by rfl) info5 (.slice A xs.length c) xs (by rfl) (HQ.out.fr ((Fr.refl (fun _ => False) w).alloc _) (fun k hk h => h)) _ _ _ [x / 65536 % 256] (by rfl) (by rfl) (Rd.blk (heap_alloc_new _ _)) (by simp) (by simp only [List.length_cons, List.length_nil]; omega) (by rw [World.size_alloc]; omega) ?_
    intro v1 w1 hq1 hf1 hat1
    have hF1 := (HF.out.alloc (.cells #[Value.int .u8 (x / 65536 % 256)] 5)).trans hf1 (S := fun _ => False) (fun k hk => .inr (by have := HQ.out.base k hk.symm; omega))
    have hs1 := hf1.size
    rw [World.size_alloc] at hs1
    clear hf1 HF HQ
    go_wp2
    exact hQ _ _ _ ⟨rfl, rfl⟩ rfl rfl rfl rfl rfl hq1 hF1 (by omega)
  · have hbt : byteAt x 1 = x / 256 % 256 := by simp [byteAt]
    rw [hbt] at hQ
    conv => arg 2; whnf
    go_wp2_with (first | ((with_reducible refine gate_builtin (b := .append) (xs := #[.tmp 35, .tmp 42]) rfl ?_); at_builtin; refine Aside0.out ?_))
    refine ⟨?_⟩
    refine wpList_appo rfl (by rfl) base _ _ (by rfl) info5 (.slice A xs.length c) xs (by rfl) (HQ.out.fr ((Fr.refl (fun _ => False) w).alloc _) (fun k hk h => h)) _ _ _ [x / 256 % 256] (by rfl) (by rfl) (Rd.blk (heap_alloc_new _ _)) (by simp) (by simp only [List.length_cons, List.length_nil]; omega) (by rw [World.size_alloc]; omega) ?_
    intro v1 w1 hq1 hf1 hat1
    have hF1 := (HF.out.alloc (.cells #[Value.int .u8 (x / 256 % 256)] 5)).trans hf1 (S := fun _ => False) (fun k hk => .inr (by have := HQ.out.base k hk.symm; omega))
    have hs1 := hf1.size
    rw [World.size_alloc] at hs1
    clear hf1 HF HQ
    go_wp2
    exact hQ _ _ _ ⟨rfl, rfl⟩ rfl rfl rfl rfl rfl hq1 hF1 (by omega)
  · have hbt : byteAt x 0 = x % 256 := by simp [byteAt]
    rw [hbt] at hQ
    conv => arg 2; whnf
    go_wp2_with (first | ((with_reducible refine gate_builtin (b := .append) (xs := #[.tmp 35, .tmp 42]) rfl ?_); at_builtin; refine Aside0.out ?_))
    refine ⟨?_⟩
    refine wpList_appo rfl (by rfl) base _ _ (by rfl) info5 (.slice A xs.length c) xs (by rfl) (HQ.out.fr ((Fr.refl (fun _ => False) w).alloc _) (fun k hk h => h)) _ _ _ [x % 256] (by rfl) (by rfl) (Rd.blk (heap_alloc_new _ _)) (by simp) (by simp only [List.length_cons, List.length_nil]; omega) (by rw [World.size_alloc]; omega) ?_
    intro v1 w1 hq1 hf1 hat1
    have hF1 := (HF.out.alloc (.cells #[Value.int .u8 (x % 256)] 5)).trans hf1 (S := fun _ => False) (fun k hk => .inr (by have := HQ.out.base k hk.symm; omega))
    have hs1 := hf1.size
    rw [World.size_alloc] at hs1
    clear hf1 HF HQ
    go_wp2
    exact hQ _ _ _ ⟨rfl, rfl⟩ rfl rfl rfl rfl rfl hq1 hF1 (by omega)
end Go.Proofs.Ytgnghgeljlaedaa.Sha
