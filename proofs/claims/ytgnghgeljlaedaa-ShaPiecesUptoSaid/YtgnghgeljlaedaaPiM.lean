/-
  ShaPieces, its walk: however bytes are cut, the hash is the same.
-/
import Derived.Test.YtgnghgeljlaedaaPi
set_option linter.unusedVariables false
set_option linter.unusedSimpArgs false
namespace Go.Proofs.Ytgnghgeljlaedaa.Sha
open Go.RowKit Go.Proofs.YtgnghgeljlaedaaW.PrintWords Go.Proofs.YtgnghgeljlaedaaW.PrintLast Go.Proofs.YtgnghgeljlaedaaW.PrintMore Go.Proofs.Ytgnghgeljlaedaa.Q Go.Proofs.Ytgnghgeljlaedaa.Fr Go.Proofs.Ytgnghgeljlaedaa.Oct

set_option maxHeartbeats 8000000 in
set_option maxRecDepth 100000 in
theorem exitPi (u : Nat → Value) (n : Nat) (w : World) (Q : Exit → Act → World → Prop) (hQ : ∀ a', Fm 79 a' → sl a' 0 = u 0 → sl a' 1 = u 1 → sl a' 5 = u 5 → sl a' 6 = u 6 → sl a' 7 = u 7 → Q (.exit 0) a' w) :
    Code.wp Try.prog (bodyN Try.f5 0) Q ⟨#[u 0, u 1, u 2, u 3, u 4, u 5, u 6, u 7, u 8, u 9, u 10, u 11, u 12, u 13, u 14, u 15, u 16, u 17, u 18, u 19, u 20, u 21, .int .i64 (n : Int), .int .i64 (n : Int), u 24, u 25, u 26, u 27, u 28, u 29, u 30, u 31, u 32, u 33, u 34, u 35, u 36, u 37, u 38, u 39, u 40, u 41, u 42, u 43, u 44, u 45, u 46, u 47, u 48, u 49, u 50, u 51, u 52, u 53, u 54, u 55, u 56, u 57, u 58, u 59, u 60, u 61, u 62, u 63, u 64, u 65, u 66, u 67, u 68, u 69, u 70, u 71, u 72, u 73, u 74, u 75, u 76, u 77, u 78], []⟩ w := by
  have c0 : decide ((n : Int) < (n : Int)) = false := by simp
  have HQ := Aside0.mk hQ
  clear hQ
  conv => arg 2; whnf
  go_wp2
  exact HQ.out _ ⟨rfl, rfl⟩ rfl rfl rfl rfl rfl
theorem flat_le (L : List (List Int)) (t : Nat) : (L.take t).flatten.length ≤ L.flatten.length := by
  conv => rhs; rw [← List.take_append_drop t L, List.flatten_append, List.length_append]
  omega
theorem loopPi (s1 : Value) (A : Option Addr) (c : Nat) (L : List (List Int)) (hL : L.length ≤ 4611686018427387904) (hs : L.flatten.length ≤ 2097152) (w : World) (hC : CC w A L) (gh gg : Nat)
    (Q : Exit → Act → World → Prop) (hQ : ∀ a' W rh vall, Fm 79 a' → sl a' 0 = .slice A L.length c → sl a' 1 = s1 → sl a' 5 = .pointer (some ⟨gh, 0, none⟩) → sl a' 6 = .pointer (some ⟨gg, 0, none⟩) → sl a' 7 = vall → Pc w W gh gg rh vall L.flatten → Q (.exit 0) a' W)
    (a : Act) (W : World) (rh vall : Value) (h : Fm 79 a ∧ sl a 0 = .slice A L.length c ∧ sl a 1 = s1 ∧ sl a 5 = .pointer (some ⟨gh, 0, none⟩) ∧ sl a 6 = .pointer (some ⟨gg, 0, none⟩) ∧ sl a 7 = vall ∧ sl a 21 = .slice A L.length c ∧ sl a 22 = .int .i64 (L.length : Int) ∧ sl a 23 = .int .i64 0 ∧ Pc w W gh gg rh vall []) : (Code.loop (bodyN Try.f5 0)).wp Try.prog Q a W := by
  refine wp_loop_up L.length (fun t a W => Fm 79 a ∧ sl a 0 = .slice A L.length c ∧ sl a 1 = s1 ∧ sl a 5 = .pointer (some ⟨gh, 0, none⟩) ∧ sl a 6 = .pointer (some ⟨gg, 0, none⟩) ∧ sl a 21 = .slice A L.length c ∧ sl a 22 = .int .i64 (L.length : Int) ∧ sl a 23 = .int .i64 (t : Int) ∧ ∃ rh vall, sl a 7 = vall ∧ Pc w W gh gg rh vall (L.take t).flatten) ?_ ?_
  · obtain ⟨h0, h1, h2, h3, h4, h5, h6, h7, h8, h9⟩ := h
    exact ⟨h0, h1, h2, h3, h4, h6, h7, h8, rh, vall, h5, h9⟩
  rintro t a W ht ⟨hF, h0, h1, h5, h6, h21, h22, h23, rh, vall, h7, hP⟩
  have ha := fm79 hF
  by_cases h64 : t = L.length
  · subst h64
    rw [h22, h23] at ha
    rw [ha]
    rw [List.take_length] at hP
    exact exitPi (sl a) _ W _ fun a' b0 b1 b2 b3 b4 b5 => hQ _ _ rh vall b0 (b1.trans h0) (b2.trans h1) (b3.trans h5) (b4.trans h6) (b5.trans h7) hP
  · rw [h0, h5, h7, h21, h22, h23] at ha
    rw [ha]
    have hlt : t < L.length := by omega
    have hf := flat_le L (t + 1)
    rw [take_flat L t hlt, List.length_append] at hf
    have next : ∀ a' W' rh' vall', Fm 79 a' → sl a' 0 = .slice A L.length c → sl a' 1 = sl a 1 → sl a' 5 = .pointer (some ⟨gh, 0, none⟩) → sl a' 6 = sl a 6 → sl a' 7 = vall' → sl a' 21 = .slice A L.length c → sl a' 22 = .int .i64 (L.length : Int) → sl a' 23 = .int .i64 ((t : Int) + 1) → Pc w W' gh gg rh' vall' ((L.take t).flatten ++ L.getD t []) →
        (Exit.then (fun a' W' => t < L.length ∧ Fm 79 a' ∧ sl a' 0 = .slice A L.length c ∧ sl a' 1 = s1 ∧ sl a' 5 = .pointer (some ⟨gh, 0, none⟩) ∧ sl a' 6 = .pointer (some ⟨gg, 0, none⟩) ∧ sl a' 21 = .slice A L.length c ∧ sl a' 22 = .int .i64 (L.length : Int) ∧ sl a' 23 = .int .i64 ((t + 1 : Nat) : Int) ∧ ∃ rh vall, sl a' 7 = vall ∧ Pc w W' gh gg rh vall (L.take (t + 1)).flatten) Q) .normal a' W' := by
      intro a' W' rh' vall' f0 f1 f2 f3 f4 f5 f6 f7 f8 f9
      exact ⟨hlt, f0, f1, f2.trans h1, f3, f4.trans h6, f6, f7, by rw [f8]; congr 1, rh', vall', f5, by rw [take_flat L t hlt]; exact f9⟩
    by_cases hn : L.length < 50
    · exact roundPY (sl a) A c L t hlt hn hL w W hC gh gg rh vall _ (by omega) hP _ next
    · exact roundPZ (sl a) A c L t hlt hn hL w W hC gh gg rh vall _ (by omega) hP _ next
set_option maxHeartbeats 8000000 in
set_option maxRecDepth 100000 in
theorem pieces_calls (A : Option Addr) (c : Nat) (L : List (List Int)) (Am : Option Addr) (cm : Nat) (m : List Int) (w : World) (hC : CC w A L) (hc : L.length ≤ c) (hM : Rd w Am m) (hcm : m.length ≤ cm) (hs : szL L + m.length ≤ 1048576) :
    Calls Try.prog 5 #[.slice A L.length c, .slice Am m.length cm] w fun e w' => e = .returned (.bool true) ∧ Below w.heap.size w w' := by
  have hfl : L.flatten.length ≤ szL L := by
    clear hC hc hs
    induction L with
    | nil => simp
    | cons p L ih => rw [szL_cons, List.flatten_cons, List.length_append]; omega
  have hLl := szL_len L
  have HC := Aside0.mk (And.intro hC (And.intro hM (And.intro hs (And.intro hfl hLl))))
  clear hC hM hs hfl hLl
  go_enter Try.func5, Try.ntmps5
  go_wp2_with (fail)
  refine (alive_calls w).mono ?_
  rintro e w1 ⟨rfl, hb1⟩
  go_wp2_with (fail)
  refine (new_holds w1).mono ?_
  rintro e w2 ⟨gh, rfl, hh2, hb2⟩
  go_wp2_with (fail)
  refine (new_holds w2).mono ?_
  rintro e w3 ⟨gg, rfl, hg3, hb3⟩
  have s1 := hb1.size
  have s2 := hb2.size
  have F3 := ((Fr.of_below hb1 (fun _ => False)).trans (Fr.of_below hb2 (fun _ => False)) (fun i h => h.elim)).trans (Fr.of_below hb3 (fun _ => False)) (fun i h => h.elim)
  have hs3 : St w w3 gh gg (.slice none 0 0) (.slice none 0 0) [] [] := ⟨F3, (hh2.fr (Fr.of_below hb3 (fun _ => False)) (fun k _ h => h)).lower s1, hg3.lower (by omega), fun k hk hk2 => by have := hh2.lt k hk; have := hg3.base k hk2; omega⟩
  have H3 := Aside0.mk hs3
  clear hh2 hg3 F3 hb1 hb2 hb3 hs3 s1 s2
  go_wp2_with (first | ((with_reducible refine gate_dst (N := 20) rfl ?_); refine wpList_lit0 (by rfl) (by first | (go_simp; done) | (go_simp; rfl)) ?_; intro v4 w4 hO4 hb4))
  have z3 := H3.out.F.size
  have hP4 : Pc w w4 gh gg (.slice none 0 0) v4 [] := ⟨H3.out.below hb4, hO4.lower z3, fun k hk => ⟨fun h => by have := hO4.base k hk; have := H3.out.hh.lt _ h; omega, fun h => by have := hO4.base k hk; have := H3.out.hg.lt _ h; omega⟩⟩
  have H4 := Aside0.mk hP4
  clear H3 hO4 hb4 hP4 z3
  go_wp2
  refine loopPi (.slice Am m.length cm) A c L (by have := HC.out; omega) (by have := HC.out; omega) w HC.out.1 gh gg _ ?_ _ w4 (.slice none 0 0) v4 ⟨⟨rfl, rfl⟩, rfl, rfl, rfl, rfl, rfl, rfl, rfl, rfl, H4.out⟩
  clear H4
  intro a' w5 rh vall hF j0 j1 j5 j6 j7 hP
  rw [fm79 hF, j0, j1, j5, j6, j7]
  have H5 := Aside0.mk hP
  clear hF j0 j1 j5 j6 j7 hP
  go_wp2_with (fail)
  refine (copy_own L A c w5 (HC.out.1.fr H5.out.st.F) hc (by have := HC.out; omega)).mono ?_
  rintro e w6 ⟨v6, us, rfl, ho6, hV6, hel6, hb6⟩
  have f6 := Fr.of_below hb6 (fun _ => False)
  have hg6 := H5.out.st.hg
  obtain ⟨A6, c6, rfl, hp6⟩ := Parts.own (S := Fp gg (.slice none 0 0)) hV6 ho6 (fun k hk h => by have := (q_typed (q_of_own ho6) k hk).1; have := hg6.lt _ h; omega) (fun u hu k hk h => by have := hel6 u hu k hk; have := hg6.lt _ h; omega)
  have s6 := H5.out.st.fr f6 (fun k hk => hk.elim)
  have lt5 : ∀ k, vall.ownBlock = some k → k < w5.heap.size := fun k hk => q_lt (q_of_own H5.out.row) k hk
  have H6 := Aside0.mk (And.intro s6 (And.intro hp6 (And.intro (H5.out.row.fr f6 (fun _ _ h => h)) (And.intro H5.out.far (And.intro lt5 hb6.size)))))
  clear H5 ho6 hV6 hel6 hb6 f6 hg6 hp6 s6 lt5
  go_wp2_with (fail)
  have hwr := write_holds gg w.heap.size (.slice none 0 0) [] A6 c6 L (by have := HC.out; omega) (fun p hp => by have := szL_mem hp; have := HC.out; omega) w6 H6.out.1.hg H6.out.1.F.size H6.out.2.1 (by rw [List.nil_append]; have := HC.out; omega)
  rw [List.nil_append] at hwr
  refine hwr.mono ?_
  clear hwr
  rintro e w7 ⟨rfl, hf7, rg, hg7, hn7⟩
  have s7 := H6.out.1.write_g hf7 hg7 hn7
  have far7 : ∀ k, vall.ownBlock = some k → ¬ Fp gh rh k ∧ ¬ Fp gg rg k := fun k hk => ⟨(H6.out.2.2.2.1 k hk).1, fun h => (hn7 k h).elim (H6.out.2.2.2.1 k hk).2 (fun h => by have := H6.out.2.2.2.2.1 k hk; have := H6.out.2.2.2.2.2; omega)⟩
  have H7 := Aside0.mk (And.intro s7 (And.intro (H6.out.2.2.1.fr hf7 (fun k hk h => (H6.out.2.2.2.1 k hk).2 h)) far7))
  clear H6 hf7 hg7 hn7 s7 far7
  go_wp2_with (first | ((with_reducible refine gate_dst (N := 53) rfl ?_); refine wpList_copyb rfl (by rfl) (fun _ => by rfl) (fun _ _ => by rfl) (by first | (go_simp; done) | (go_simp; rfl)) _ (by rfl) Am m.length cm m (fun _ => rfl) rfl (HC.out.2.1.fr H7.out.1.F (fun _ _ h => h)) _ _ (by rfl) (fun _ _ => rfl) (fun _ _ => rfl) (by have := HC.out; omega) ?_; intro u8 v8 w8 hO8 hb8; obtain ⟨A8, c8, rfl, hc8⟩ := hO8.slice))
  have hg9 := heap_alloc_new w8 (.cells #[.slice A8 m.length c8, .slice none 0 0] 23)
  have hb9 := below_alloc (Below.refl w8.heap.size w8) (.cells #[.slice A8 m.length c8, .slice none 0 0] 23)
  generalize w8.alloc (.cells #[.slice A8 m.length c8, .slice none 0 0] 23) = w9 at *
  have f8 := Fr.of_below hb8 (fun _ => False)
  have f9 := Fr.of_below hb9 (fun _ => False)
  have f89 := f8.trans f9 (fun _ h => h.elim)
  have s9 := H7.out.1.fr f89 (fun k hk => hk.elim)
  have z8 := hb8.size
  have z9 := hb9.size
  have hml : m.length ≤ 1048576 := by have := HC.out; omega
  have hp9 : Parts w9 (some ⟨w8.heap.size, 0, none⟩) [m, []] (Fp gh rh) := Parts.blk (Vals.cons rfl hc8 (by omega) ((QB.rd (q_of_own hO8)).fr f9 (fun _ _ h => h)) (Vals.cons (l := []) rfl (Nat.le_refl _) (by decide) (Rd.nil _ _) (Vals.nil _))) hg9 (fun h => by have := H7.out.1.hh.lt _ h; omega) (fun A n c hm ad e h => by
    subst e
    simp only [List.mem_cons, List.not_mem_nil, or_false] at hm
    rcases hm with hm | hm
    · injection hm with hm1 hm2 hm3
      have h1 := H7.out.1.hh.lt _ h
      have h2 := hO8.base ad.block (by rw [← hm1]; rfl)
      omega
    · injection hm with hm1 hm2 hm3
      cases hm1)
  have lt7 : ∀ k, vall.ownBlock = some k → k < w9.heap.size := fun k hk => by have := q_lt (q_of_own H7.out.2.1) k hk; omega
  have H9 := Aside0.mk (And.intro s9 (And.intro hp9 (And.intro (H7.out.2.1.fr f89 (fun _ _ h => h)) (And.intro H7.out.2.2 (And.intro lt7 hml)))))
  clear H7 hO8 hb8 hg9 hb9 f8 f9 f89 s9 z8 z9 hp9 lt7 hml hc8
  have hwr := write_holds gh w.heap.size rh L.flatten (some ⟨w8.heap.size, 0, none⟩) 2 [m, []] (by simp) (fun p hp => by
    simp only [List.mem_cons, List.not_mem_nil, or_false] at hp
    rcases hp with rfl | rfl
    · have := H9.out; omega
    · simp) w9 H9.out.1.hh H9.out.1.F.size H9.out.2.1 (by simp only [List.flatten_cons, List.flatten_nil, List.append_nil, List.length_append]; have := HC.out; omega)
  rw [show L.flatten ++ [m, []].flatten = L.flatten ++ m by simp] at hwr
  refine hwr.mono ?_
  clear hwr
  rintro e w10 ⟨rfl, hf10, rh10, hh10, hn10⟩
  have s10 := H9.out.1.write_h hf10 hh10 hn10
  have far10 : ∀ k, vall.ownBlock = some k → ¬ Fp gh rh10 k ∧ ¬ Fp gg rg k := fun k hk => ⟨fun h => (hn10 k h).elim (H9.out.2.2.2.1 k hk).1 (fun h => by have := H9.out.2.2.2.2.1 k hk; omega), (H9.out.2.2.2.1 k hk).2⟩
  have H10 := Aside0.mk (And.intro s10 (And.intro (H9.out.2.2.1.fr hf10 (fun k hk h => (H9.out.2.2.2.1 k hk).1 h)) far10))
  clear H9 hf10 hh10 hn10 s10 far10
  go_wp2_with (first | ((with_reducible refine gate_dst (N := 59) rfl ?_); refine wpList_copyb rfl (by rfl) (fun _ => by rfl) (fun _ _ => by rfl) (by first | (go_simp; done) | (go_simp; rfl)) _ (by rfl) Am m.length cm m (fun _ => rfl) rfl (HC.out.2.1.fr H10.out.1.F (fun _ _ h => h)) _ _ (by rfl) (fun _ _ => rfl) (fun _ _ => rfl) (by have := HC.out; omega) ?_; intro u11 v11 w11 hO11 hb11; obtain ⟨A11, c11, rfl, hc11⟩ := hO11.slice))
  have hg12 := heap_alloc_new w11 (.cells #[.slice none 0 0, .slice A11 m.length c11] 23)
  have hb12 := below_alloc (Below.refl w11.heap.size w11) (.cells #[.slice none 0 0, .slice A11 m.length c11] 23)
  generalize w11.alloc (.cells #[.slice none 0 0, .slice A11 m.length c11] 23) = w12 at *
  have f11 := Fr.of_below hb11 (fun _ => False)
  have f12 := Fr.of_below hb12 (fun _ => False)
  have f1112 := f11.trans f12 (fun _ h => h.elim)
  have s12 := H10.out.1.fr f1112 (fun k hk => hk.elim)
  have z11 := hb11.size
  have z12 := hb12.size
  have hml : m.length ≤ 1048576 := by have := HC.out; omega
  have hp12 : Parts w12 (some ⟨w11.heap.size, 0, none⟩) [[], m] (Fp gg rg) := Parts.blk (Vals.cons (l := []) rfl (Nat.le_refl _) (by decide) (Rd.nil _ _) (Vals.cons rfl hc11 (by omega) ((QB.rd (q_of_own hO11)).fr f12 (fun _ _ h => h)) (Vals.nil _))) hg12 (fun h => by have := H10.out.1.hg.lt _ h; omega) (fun A n c hm ad e h => by
    subst e
    simp only [List.mem_cons, List.not_mem_nil, or_false] at hm
    rcases hm with hm | hm
    · injection hm with hm1 hm2 hm3
      cases hm1
    · injection hm with hm1 hm2 hm3
      have h1 := H10.out.1.hg.lt _ h
      have h2 := hO11.base ad.block (by rw [← hm1]; rfl)
      omega)
  have lt10 : ∀ k, vall.ownBlock = some k → k < w12.heap.size := fun k hk => by have := q_lt (q_of_own H10.out.2.1) k hk; omega
  have H12 := Aside0.mk (And.intro s12 (And.intro hp12 (And.intro (H10.out.2.1.fr f1112 (fun _ _ h => h)) (And.intro H10.out.2.2 (And.intro lt10 hml)))))
  clear H10 hO11 hb11 hg12 hb12 f11 f12 f1112 s12 z11 z12 hp12 lt10 hml hc11
  have hwr := write_holds gg w.heap.size rg L.flatten (some ⟨w11.heap.size, 0, none⟩) 2 [[], m] (by simp) (fun p hp => by
    simp only [List.mem_cons, List.not_mem_nil, or_false] at hp
    rcases hp with rfl | rfl
    · simp
    · have := H12.out; omega) w12 H12.out.1.hg H12.out.1.F.size H12.out.2.1 (by simp only [List.flatten_cons, List.flatten_nil, List.append_nil, List.nil_append, List.length_append]; have := HC.out; omega)
  rw [show L.flatten ++ [[], m].flatten = L.flatten ++ m by simp] at hwr
  refine hwr.mono ?_
  clear hwr
  rintro e w13 ⟨rfl, hf13, rg13, hg13, hn13⟩
  have s13 := H12.out.1.write_g hf13 hg13 hn13
  have far13 : ∀ k, vall.ownBlock = some k → ¬ Fp gh rh10 k ∧ ¬ Fp gg rg13 k := fun k hk => ⟨(H12.out.2.2.2.1 k hk).1, fun h => (hn13 k h).elim (H12.out.2.2.2.1 k hk).2 (fun h => by have := H12.out.2.2.2.2.1 k hk; omega)⟩
  have H13 := Aside0.mk (And.intro s13 (And.intro (H12.out.2.2.1.fr hf13 (fun k hk h => (H12.out.2.2.2.1 k hk).2 h)) far13))
  clear H12 hf13 hg13 hn13 s13 far13
  go_wp2_with (first | ((with_reducible refine gate_builtin (b := .append) (xs := #[.tmp 64, .tmp 65]) rfl ?_); at_builtin; refine Aside0.out ?_))
  refine ⟨?_⟩
  refine wpList_appe rfl (by rfl) w.heap.size _ _ (by rfl) infoB vall L.flatten (by rfl) H13.out.2.1 Am m.length cm m (by rfl) rfl (HC.out.2.1.fr H13.out.1.F (fun _ _ h => h)) (by have := HC.out; omega) H13.out.1.F.size ?_
  intro v14 w14 hO14 hf14 hat14
  obtain ⟨B, hB⟩ : ∃ B, L.flatten ++ m = B := ⟨_, rfl⟩
  have hBl : B.length ≤ 4194304 := by rw [← hB, List.length_append]; have := HC.out; omega
  have s14 := H13.out.1.fr hf14 (fun k hk => ⟨H13.out.2.1.base k hk.symm, (H13.out.2.2 k hk.symm).1, (H13.out.2.2 k hk.symm).2⟩)
  rw [hB] at hO14 s14
  obtain ⟨A14, c14, rfl, hc14⟩ := hO14.slice
  have H14 := Aside0.mk (And.intro s14 (And.intro (QB.rd (q_of_own hO14)) hBl))
  clear H13 hO14 hf14 hat14 s14 hB hBl
  go_wp2_with (fail)
  refine (sum_holds gh w.heap.size rh10 B w14 H14.out.1.hh).mono ?_
  rintro e w15 ⟨v15, rfl, hO15, hb15⟩
  obtain ⟨A15, c15, rfl, hc15⟩ := hO15.slice
  have f15 := Fr.of_below hb15 (fun _ => False)
  have H15 := Aside0.mk (And.intro (H14.out.1.fr f15 (fun k hk => hk.elim)) (And.intro (H14.out.2.1.fr f15 (fun _ _ h => h)) (And.intro H14.out.2.2 (QB.rd (q_of_own hO15)))))
  clear H14 hO15 hb15 f15
  go_wp2_with (fail)
  refine (ssum_calls A14 c14 B w15 H15.out.2.1 hc14 (by have := H15.out.2.2.1; omega)).mono ?_
  rintro e w16 ⟨v16, rfl, hO16, hb16⟩
  obtain ⟨A16, c16, rfl, hc16⟩ := hO16.slice
  have f16 := Fr.of_below hb16 (fun _ => False)
  have H16 := Aside0.mk (And.intro (H15.out.1.fr f16 (fun k hk => hk.elim)) (And.intro (H15.out.2.1.fr f16 (fun _ _ h => h)) (And.intro H15.out.2.2.1 (And.intro (H15.out.2.2.2.fr f16 (fun _ _ h => h)) (QB.rd (q_of_own hO16))))))
  clear H15 hO16 hb16 f16
  go_wp2_with (fail)
  refine (same_calls (sha B) A15 c15 A16 c16 w16 H16.out.2.2.2.1 hc15 H16.out.2.2.2.2 hc16 (by rw [sha_len]; decide)).mono ?_
  rintro e w17 ⟨rfl, hb17⟩
  have f17 := Fr.of_below hb17 (fun _ => False)
  have H17 := Aside0.mk (And.intro (H16.out.1.fr f17 (fun k hk => hk.elim)) (And.intro (H16.out.2.1.fr f17 (fun _ _ h => h)) H16.out.2.2.1))
  clear H16 hb17 f17 hc15 hc16
  go_wp2_with (fail)
  refine (sum_holds gg w.heap.size rg13 B w17 H17.out.1.hg).mono ?_
  rintro e w18 ⟨v18, rfl, hO18, hb18⟩
  obtain ⟨A18, c18, rfl, hc18⟩ := hO18.slice
  have f18 := Fr.of_below hb18 (fun _ => False)
  have H18 := Aside0.mk (And.intro (H17.out.1.fr f18 (fun k hk => hk.elim)) (And.intro (H17.out.2.1.fr f18 (fun _ _ h => h)) (And.intro H17.out.2.2 (QB.rd (q_of_own hO18)))))
  clear H17 hO18 hb18 f18
  go_wp2_with (fail)
  refine (ssum_calls A14 c14 B w18 H18.out.2.1 hc14 (by have := H18.out.2.2.1; omega)).mono ?_
  rintro e w19 ⟨v19, rfl, hO19, hb19⟩
  obtain ⟨A19, c19, rfl, hc19⟩ := hO19.slice
  have f19 := Fr.of_below hb19 (fun _ => False)
  have H19 := Aside0.mk (And.intro (H18.out.1.fr f19 (fun k hk => hk.elim)) (And.intro (H18.out.2.2.2.fr f19 (fun _ _ h => h)) (QB.rd (q_of_own hO19))))
  clear H18 hO19 hb19 f19
  go_wp2_with (fail)
  refine (same_calls (sha B) A18 c18 A19 c19 w19 H19.out.2.1 hc18 H19.out.2.2 hc19 (by rw [sha_len]; decide)).mono ?_
  rintro e w20 ⟨rfl, hb20⟩
  have H20 := Aside0.mk (H19.out.1.fr (Fr.of_below hb20 (fun _ => False)) (fun k hk => hk.elim))
  clear H19 hb20
  go_wp2
  go_ret
  exact ⟨by first | rfl | simp, H20.out.F.below _ (Nat.le_refl _) (fun i h => h.elim)⟩
theorem pieces_row (A0 : Option Addr) (c0 : Nat) (l0 : List (List Int)) (A1 : Option Addr) (c1 : Nat) (l1 : List Int) (w : World) (hC0 : CC w A0 l0) (hl0 : l0.length ≤ c0) (hC1 : Kd.C (Kd.int .u8) w A1 l1.length l1) (hl1 : l1.length ≤ c1) (_ : ∀ x ∈ l0, Bys x) (_ : Bys l1) (hs : (l0.map fun x => x.length + 1).sum + l1.length ≤ 1048576) :
    Calls Try.prog 5 #[.slice A0 l0.length c0, .slice A1 l1.length c1] w fun e w' => e = .returned (.bool true) ∧ Below w.heap.size w w' :=
  pieces_calls A0 c0 l0 A1 c1 l1 w hC0 hl0 (Rd.of_C hC1) hl1 hs
end Go.Proofs.Ytgnghgeljlaedaa.Sha
