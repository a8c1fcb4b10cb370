/-
  DiskTears, its walk: what was written stays.
-/
import Derived.Test.YtgcajmkbdhjooaaDiskT
set_option linter.unusedVariables false
set_option linter.unusedSimpArgs false
namespace Go.Proofs.Ytgcajmkbdhjooaa.Sha
open Go.RowKit Go.Proofs.YtgcajmkbdhjooaaW.PrintWords Go.Proofs.YtgcajmkbdhjooaaW.PrintLast Go.Proofs.YtgcajmkbdhjooaaW.PrintMore Go.Proofs.Ytgcajmkbdhjooaa.Q Go.Proofs.Ytgcajmkbdhjooaa.Fr Go.Proofs.Ytgcajmkbdhjooaa.Oct

theorem Rd.take {w : World} {A : Option Addr} {ys : List Int} (h : Rd w A ys) (m : Nat) : Rd w A (ys.take m) := fun j u hu => h j u (by
  simp only [encs, List.getElem?_map, List.getElem?_take] at hu ⊢
  split at hu
  · exact hu
  · simp at hu)
set_option maxHeartbeats 8000000 in
set_option maxRecDepth 100000 in
theorem tears_calls (A : Option Addr) (c : Nat) (L : List (List Int)) (at_ tear : Int) (w : World) (hC : CC w A L) (hc : L.length ≤ c) (hL : L.length ≤ 4611686018427387904) (hbs : ∀ x ∈ L, x.length ≤ 140737488351232) (hat : -9223372036854775808 ≤ at_ ∧ at_ ≤ 9223372036854775807) :
    Calls Try.prog 7 #[.slice A L.length c, .int .i64 at_, .int .i64 tear] w fun e w' => e = .returned (.bool true) ∧ Below w.heap.size w w' := by
  have HC := Aside0.mk (And.intro hC (And.intro hL (And.intro hbs hat)))
  clear hC hL hbs hat
  go_enter Try.func7, Try.ntmps7
  go_wp2_with (fail)
  refine (alive_calls w).mono ?_
  rintro e w1 ⟨rfl, hb1⟩
  have H1 := Aside0.mk (Fr.of_below hb1 (fun _ => False))
  clear hb1
  go_wp2
  refine loopT1 (.slice A L.length c) (.int .i64 at_) (.int .i64 tear) A c L (by have := HC.out; omega) (fun x hx => by have := HC.out.2.2.1 x hx; omega) w1 (HC.out.1.fr H1.out) _ ?_ ?_ _ ⟨⟨rfl, rfl⟩, rfl, rfl, rfl, rfl, rfl, rfl, rfl⟩
  · intro a' hF h6
    rw [fm146 hF, h6]
    go_ret
    exact ⟨rfl, H1.out.below _ (Nat.le_refl _) (fun i h => h.elim)⟩
  intro hs a' hF j0 j1 j2
  rw [fm146 hF, j0, j1, j2]
  have HS := Aside0.mk hs
  clear hF j0 j1 j2 hs
  go_wp2_with (fail)
  refine (dnew_calls 4194304 w1).mono ?_
  rintro e w2 ⟨g, rfl, hD2, hb2⟩
  have H2 := Aside0.mk (Dk.new H1.out hD2 hb2)
  clear H1 hD2 hb2
  go_wp2_with (fail)
  refine (break_calls g w.heap.size _ _ at_ tear w2 H2.out.at').mono ?_
  rintro e w3 ⟨rfl, hf3, hD3⟩
  have H3 := Aside0.mk (H2.out.call1 hf3 hD3)
  clear H2 hf3 hD3
  go_wp2_with (first | ((with_reducible refine gate_dst (N := 43) rfl ?_); refine wpList_lit0 (by rfl) (by first | (go_simp; done) | (go_simp; rfl)) ?_; intro v4 w4 hO4 hb4))
  have h4 := H3.out.below hb4
  have ht4 : T2 w w4 g (.slice none 0 0) v4 (tornD L at_ tear 0) (tornW L at_ 0) := ⟨by
    have e : tornD L at_ tear 0 = Dsk.brk (dsk0 4194304) at_ tear := by
      unfold tornD
      rw [if_pos (by omega)]
      show Dsk.mk _ _ _ _ _ _ = Dsk.mk _ _ _ _ _ _
      congr 1
      show max 0 at_ - ((0 : Nat) : Int) = max 0 at_
      omega
    rw [e]; exact h4, by
    have e : tornW L at_ 0 = [] := by unfold tornW; simp
    rw [e]; exact hO4.lower H3.out.F.size, fun k hk => (H3.out.apart k (hO4.base k hk)).2⟩
  have H4 := Aside0.mk ht4
  clear H3 hO4 hb4 h4 ht4
  go_wp2
  refine loopT2 (.slice A L.length c) (.int .i64 at_) (.int .i64 tear) A c L HC.out.2.1 HS.out at_ tear HC.out.2.2.2.2 w g HC.out.1 _ ?_ _ w4 (.slice none 0 0) v4 ⟨⟨rfl, rfl⟩, rfl, rfl, rfl, rfl, rfl, rfl, rfl, rfl, rfl, H4.out⟩
  clear H4
  intro a' w5 bv vw hF j0 j1 j2 j10 j11 j12 hT
  rw [fm146 hF, j0, j1, j2, j10, j11, j12]
  have H5 := Aside0.mk hT
  clear hF j0 j1 j2 j10 j11 j12 hT
  obtain ⟨mx, hmx⟩ : ∃ mx : Int, (if at_ < 0 then 0 else at_) = mx := ⟨_, rfl⟩
  have hmx2 : mx = (at_.toNat : Int) := by rw [← hmx]; split <;> omega
  by_cases hk : L.length ≤ at_.toNat
  · rw [show tornB at_ L.length = -1 from if_pos hk]
    have eD : (tornD L at_ tear L.length).bytes = (L.take L.length).flatten := by unfold tornD; rw [if_pos hk]
    have eW : tornW L at_ L.length = (L.take L.length).flatten := by unfold tornW; rw [Nat.min_eq_left hk]
    have hn := HC.out.2.1
    have c1 : decide ((L.length : Int) ≤ mx) = true := decide_eq_true (by omega)
    have HE := Aside0.mk (And.intro eD eW)
    clear eD eW hmx2 hn
    go_wp2_with (fail)
    refine (bytes_calls g w.heap.size bv _ w5 H5.out.dk.at').mono ?_
    rintro e w6 ⟨v6, rfl, hO6, hb6⟩
    rw [HE.out.1] at hO6
    have hR6 : OB w6 w.heap.size vw (L.take L.length).flatten := by have := H5.out.row.fr (Fr.of_below hb6 (fun _ => False)) (fun _ _ h => h); rw [HE.out.2] at this; exact this
    obtain ⟨G, hG⟩ : ∃ G, (L.take L.length).flatten = G := ⟨_, rfl⟩
    have hGl : G.length ≤ 1000000 := by rw [← hG, List.take_length]; exact HS.out
    rw [hG] at hO6 hR6
    obtain ⟨A6, c6, rfl, hc6⟩ := hO6.slice
    obtain ⟨A7, c7, rfl, hc7⟩ := hR6.slice
    have H6 := Aside0.mk (And.intro (H5.out.dk.below hb6) (And.intro (QB.rd (q_of_own hO6)) (And.intro (QB.rd (q_of_own hR6)) hGl)))
    clear H5 hO6 hb6 hR6 hG hGl
    go_wp2_with (fail)
    refine (same_calls G A6 c6 A7 c7 w6 H6.out.2.1 hc6 H6.out.2.2.1 hc7 (by have := H6.out; omega)).mono ?_
    rintro e w9 ⟨rfl, hb9⟩
    have H9 := Aside0.mk (H6.out.1.below hb9)
    clear H6 hb9
    go_wp2
    go_ret
    exact ⟨rfl, H9.out.F.below _ (Nat.le_refl _) (fun i h => h.elim)⟩
  · rw [show tornB at_ L.length = (at_.toNat : Int) from if_neg hk]
    obtain ⟨k, ek⟩ : ∃ k, at_.toNat = k := ⟨_, rfl⟩
    rw [ek] at hmx2 hk ⊢
    obtain ⟨b, eb⟩ : ∃ b, L.getD k [] = b := ⟨_, rfl⟩
    obtain ⟨W, eW⟩ : ∃ W, (L.take k).flatten = W := ⟨_, rfl⟩
    have hD : (tornD L at_ tear L.length).bytes = W ++ b.take (clampN tear b.length) := by unfold tornD; rw [ek, if_neg hk]; simp only [eb, eW]
    have hW : tornW L at_ L.length = W := by unfold tornW; rw [ek, Nat.min_eq_right (by omega), eW]
    have hlen : W.length + b.length ≤ 1000000 := by
      have := flat_le L (k + 1)
      rw [take_flat L k (by omega), List.length_append, eW, eb] at this
      have := HS.out
      omega
    obtain ⟨m, hm⟩ : ∃ m, clampN tear b.length = m := ⟨_, rfl⟩
    have hm1 : m ≤ b.length := by rw [← hm]; unfold clampN; omega
    have hm2 : (tear < 0 ∧ m = 0) ∨ (0 ≤ tear ∧ tear ≤ (b.length : Int) ∧ (m : Int) = tear) ∨ ((b.length : Int) < tear ∧ m = b.length) := by rw [← hm]; unfold clampN; omega
    rw [hm] at hD
    obtain ⟨ad, A0, c0, eA, hcell, hc0, hrb⟩ := HC.out.1.get k (by omega)
    rw [eb] at hcell hc0 hrb
    obtain ⟨G, hG⟩ : ∃ G, W ++ b.take m = G := ⟨_, rfl⟩
    rw [hG] at hD
    have hGl : G.length = W.length + m := by rw [← hG, List.length_append, List.length_take]; omega
    subst eA
    have HE := Aside0.mk (And.intro hD (And.intro hW (And.intro hlen (And.intro hm1 (And.intro hG (And.intro hGl (And.intro hcell (And.intro hrb hk))))))))
    clear hD hW hm eb eW hG ek hcell hrb
    have c1 : decide ((k : Int) < 0) = false := decide_eq_false (by omega)
    subst hmx2
    have b1 : (0 : Int) ≤ (k : Int) := by omega
    have b2 : (k : Int) < (L.length : Int) := by omega
    clear hk
    go_wp2_with (fail)
    refine (bytes_calls g w.heap.size bv _ w5 H5.out.dk.at').mono ?_
    rintro e w6 ⟨v6, rfl, hO6, hb6⟩
    rw [HE.out.1] at hO6
    have hR6 : OB w6 w.heap.size vw W := by have := H5.out.row.fr (Fr.of_below hb6 (fun _ => False)) (fun _ _ h => h); rw [HE.out.2.1] at this; exact this
    have h6 := H5.out.dk.below hb6
    have hcell6 := h6.F.cell HE.out.2.2.2.2.2.2.1 (fun h => h)
    have hlt7 : ∀ k, vw.ownBlock = some k → k < w5.heap.size := fun k hk => q_lt (q_of_own H5.out.row) k hk
    have hfar7 : ∀ k, vw.ownBlock = some k → w.heap.size ≤ k ∧ ¬ Fp g bv k := fun k hk => ⟨H5.out.row.base k hk, H5.out.far k hk⟩
    obtain ⟨A6, c6, rfl, hc6⟩ := hO6.slice
    obtain ⟨A7, c7, rfl, hc7⟩ := hR6.slice
    have hap : ∀ k, (Value.slice A6 G.length c6).ownBlock = some k → ¬ some k = (Value.slice A7 W.length c7).ownBlock := fun k hk e => by
      have h1 := hO6.base k hk
      have h2 := hlt7 k e.symm
      omega
    have b3 : wrap64 ((G.length : Int) - (W.length : Int)) = (m : Int) := by have := HE.out; unfold wrap64; omega
    have c3 : decide ((0 : Int) ≤ (m : Int)) = true := decide_eq_true (by omega)
    have c4 : decide ((m : Int) ≤ (b.length : Int)) = true := decide_eq_true (by have := HE.out; omega)
    obtain ⟨i0, hi0, _, hsz, _⟩ := info_parts infoB
    have hcut := cut_to (P := Try.prog) 23 5 .i64 Try.underlying23 hi0 A0 b.length c0 (m : Int) (by omega) (by have := HE.out; omega) hc0
    rw [Int.toNat_natCast] at hcut
    have H6 := Aside0.mk (And.intro h6 (And.intro hO6 (And.intro hR6 (And.intro hfar7 hap))))
    have HM := Aside0.mk hm2
    clear H5 hO6 hb6 hR6 h6 hlt7 hfar7 hap hm2 hm1 hGl hlen
    go_wp2_with (first | ((with_reducible refine gate_builtin (b := .append) (xs := #[.tmp 105, .tmp 111]) rfl ?_); at_builtin; refine Aside0.out ?_))
    refine ⟨?_⟩
    refine gate_guard (by rfl) ?_
    refine wpList_appe rfl (by rfl) w.heap.size _ _ (by rfl) infoB (.slice A7 W.length c7) W (by rfl) H6.out.2.2.1 A0 m c0 (b.take m) (by rfl) (by have := HE.out; rw [List.length_take]; omega) ((HE.out.2.2.2.2.2.2.2.1.fr H6.out.1.F (fun _ _ h => h)).take m) (by have := HE.out; rw [List.length_take]; omega) H6.out.1.F.size ?_
    intro v8 w8 hO8 hf8 hat8
    rw [HE.out.2.2.2.2.1] at hO8
    have h8 := H6.out.1.fr hf8 (fun k hk => H6.out.2.2.2.1 k hk.symm)
    have hR8 : Rd w8 A6 G := QB.rd (q_of_own (H6.out.2.1.fr hf8 (fun k hk h => H6.out.2.2.2.2 k hk h)))
    have hcell8 := h8.F.cell HE.out.2.2.2.2.2.2.1 (fun h => h)
    obtain ⟨A8, c8, rfl, hc8⟩ := hO8.slice
    have H8 := Aside0.mk (And.intro h8 (And.intro hR8 (QB.rd (q_of_own hO8))))
    clear H6 hO8 hf8 hat8 h8 hR8 hcell6 hcut
    go_wp2_with (fail)
    refine (same_calls G A6 c6 A8 c8 w8 H8.out.2.1 hc6 H8.out.2.2 hc8 (by have := HE.out; omega)).mono ?_
    rintro e w9 ⟨rfl, hb9⟩
    have h9 := H8.out.1.below hb9
    have hcell9 := h9.F.cell HE.out.2.2.2.2.2.2.1 (fun h => h)
    have H9 := Aside0.mk h9
    clear H8 hb9 h9 hcell8
    have fin : ∀ x : Bool, x = true → Ending.returned (Value.bool x) = Ending.returned (Value.bool true) ∧ Below w.heap.size w w9 := fun x hx => by rw [hx]; exact ⟨rfl, H9.out.F.below _ (Nat.le_refl _) (fun i h => h.elim)⟩
    have FN := Aside0.mk fin
    clear fin
    go_wp2
    all_goals go_ret
    all_goals (first | (exfalso; have := HE.out; omega) | (refine FN.out _ ?_; have hm := HM.out))
    all_goals (first | rfl | (simp only [Bool.or_eq_true, Bool.and_eq_true, beq_iff_eq, decide_eq_true_eq, decide_eq_false_iff_not] at *; omega) | trace_state)
theorem tears_row (A0 : Option Addr) (c0 : Nat) (l0 : List (List Int)) (a1 a2 : Int) (w : World) (hC0 : CC w A0 l0) (hl0 : l0.length ≤ c0) (_ : ∀ x ∈ l0, Oct.Bys x) (w1 : (Lit.int .i64 a1).wf = true) (w2 : (Lit.int .i64 a2).wf = true) (hz : l0.length * Try.prog.bytesOf 23 ≤ reachBytes ∧ ∀ x ∈ l0, x.length ≤ reachBytes) :
    Calls Try.prog 7 #[.slice A0 l0.length c0, .int .i64 a1, .int .i64 a2] w fun e w' => e = .returned (.bool true) ∧ Below w.heap.size w w' := by
  have hb : Try.prog.bytesOf 23 = 24 := by kernel_rfl
  rw [hb] at hz
  exact tears_calls A0 c0 l0 a1 a2 w hC0 hl0 (by have := hz.1; unfold reachBytes at this; omega) hz.2 (i64_in w1)
end Go.Proofs.Ytgcajmkbdhjooaa.Sha
