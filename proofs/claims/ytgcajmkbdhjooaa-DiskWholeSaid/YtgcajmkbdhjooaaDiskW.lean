/-
  DiskWhole, its walk: what takes the place of all is there whole, or not at all.
-/
import Derived.Test.YtgcajmkbdhjooaaDiskB
set_option linter.unusedVariables false
set_option linter.unusedSimpArgs false
namespace Go.Proofs.Ytgcajmkbdhjooaa.Sha
open Go.RowKit Go.Proofs.YtgcajmkbdhjooaaW.PrintWords Go.Proofs.YtgcajmkbdhjooaaW.PrintLast Go.Proofs.YtgcajmkbdhjooaaW.PrintMore Go.Proofs.Ytgcajmkbdhjooaa.Q Go.Proofs.Ytgcajmkbdhjooaa.Fr Go.Proofs.Ytgcajmkbdhjooaa.Oct

set_option maxHeartbeats 8000000 in
set_option maxRecDepth 100000 in
theorem whole_calls (Aa Ab : Option Addr) (ca cb : Nat) (la lb : List Int) (n : Int) (w : World) (hra : Rd w Aa la) (hrb : Rd w Ab lb) (hca : la.length ≤ ca) (hcb : lb.length ≤ cb) (hw : -9223372036854775808 ≤ n ∧ n ≤ 9223372036854775807) :
    Calls Try.prog 9 #[.slice Aa la.length ca, .slice Ab lb.length cb, .int .i64 n] w fun e w' => e = .returned (.bool true) ∧ Below w.heap.size w w' := by
  by_cases hA : 1000000 < la.length
  · have c1 : decide (1000000 < (la.length : Int)) = true := decide_eq_true (by omega)
    clear hra hrb
    go_enter Try.func9, Try.ntmps9
    go_wp2_with (fail)
    refine (alive_calls w).mono ?_
    rintro e w1 ⟨rfl, hb1⟩
    have H1 := Aside0.mk hb1
    clear hb1
    go_wp2
    go_ret
    exact ⟨rfl, H1.out⟩
  have c1 : decide (1000000 < (la.length : Int)) = false := decide_eq_false (by omega)
  by_cases hB : 1000000 < lb.length
  · have c2 : decide (1000000 < (lb.length : Int)) = true := decide_eq_true (by omega)
    clear hra hrb
    go_enter Try.func9, Try.ntmps9
    go_wp2_with (fail)
    refine (alive_calls w).mono ?_
    rintro e w1 ⟨rfl, hb1⟩
    have H1 := Aside0.mk hb1
    clear hb1
    go_wp2
    go_ret
    exact ⟨rfl, H1.out⟩
  have c2 : decide (1000000 < (lb.length : Int)) = false := decide_eq_false (by omega)
  have HR := Aside0.mk (And.intro hra hrb)
  have HN := Aside0.mk (And.intro hA hB)
  have HW := Aside0.mk hw
  clear hra hrb hA hB
  go_enter Try.func9, Try.ntmps9
  go_wp2_with (fail)
  refine (alive_calls w).mono ?_
  rintro e w1 ⟨rfl, hb1⟩
  have H1 := Aside0.mk (Fr.of_below hb1 (fun _ => False))
  clear hb1
  go_wp2_with (fail)
  refine (dnew_calls 4194304 w1).mono ?_
  rintro e w2 ⟨g, rfl, hD2, hb2⟩
  have H2 := Aside0.mk (Dk.new H1.out hD2 hb2)
  clear H1 hD2 hb2
  go_wp2_with (first | ((with_reducible refine gate_dst (N := 24) rfl ?_); refine wpList_copyb rfl (by rfl) (fun _ => by rfl) (fun _ _ => by rfl) (by first | (go_simp; done) | (go_simp; rfl)) _ (by rfl) Aa la.length ca la (fun _ => rfl) rfl (HR.out.1.fr H2.out.F (fun _ _ h => h)) _ _ (by rfl) (fun _ _ => rfl) (fun _ _ => rfl) (by have := HN.out; omega) ?_; intro u3 v3 w3 hO3 hb3))
  obtain ⟨A3, c3, rfl, hc3⟩ := hO3.slice
  have h3 := H2.out.below hb3
  have e3 : (dsk0 4194304).app la = (0, ⟨la, 4194304, false, false, -1, 0⟩) := by
    rw [Dsk.app_ok _ _ rfl (by have := HN.out; show ((0 : Nat) : Int) + (la.length : Int) ≤ 4194304; omega) (by simp [dsk0])]
    rfl
  refine (app_calls g w.heap.size _ _ A3 c3 la w3 h3.at' h3.F.size (QB.rd (q_of_own hO3)) hc3 (by have := HN.out; omega) (hO3.far H2.out.ne) (by decide) (by decide)).mono ?_
  rintro e w4 ⟨rfl, hf4, bv4, hD4, hn4⟩
  rw [e3] at hD4 ⊢
  have H4 := Aside0.mk (h3.call hf4 hD4)
  clear H2 hO3 hb3 h3 e3 hf4 hD4 hn4 hc3
  go_wp2_with (fail)
  refine (break_calls g w.heap.size bv4 _ n _ w4 H4.out.at').mono ?_
  rintro e w5 ⟨rfl, hf5, hD5⟩
  have H5 := Aside0.mk (H4.out.call1 hf5 hD5)
  clear H4 hf5 hD5
  go_wp2_with (first | ((with_reducible refine gate_dst (N := 37) rfl ?_); refine wpList_copyb rfl (by rfl) (fun _ => by rfl) (fun _ _ => by rfl) (by first | (go_simp; done) | (go_simp; rfl)) _ (by rfl) Ab lb.length cb lb (fun _ => rfl) rfl (HR.out.2.fr H5.out.F (fun _ _ h => h)) _ _ (by rfl) (fun _ _ => rfl) (fun _ _ => rfl) (by have := HN.out; omega) ?_; intro u6 v6 w6 hO6 hb6))
  obtain ⟨A6, c6, rfl, hc6⟩ := hO6.slice
  have h6 := H5.out.below hb6
  refine (rep_calls g w.heap.size bv4 _ A6 c6 lb w6 h6.at' h6.F.size (QB.rd (q_of_own hO6)) hc6 (by have := HN.out; omega) (hO6.far H5.out.ne) (by show _ ≤ max 0 n; omega) (by show max 0 n ≤ _; have := HW.out; omega)).mono ?_
  rintro e w7 ⟨rfl, hf7, bv7, hD7, hn7⟩
  have hrep : ∀ t : Int, (Dsk.brk ⟨la, 4194304, false, false, -1, 0⟩ n t).rep lb = if 0 < n then (0, ⟨lb, 4194304, false, true, max 0 n - 1, t⟩) else (115, ⟨la, 4194304, true, true, max 0 n, t⟩) := fun t => by
    have hl := HN.out
    split
    · rw [Dsk.rep_ok _ _ rfl (by show (lb.length : Int) ≤ 4194304; omega) (by show ¬ (true = true ∧ max 0 n = 0); omega)]
      rfl
    · rw [Dsk.rep_break _ _ rfl (by show (lb.length : Int) ≤ 4194304; omega) ⟨rfl, by show max 0 n = 0; omega⟩]
      rfl
  rw [hrep] at hD7 ⊢
  clear hrep
  by_cases hn : 0 < n
  · rw [if_pos hn] at hD7 ⊢
    have cn : decide (0 < n) = true := decide_eq_true hn
    have H7 := Aside0.mk (h6.call1 hf7 hD7)
    clear H5 hO6 hb6 h6 hf7 hD7 hn7 hc6
    go_wp2_with (fail)
    refine (bytes_calls g w.heap.size bv7 _ w7 H7.out.at').mono ?_
    rintro e w8 ⟨v8, rfl, hO8, hb8⟩
    have hO8 : OB w8 w7.heap.size v8 lb := hO8
    obtain ⟨A8, c8, rfl, hc8⟩ := hO8.slice
    have H8 := Aside0.mk (And.intro (H7.out.below hb8) (QB.rd (q_of_own hO8)))
    clear H7 hO8 hb8
    go_wp2_with (fail)
    refine (same_calls lb A8 c8 Ab cb w8 H8.out.2 hc8 (HR.out.2.fr H8.out.1.F (fun _ _ h => h)) hcb (by have := HN.out; omega)).mono ?_
    rintro e w9 ⟨rfl, hb9⟩
    have H9 := Aside0.mk (H8.out.1.below hb9)
    clear H8 hb9
    go_wp2
    go_ret
    exact ⟨rfl, H9.out.F.below _ (Nat.le_refl _) (fun i h => h.elim)⟩
  · rw [if_neg hn] at hD7 ⊢
    have cn : decide (n ≤ 0) = true := decide_eq_true (by omega)
    have H7 := Aside0.mk (h6.call1 hf7 hD7)
    clear H5 hO6 hb6 h6 hf7 hD7 hn7 hc6
    go_wp2_with (fail)
    refine (dead_calls g w.heap.size bv7 _ w7 H7.out.at').mono ?_
    rintro e w7' ⟨rfl, rfl⟩
    go_wp2_with (fail)
    refine (bytes_calls g w.heap.size bv7 _ w7' H7.out.at').mono ?_
    rintro e w8 ⟨v8, rfl, hO8, hb8⟩
    have hO8 : OB w8 w7'.heap.size v8 la := hO8
    obtain ⟨A8, c8, rfl, hc8⟩ := hO8.slice
    have H8 := Aside0.mk (And.intro (H7.out.below hb8) (QB.rd (q_of_own hO8)))
    clear H7 hO8 hb8
    go_wp2_with (fail)
    refine (same_calls la A8 c8 Aa ca w8 H8.out.2 hc8 (HR.out.1.fr H8.out.1.F (fun _ _ h => h)) hca (by have := HN.out; omega)).mono ?_
    rintro e w9 ⟨rfl, hb9⟩
    have H9 := Aside0.mk (H8.out.1.below hb9)
    clear H8 hb9
    go_wp2
    go_ret
    exact ⟨rfl, H9.out.F.below _ (Nat.le_refl _) (fun i h => h.elim)⟩
theorem whole_row (A0 : Option Addr) (c0 : Nat) (l0 : List Int) (A1 : Option Addr) (c1 : Nat) (l1 : List Int) (a2 : Int) (w : World) (hC0 : Kd.C (Kd.int .u8) w A0 l0.length l0) (hl0 : l0.length ≤ c0) (hC1 : Kd.C (Kd.int .u8) w A1 l1.length l1) (hl1 : l1.length ≤ c1) (_ : Oct.Bys l0) (_ : Oct.Bys l1) (w2 : (Lit.int .i64 a2).wf = true) (_ : l0.length ≤ reachBytes) (_ : l1.length ≤ reachBytes) :
    Calls Try.prog 9 #[.slice A0 l0.length c0, .slice A1 l1.length c1, .int .i64 a2] w fun e w' => e = .returned (.bool true) ∧ Below w.heap.size w w' :=
  whole_calls A0 A1 c0 c1 l0 l1 a2 w (Rd.of_C hC0) (Rd.of_C hC1) hl0 hl1 (i64_in w2)
end Go.Proofs.Ytgcajmkbdhjooaa.Sha
