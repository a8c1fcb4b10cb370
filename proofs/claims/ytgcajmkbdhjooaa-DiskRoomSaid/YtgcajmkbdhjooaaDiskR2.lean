/-
  DiskRoom, its walk: a disk never has more bytes than there is room for.
-/
import Derived.Test.YtgcajmkbdhjooaaDiskR
set_option linter.unusedVariables false
set_option linter.unusedSimpArgs false
namespace Go.Proofs.Ytgcajmkbdhjooaa.Sha
open Go.RowKit Go.Proofs.YtgcajmkbdhjooaaW.PrintWords Go.Proofs.YtgcajmkbdhjooaaW.PrintLast Go.Proofs.YtgcajmkbdhjooaaW.PrintMore Go.Proofs.Ytgcajmkbdhjooaa.Q Go.Proofs.Ytgcajmkbdhjooaa.Fr Go.Proofs.Ytgcajmkbdhjooaa.Oct

set_option maxHeartbeats 8000000 in
set_option maxRecDepth 100000 in
theorem exitR (u : Nat → Value) (n : Nat) (w : World) (Q : Exit → Act → World → Prop) (hQ : ∀ a', Fm 106 a' → Q (.exit 0) a' w) :
    Code.wp Try.prog (bodyN Try.f10 0) Q ⟨#[u 0, u 1, u 2, u 3, u 4, u 5, u 6, u 7, u 8, u 9, u 10, u 11, u 12, u 13, u 14, u 15, u 16, u 17, u 18, u 19, u 20, u 21, u 22, u 23, u 24, u 25, u 26, u 27, u 28, u 29, u 30, u 31, u 32, .int .i64 (n : Int), .int .i64 (n : Int), u 35, u 36, u 37, u 38, u 39, u 40, u 41, u 42, u 43, u 44, u 45, u 46, u 47, u 48, u 49, u 50, u 51, u 52, u 53, u 54, u 55, u 56, u 57, u 58, u 59, u 60, u 61, u 62, u 63, u 64, u 65, u 66, u 67, u 68, u 69, u 70, u 71, u 72, u 73, u 74, u 75, u 76, u 77, u 78, u 79, u 80, u 81, u 82, u 83, u 84, u 85, u 86, u 87, u 88, u 89, u 90, u 91, u 92, u 93, u 94, u 95, u 96, u 97, u 98, u 99, u 100, u 101, u 102, u 103, u 104, u 105], []⟩ w := by
  have c0 : decide ((n : Int) < (n : Int)) = false := by simp
  have HQ := Aside0.mk hQ
  clear hQ
  conv => arg 2; whnf
  go_wp2
  exact HQ.out _ ⟨rfl, rfl⟩
theorem loopR (A A2 : Option Addr) (c c2 : Nat) (L : List (List Int)) (bs : List Bool) (hL : L.length ≤ 300) (hbl : bs.length ≤ 9223372036854775807) (hbs : ∀ x ∈ L, x.length ≤ 140737488351232) (w0 : World) (hC : CC w0 A L) (hC2 : Kd.C Kd.bool w0 A2 bs.length bs) (g : Nat) (R : Int) (hR : R ≤ 4194304)
    (Q : Exit → Act → World → Prop) (hQ : ∀ a' w' bv d, Fm 106 a' → RM w0 w' g bv d R L.length → Q (.exit 0) a' w')
    (a : Act) (w : World) (bv : Value) (d : Dsk) (h : Fm 106 a ∧ sl a 2 = .slice A2 bs.length c2 ∧ sl a 7 = .pointer (some ⟨g, 0, none⟩) ∧ sl a 8 = .int .i64 R ∧ sl a 32 = .slice A L.length c ∧ sl a 33 = .int .i64 (L.length : Int) ∧ sl a 34 = .int .i64 0 ∧ RM w0 w g bv d R 0) : (Code.loop (bodyN Try.f10 0)).wp Try.prog Q a w := by
  refine wp_loop_up L.length (fun t a w => Fm 106 a ∧ sl a 2 = .slice A2 bs.length c2 ∧ sl a 7 = .pointer (some ⟨g, 0, none⟩) ∧ sl a 8 = .int .i64 R ∧ sl a 32 = .slice A L.length c ∧ sl a 33 = .int .i64 (L.length : Int) ∧ sl a 34 = .int .i64 (t : Int) ∧ ∃ bv d, RM w0 w g bv d R t) ?_ ?_
  · obtain ⟨h0, h1, h2, h3, h4, h5, h6, h7⟩ := h
    exact ⟨h0, h1, h2, h3, h4, h5, h6, bv, d, h7⟩
  rintro t a w ht ⟨hF, h2, h7, h8, h32, h33, h34, bv, d, hM⟩
  have ha := fm106 hF
  by_cases h64 : t = L.length
  · subst h64
    rw [h33, h34] at ha
    rw [ha]
    exact exitR (sl a) _ w _ fun a' b0 => hQ _ _ bv d b0 hM
  · rw [h2, h7, h8, h32, h33, h34] at ha
    rw [ha]
    have hlt : t < L.length := by omega
    have hb : (L.getD t []).length ≤ 140737488351232 := hbs _ (by rw [List.getD_eq_getElem?_getD, List.getElem?_eq_getElem hlt]; exact List.getElem_mem hlt)
    have next : ∀ a' w' bv' d', Fm 106 a' → sl a' 0 = sl a 0 → sl a' 1 = sl a 1 → sl a' 2 = .slice A2 bs.length c2 → sl a' 7 = .pointer (some ⟨g, 0, none⟩) → sl a' 8 = .int .i64 R → sl a' 32 = .slice A L.length c → sl a' 33 = .int .i64 (L.length : Int) → sl a' 34 = .int .i64 ((t : Int) + 1) → RM w0 w' g bv' d' R (t + 1) →
        (Exit.then (fun a' w' => t < L.length ∧ Fm 106 a' ∧ sl a' 2 = .slice A2 bs.length c2 ∧ sl a' 7 = .pointer (some ⟨g, 0, none⟩) ∧ sl a' 8 = .int .i64 R ∧ sl a' 32 = .slice A L.length c ∧ sl a' 33 = .int .i64 (L.length : Int) ∧ sl a' 34 = .int .i64 ((t + 1 : Nat) : Int) ∧ ∃ bv d, RM w0 w' g bv d R (t + 1)) Q) .normal a' w' := by
      intro a' w' bv' d' f0 f1 f2 f3 f4 f5 f6 f7 f8 f9
      exact ⟨hlt, f0, f3, f4, f5, f6, f7, by rw [f8]; congr 1, bv', d', f9⟩
    by_cases hx : t < bs.length
    · cases hv : rdOf false bs (t : Int) with
      | false => exact roundRB (sl a) A A2 c c2 L bs t hlt hL hbl hb w0 w hC hC2 g bv d R hR hM hx hv _ next
      | true => exact roundRC (sl a) A A2 c c2 L bs t hlt hL hbl hb w0 w hC hC2 g bv d R hR hM hx hv _ next
    · exact roundRA (sl a) A A2 c c2 L bs t hlt hL hbl hb w0 w hC hC2 g bv d R hR hM hx _ next
set_option maxHeartbeats 8000000 in
set_option maxRecDepth 100000 in
theorem room_law (n : Int) (A A2 : Option Addr) (c c2 : Nat) (L : List (List Int)) (bs : List Bool) (w : World) (hC : CC w A L) (hC2 : Kd.C Kd.bool w A2 bs.length bs) (hbl : bs.length ≤ 9223372036854775807) (hbs : ∀ x ∈ L, x.length ≤ 140737488351232) :
    Calls Try.prog 10 #[.int .i64 n, .slice A L.length c, .slice A2 bs.length c2] w fun e w' => e = .returned (.bool true) ∧ Below w.heap.size w w' := by
  have HC := Aside0.mk (And.intro hC (And.intro hC2 (And.intro hbl hbs)))
  clear hC hC2 hbl hbs
  by_cases hL : 300 < L.length
  · have c1 : decide (300 < (L.length : Int)) = true := decide_eq_true (by omega)
    clear hL
    go_enter Try.func10, Try.ntmps10
    go_wp2_with (fail)
    refine (alive_calls w).mono ?_
    rintro e w1 ⟨rfl, hb1⟩
    have H1 := Aside0.mk (Fr.of_below hb1 (fun _ => False))
    clear hb1
    go_wp2_with (fail)
    refine (dnew_calls n w1).mono ?_
    rintro e w2 ⟨g, rfl, hD2, hb2⟩
    have H2 := Aside0.mk (Dk.new H1.out hD2 hb2)
    clear H1 hD2 hb2
    go_wp2
    go_ret
    exact ⟨by first | rfl | simp, H2.out.F.below _ (Nat.le_refl _) (fun i h => h.elim)⟩
  have c1 : decide (300 < (L.length : Int)) = false := decide_eq_false (by omega)
  have HL := Aside0.mk hL
  clear hL
  obtain ⟨j, hj⟩ : ∃ j : Int, (if n < 0 then 0 else n) = j := ⟨_, rfl⟩
  obtain ⟨R, hR⟩ : ∃ R : Int, (if 4194304 < j then 4194304 else j) = R := ⟨_, rfl⟩
  have hr : roomI n = R := by rw [← hR, ← hj]; unfold roomI; (repeat' split) <;> omega
  have hr2 : 0 ≤ R ∧ R ≤ 4194304 := by rw [← hr]; unfold roomI; omega
  have HR := Aside0.mk (And.intro hr hr2)
  clear hr hr2
  go_enter Try.func10, Try.ntmps10
  go_wp2_with (fail)
  refine (alive_calls w).mono ?_
  rintro e w1 ⟨rfl, hb1⟩
  have H1 := Aside0.mk (Fr.of_below hb1 (fun _ => False))
  clear hb1
  go_wp2_with (fail)
  refine (dnew_calls n w1).mono ?_
  rintro e w2 ⟨g, rfl, hD2, hb2⟩
  have H2 := Aside0.mk (Dk.new H1.out hD2 hb2)
  clear H1 hD2 hb2
  go_wp2
  refine loopR A A2 c c2 L bs (by have := HL.out; omega) HC.out.2.2.1 HC.out.2.2.2 w HC.out.1 HC.out.2.1 g R HR.out.2.2 _ ?_ _ w2 _ _ ⟨⟨rfl, rfl⟩, rfl, rfl, rfl, rfl, rfl, rfl, ⟨H2.out, rfl, rfl, HR.out.1, by show -((0 : Nat) : Int) ≤ 0; omega, by show (0 : Int) ≤ 0; omega, by show ((0 : Nat) : Int) ≤ R; exact HR.out.2.1⟩⟩
  intro a' w3 bv d hF hM
  rw [fm106 hF]
  have H3 := Aside0.mk hM.dk
  clear hM hF
  go_wp2
  go_ret
  exact ⟨rfl, H3.out.F.below _ (Nat.le_refl _) (fun i h => h.elim)⟩
theorem room_row (a0 : Int) (A1 : Option Addr) (c1 : Nat) (l1 : List (List Int)) (A2 : Option Addr) (c2 : Nat) (l2 : List Bool) (w : World) (hC1 : CC w A1 l1) (hl1 : l1.length ≤ c1) (hC2 : Kd.C Kd.bool w A2 l2.length l2) (hl2 : l2.length ≤ c2) (_ : (Lit.int .i64 a0).wf = true) (_ : ∀ x ∈ l1, Oct.Bys x) (_ : True) (hz : l1.length * Try.prog.bytesOf 23 ≤ reachBytes ∧ ∀ x ∈ l1, x.length ≤ reachBytes) (hz2 : l2.length ≤ reachBytes) :
    Calls Try.prog 10 #[.int .i64 a0, .slice A1 l1.length c1, .slice A2 l2.length c2] w fun e w' => e = .returned (.bool true) ∧ Below w.heap.size w w' :=
  room_law a0 A1 A2 c1 c2 l1 l2 w hC1 hC2 (by unfold reachBytes at hz2; omega) hz.2
end Go.Proofs.Ytgcajmkbdhjooaa.Sha
