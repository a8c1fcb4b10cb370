/-
  WalScans, its walk: the records of any bytes.
-/
import Derived.Test.YtkkgjbafncmohaaWalC
import Derived.Test.YtkkgjbafncmohaaQx10
import Derived.Test.YtkkgjbafncmohaaQx3
import Derived.Test.YtkkgjbafncmohaaQx9
set_option linter.unusedVariables false
set_option linter.unusedSimpArgs false
namespace Go.Proofs.Ytkkgjbafncmohaa.Sha
open Go.RowKit Go.Proofs.YtkkgjbafncmohaaW.PrintWords Go.Proofs.YtkkgjbafncmohaaW.PrintLast Go.Proofs.YtkkgjbafncmohaaW.PrintMore Go.Proofs.Ytkkgjbafncmohaa.Q Go.Proofs.Ytkkgjbafncmohaa.Fr Go.Proofs.Ytkkgjbafncmohaa.Oct

theorem samelist_calls (L M : List (List Int)) (A : Option Addr) (c : Nat) (A' : Option Addr) (c' : Nat) (w : World) (h0 : CC w A L) (hc0 : L.length ≤ c) (h1 : CC w A' M) (hc1 : M.length ≤ c') (hL : ∀ x ∈ L, Bys x) (hM : ∀ x ∈ M, Bys x) :
    Calls Try.prog 10 #[.slice A L.length c, .slice A' M.length c'] w fun e w' => e = .returned (.bool (decide (L = M))) ∧ Below w.heap.size w w' := by
  refine (catenaryref01_SameList.calls (L.length + 1) A c L A' c' M (decide (L = M)) w h0 hc0 h1 hc1 (samelist_f L M hL hM h0.2.1 _ (Nat.le_refl _))).mono ?_
  rintro e w' ⟨rfl, hd⟩
  exact ⟨rfl, hd.below⟩
set_option maxHeartbeats 8000000 in
set_option maxRecDepth 100000 in
theorem scans_calls (A : Option Addr) (c : Nat) (b : List Int) (w : World) (hr : Rd w A b) (hc : b.length ≤ c) (hB : Bys b) (hl : b.length ≤ 1048576) :
    Calls Try.prog 3 #[.slice A b.length c] w fun e w' => e = .returned (.bool true) ∧ Below w.heap.size w w' := by
  have hS := scan_f b hB (by omega) (b.length + 32) (by omega)
  have hS2 := rscan_f b hB (by omega) (b.length + 32) (by omega)
  have hso := (scanA_sound b hB (by omega)).2.2
  obtain ⟨⟨rs, n⟩, hsc⟩ : ∃ r, scanA b = r := ⟨_, rfl⟩
  rw [hsc] at hS hS2 hso
  have HS := Aside0.mk (And.intro hS (And.intro hS2 (And.intro hso (And.intro hr (And.intro hB hl)))))
  clear hS hS2 hso hr hB hl hsc
  go_enter Try.func3, Try.ntmps3
  go_wp2_with (fail)
  refine (walive_calls w).mono ?_
  rintro e w1 ⟨rfl, hb1⟩
  have H1 := Aside0.mk (Fr.of_below hb1 (fun _ => False))
  clear hb1
  go_wp2_with (first | ((with_reducible refine gate_dst (N := 10) rfl ?_); refine wpList_copyb rfl (by rfl) (fun _ => by rfl) (fun _ _ => by rfl) (by first | (go_simp; done) | (go_simp; rfl)) _ (by rfl) A b.length c b (fun _ => rfl) rfl (HS.out.2.2.2.1.fr H1.out (fun _ _ h => h)) _ _ (by rfl) (fun _ _ => rfl) (fun _ _ => rfl) (by have := HS.out; omega) ?_; intro u2 v2 w2 hO2 hb2))
  obtain ⟨A2, c2, rfl, hc2⟩ := hO2.slice
  have H2 := Aside0.mk (And.intro (H1.out.trans (Fr.of_below hb2 (fun _ => False)) (fun _ h => h.elim)) (QB.rd (q_of_own hO2)))
  clear H1 hO2 hb2
  refine (wal_Scan.calls (b.length + 32) A2 c2 b rs (n : Int) w2 (H2.out.2.C (by have := HS.out; omega)) hc2 HS.out.1).mono ?_
  rintro e w3 ⟨v3, rfl, hS3, hb3⟩
  obtain ⟨A3, c3, rfl, hc3, hC3⟩ := Kd.S_reads hS3
  have hC3 : CC w3 A3 rs := hC3
  have H3 := Aside0.mk (And.intro (H2.out.1.trans (Fr.of_below hb3 (fun _ => False)) (fun _ h => h.elim)) (And.intro hC3 hc3))
  clear H2 hS3 hb3 hC3 hc3 hc2
  go_wp2_with (fail)
  refine (catenaryref12_Scan.calls (b.length + 32) A c b rs (n : Int) w3 ((HS.out.2.2.2.1.fr H3.out.1 (fun _ _ h => h)).C (by have := HS.out; omega)) hc HS.out.2.1).mono ?_
  rintro e w4 ⟨v4, rfl, hS4, hb4⟩
  obtain ⟨A4, c4, rfl, hc4, hC4⟩ := Kd.S_reads hS4
  have hC4 : CC w4 A4 rs := hC4
  have hC34 : CC w4 A3 rs := CC.fr (show CC w3 A3 rs from H3.out.2.1) (Fr.of_below hb4 (fun _ => False))
  have H4 := Aside0.mk (And.intro (H3.out.1.trans (Fr.of_below hb4 (fun _ => False)) (fun _ h => h.elim)) (And.intro hC34 (And.intro H3.out.2.2 (And.intro hC4 hc4))))
  clear H3 hS4 hb4 hC4 hc4 hC34
  go_wp2_with (fail)
  have hs := samelist_calls rs rs A3 c3 A4 c4 w4 H4.out.2.1 H4.out.2.2.1 H4.out.2.2.2.1 H4.out.2.2.2.2 HS.out.2.2.1 HS.out.2.2.1
  rw [decide_eq_true rfl] at hs
  refine hs.mono ?_
  clear hs
  rintro e w5 ⟨rfl, hb5⟩
  have H5 := Aside0.mk (H4.out.1.trans (Fr.of_below hb5 (fun _ => False)) (fun _ h => h.elim))
  clear H4 hb5
  go_wp2
  go_ret
  exact ⟨by first | rfl | simp, H5.out.below _ (Nat.le_refl _) (fun i h => h.elim)⟩
theorem scans_row (A0 : Option Addr) (c0 : Nat) (l0 : List Int) (w : World) (hC0 : Kd.C (Kd.int .u8) w A0 l0.length l0) (hl0 : l0.length ≤ c0) (hB : Bys l0) (hs : l0.length + 1 ≤ 1048576) :
    Calls Try.prog 3 #[.slice A0 l0.length c0] w fun e w' => e = .returned (.bool true) ∧ Below w.heap.size w w' :=
  scans_calls A0 c0 l0 w (Rd.of_C hC0) hl0 hB (by omega)
end Go.Proofs.Ytkkgjbafncmohaa.Sha
