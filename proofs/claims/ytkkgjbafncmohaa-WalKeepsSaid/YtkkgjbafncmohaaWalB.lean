/-
  A log: Add, Compact.
-/
import Derived.Test.YtkkgjbafncmohaaWal
import Derived.Deep.RegionHeld3
import Derived.Test.YtkkgjbafncmohaaQx11
import Derived.Test.YtkkgjbafncmohaaQx3
import Derived.Test.YtkkgjbafncmohaaQx6
set_option linter.unusedVariables false
set_option linter.unusedSimpArgs false
namespace Go.Proofs.Ytkkgjbafncmohaa.Sha
open Go.RowKit Go.Proofs.YtkkgjbafncmohaaW.PrintWords Go.Proofs.YtkkgjbafncmohaaW.PrintLast Go.Proofs.YtkkgjbafncmohaaW.PrintMore Go.Proofs.Ytkkgjbafncmohaa.Q Go.Proofs.Ytkkgjbafncmohaa.Fr Go.Proofs.Ytkkgjbafncmohaa.Oct

theorem Rd.V {w : World} {A : Option Addr} {ys : List Int} {c e base : Nat} (h : Rd w A ys) (hc : ys.length ≤ c) (hl : ys.length ≤ 9223372036854775807) : Kd.V (Kd.int .u8) e w base (fun _ => True) (.slice A ys.length c) ys :=
  Kd.V_mk hc (fun W' hm => Rd.C (fun j u hu => by
    obtain ⟨ad, e, hcell⟩ := h j u hu
    exact ⟨ad, e, (World.cell?_of_block (hm (ad.add j).block trivial (World.block_lt_of_cell? w _ hcell))).trans hcell⟩) hl)
set_option maxHeartbeats 8000000 in
set_option maxRecDepth 100000 in
theorem add_calls (gl g base : Nat) (bv : Value) (d : Dsk) (A : Option Addr) (c : Nat) (b : List Int) (w : World) (hL : LogAt w gl g) (hgl : ¬ Fp g bv gl) (h : DiskAt w base g bv d) (hb : base ≤ w.heap.size) (hy : Rd w A b) (hc : b.length ≤ c) (hl : b.length ≤ 140737488351232) (hw : -4611686018427387904 ≤ d.writes) (hw2 : d.writes ≤ 9223372036854775807) :
    Calls Try.prog 14 #[.pointer (some ⟨gl, 0, none⟩), .slice A b.length c] w fun e w' => e = .returned (.int .i64 (d.app (bytesA b)).1) ∧ Fr (Fp g bv) w w' ∧ ∃ bv', DiskAt w' base g bv' (d.app (bytesA b)).2 ∧ ∀ k, Fp g bv' k → Fp g bv k ∨ w.heap.size ≤ k := by
  have hcell : w.cell? ⟨gl, 0, none⟩ = some (.pointer (some ⟨g, 0, none⟩)) := by unfold LogAt at hL; simp [World.cell?, hL]
  have HA : ∀ w1, Below w.heap.size w w1 → w1.heap.size = w.heap.size → Calls Try.prog 34 #[.slice A b.length c] w1 fun e w2 => ∃ (A2 : Option Addr) (c2 : Nat), e = .returned (.slice A2 (bytesA b).length c2) ∧ w2.cell? ⟨gl, 0, none⟩ = some (.pointer (some ⟨g, 0, none⟩)) ∧ Aside0 (Below w.heap.size w w2 ∧ OB w2 w.heap.size (.slice A2 (bytesA b).length c2) (bytesA b) ∧ (bytesA b).length ≤ c2) := by
    intro w1 hb1 hz
    have f1 := Fr.of_below hb1 (fun _ => False)
    refine (octet_Bytes.calls 8 (fun _ => True) A c b (bytesA b) w1 ((hy.fr f1 (fun _ _ h => h)).V hc (by omega)) (bytes_f b hl 8 (Nat.le_refl _))).mono ?_
    rintro e w2 ⟨v2, rfl, hR2, hb2⟩
    have hO2 : OB w2 w1.heap.size v2 (bytesA b) := Kd.own_of_R hR2
    obtain ⟨A2, c2, rfl, hc2⟩ := hO2.slice
    have f2 := f1.trans (Fr.of_below hb2 (fun _ => False)) (fun _ h => h.elim)
    exact ⟨A2, c2, rfl, f2.cell hcell (fun h => h), ⟨f2.below _ (Nat.le_refl _) (fun i h => h.elim), by rw [← hz]; exact hO2, hc2⟩⟩
  have HB : ∀ w2 (A2 : Option Addr) (c2 : Nat), Aside0 (Below w.heap.size w w2 ∧ OB w2 w.heap.size (.slice A2 (bytesA b).length c2) (bytesA b) ∧ (bytesA b).length ≤ c2) → Calls Try.prog 16 #[.pointer (some ⟨g, 0, none⟩), .slice A2 (bytesA b).length c2] w2 fun e w3 => e = .returned (.int .i64 (d.app (bytesA b)).1) ∧ w3.cell? ⟨gl, 0, none⟩ = some (.pointer (some ⟨g, 0, none⟩)) ∧ Aside0 (Fr (Fp g bv) w w3 ∧ ∃ bv', DiskAt w3 base g bv' (d.app (bytesA b)).2 ∧ ∀ k, Fp g bv' k → Fp g bv k ∨ w.heap.size ≤ k) := by
    intro w2 A2 c2 H
    have f2 := Fr.of_below H.out.1 (fun _ => False)
    have hlb := (bytesA_len b).1
    refine (app_calls g base bv d A2 c2 (bytesA b) w2 (h.fr f2 (fun _ _ h => h)) (Nat.le_trans hb f2.size) (QB.rd (q_of_own H.out.2.1)) H.out.2.2 (by omega) (H.out.2.1.far (h.lt g (.inl rfl))) hw hw2).mono ?_
    rintro e w3 ⟨rfl, hf3, bv3, hD3, hn3⟩
    have hf := (f2.mono (S' := Fp g bv) (fun _ h => h.elim)).trans hf3 (fun i h => .inl h)
    have z2 := f2.size
    exact ⟨rfl, hf.cell hcell hgl, ⟨hf, bv3, hD3, fun k hk => (hn3 k hk).elim .inl (fun h => .inr (by omega))⟩⟩
  clear hL hgl h hb hy hc hl hw hw2
  have HA := Aside0.mk HA
  have HB := Aside0.mk HB
  go_enter Try.func14, Try.ntmps14
  go_wp2
  go_region_held3 (fun w' => w'.cell? ⟨gl, 0, none⟩ = some (.pointer (some ⟨g, 0, none⟩))) (first | exact hcell | exact hcell2 | exact hcell3)
    (first | (go_at_call 34; refine (HA.out _ (below_drew (Below.refl _ _)) rfl).mono ?_; rintro e w2 ⟨A2, c2, rfl, hcell2, H2⟩) | (go_at_call 16; refine (HB.out _ _ _ H2).mono ?_; rintro e w3 ⟨rfl, hcell3, H3⟩))
  go_wp2
  go_ret
  exact ⟨rfl, H3.out.1, H3.out.2⟩
set_option maxHeartbeats 8000000 in
set_option maxRecDepth 100000 in
theorem compact_calls (gl g base : Nat) (bv : Value) (d : Dsk) (A : Option Addr) (c : Nat) (l : List (List Int)) (w : World) (hL : LogAt w gl g) (hgl : ¬ Fp g bv gl) (h : DiskAt w base g bv d) (hb : base ≤ w.heap.size) (hy : CC w A l) (hc : l.length ≤ c) (hl : szL l ≤ 2097152) (hw : -4611686018427387904 ≤ d.writes) (hw2 : d.writes ≤ 9223372036854775807) :
    Calls Try.prog 21 #[.pointer (some ⟨gl, 0, none⟩), .slice A l.length c] w fun e w' => e = .returned (.int .i64 (d.rep (packA l)).1) ∧ Fr (Fp g bv) w w' ∧ ∃ bv', DiskAt w' base g bv' (d.rep (packA l)).2 ∧ ∀ k, Fp g bv' k → Fp g bv k ∨ w.heap.size ≤ k := by
  have hcell : w.cell? ⟨gl, 0, none⟩ = some (.pointer (some ⟨g, 0, none⟩)) := by unfold LogAt at hL; simp [World.cell?, hL]
  have HA : ∀ w1, Below w.heap.size w w1 → w1.heap.size = w.heap.size → Calls Try.prog 37 #[.slice A l.length c] w1 fun e w2 => ∃ (A2 : Option Addr) (c2 : Nat), e = .returned (.slice A2 (packA l).length c2) ∧ w2.cell? ⟨gl, 0, none⟩ = some (.pointer (some ⟨g, 0, none⟩)) ∧ Aside0 (Below w.heap.size w w2 ∧ OB w2 w.heap.size (.slice A2 (packA l).length c2) (packA l) ∧ (packA l).length ≤ c2) := by
    intro w1 hb1 hz
    have f1 := Fr.of_below hb1 (fun _ => False)
    refine (octet_Pack.calls (l.length + 9) A c l (packA l) w1 (hy.fr f1) hc (pack_f l hl _ (Nat.le_refl _))).mono ?_
    rintro e w2 ⟨v2, rfl, hR2, hb2⟩
    have hO2 : OB w2 w1.heap.size v2 (packA l) := Kd.own_of_R hR2
    obtain ⟨A2, c2, rfl, hc2⟩ := hO2.slice
    have f2 := f1.trans (Fr.of_below hb2 (fun _ => False)) (fun _ h => h.elim)
    exact ⟨A2, c2, rfl, f2.cell hcell (fun h => h), ⟨f2.below _ (Nat.le_refl _) (fun i h => h.elim), by rw [← hz]; exact hO2, hc2⟩⟩
  have HB : ∀ w2 (A2 : Option Addr) (c2 : Nat), Aside0 (Below w.heap.size w w2 ∧ OB w2 w.heap.size (.slice A2 (packA l).length c2) (packA l) ∧ (packA l).length ≤ c2) → Calls Try.prog 33 #[.pointer (some ⟨g, 0, none⟩), .slice A2 (packA l).length c2] w2 fun e w3 => e = .returned (.int .i64 (d.rep (packA l)).1) ∧ w3.cell? ⟨gl, 0, none⟩ = some (.pointer (some ⟨g, 0, none⟩)) ∧ Aside0 (Fr (Fp g bv) w w3 ∧ ∃ bv', DiskAt w3 base g bv' (d.rep (packA l)).2 ∧ ∀ k, Fp g bv' k → Fp g bv k ∨ w.heap.size ≤ k) := by
    intro w2 A2 c2 H
    have f2 := Fr.of_below H.out.1 (fun _ => False)
    have hlb := packA_len l
    refine (rep_calls g base bv d A2 c2 (packA l) w2 (h.fr f2 (fun _ _ h => h)) (Nat.le_trans hb f2.size) (QB.rd (q_of_own H.out.2.1)) H.out.2.2 (by omega) (H.out.2.1.far (h.lt g (.inl rfl))) hw hw2).mono ?_
    rintro e w3 ⟨rfl, hf3, bv3, hD3, hn3⟩
    have hf := (f2.mono (S' := Fp g bv) (fun _ h => h.elim)).trans (hf3.mono (S' := Fp g bv) (fun _ h => .inl h)) (fun i h => .inl h)
    have z2 := f2.size
    exact ⟨rfl, hf.cell hcell hgl, ⟨hf, bv3, hD3, fun k hk => (hn3 k hk).elim .inl (fun h => .inr (by omega))⟩⟩
  clear hL hgl h hb hy hc hl hw hw2
  have HA := Aside0.mk HA
  have HB := Aside0.mk HB
  go_enter Try.func21, Try.ntmps21
  go_wp2
  go_region_held3 (fun w' => w'.cell? ⟨gl, 0, none⟩ = some (.pointer (some ⟨g, 0, none⟩))) (first | exact hcell | exact hcell2 | exact hcell3)
    (first | (go_at_call 37; refine (HA.out _ (below_drew (Below.refl _ _)) rfl).mono ?_; rintro e w2 ⟨A2, c2, rfl, hcell2, H2⟩) | (go_at_call 33; refine (HB.out _ _ _ H2).mono ?_; rintro e w3 ⟨rfl, hcell3, H3⟩))
  go_wp2
  go_ret
  exact ⟨rfl, H3.out.1, H3.out.2⟩
end Go.Proofs.Ytkkgjbafncmohaa.Sha
