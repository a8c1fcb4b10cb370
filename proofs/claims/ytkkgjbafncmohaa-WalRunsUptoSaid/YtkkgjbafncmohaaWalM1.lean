/- Parts of one work, laid together: Wal, WalB, WalC, WalS. -/
import Derived.Test.YtkkgjbafncmohaaDk
import Derived.Test.YtkkgjbafncmohaaVal
import Derived.Test.YtkkgjbafncmohaaScan
import Derived.Test.YtkkgjbafncmohaaQx11
import Derived.Test.YtkkgjbafncmohaaQx3
import Derived.Test.YtkkgjbafncmohaaQx6
import Derived.Deep.RegionHeld3
import Derived.Laws.IdiomStrings
import Derived.Test.YtkkgjbafncmohaaQx10
import Derived.Test.YtkkgjbafncmohaaQx9
/-
  A log: Open, Add, Compact.
-/
set_option linter.unusedVariables false
set_option linter.unusedSimpArgs false
namespace Go.Proofs.Ytkkgjbafncmohaa.Sha
open Go.RowKit Go.Proofs.YtkkgjbafncmohaaW.PrintWords Go.Proofs.YtkkgjbafncmohaaW.PrintLast Go.Proofs.YtkkgjbafncmohaaW.PrintMore Go.Proofs.Ytkkgjbafncmohaa.Q Go.Proofs.Ytkkgjbafncmohaa.Fr Go.Proofs.Ytkkgjbafncmohaa.Oct

/-- A log's block: it holds the disk's address. -/
def LogAt (w : World) (gl g : Nat) : Prop := w.heap[gl]? = some (.cells #[.pointer (some ⟨g, 0, none⟩)] 69 (0, 0))
theorem LogAt.fr {w w' : World} {gl g : Nat} {S : Nat → Prop} (h : LogAt w gl g) (hf : Fr S w w') (hS : ¬ S gl) : LogAt w' gl g := hf.blk h hS
/-- What opening does: the disk behind it, the records, the error's number. -/
def Dsk.open (d : Dsk) : Dsk × List (List Int) × Int :=
  if d.dead = true then (d, [], 115)
  else if (scanA d.bytes).2 < d.bytes.length then
    (if (d.rep (d.bytes.take (scanA d.bytes).2)).1 = 0 then ((d.rep (d.bytes.take (scanA d.bytes).2)).2, (scanA d.bytes).1, 0) else ((d.rep (d.bytes.take (scanA d.bytes).2)).2, [], (d.rep (d.bytes.take (scanA d.bytes).2)).1))
  else (d, (scanA d.bytes).1, 0)
theorem Dsk.rep_writes (d : Dsk) (b : List Int) : d.writes - 1 ≤ (d.rep b).2.writes ∧ (d.rep b).2.writes ≤ d.writes := by
  have := d.wr_writes (b.length : Int)
  unfold Dsk.rep
  split
  · exact ⟨this.1, this.2.1⟩
  · exact ⟨this.1, this.2.1⟩
theorem Dsk.app_writes (d : Dsk) (b : List Int) : d.writes - 1 ≤ (d.app b).2.writes ∧ (d.app b).2.writes ≤ d.writes := by
  have := d.wr_writes ((d.bytes.length : Int) + (b.length : Int))
  unfold Dsk.app
  split
  · exact ⟨this.1, this.2.1⟩
  split
  · exact ⟨this.1, this.2.1⟩
  · exact ⟨this.1, this.2.1⟩
set_option maxHeartbeats 8000000 in
set_option maxRecDepth 100000 in
theorem open_calls (g base : Nat) (bv : Value) (d : Dsk) (w : World) (h : DiskAt w base g bv d) (hb : base ≤ w.heap.size) (hB : Bys d.bytes) (hw : -4611686018427387904 ≤ d.writes) (hw2 : d.writes ≤ 9223372036854775807) :
    Calls Try.prog 12 #[.pointer (some ⟨g, 0, none⟩)] w fun e w' => ∃ (pv rv : Value) (A : Option Addr) (c : Nat), e = .returned (.tuple #[pv, rv, .int .i64 d.open.2.2]) ∧ rv = .slice A d.open.2.1.length c ∧ d.open.2.1.length ≤ c ∧ CC w' A d.open.2.1 ∧ (d.open.2.2 ≠ 0 → pv = .pointer none) ∧ (d.open.2.2 = 0 → ∃ gl, pv = .pointer (some ⟨gl, 0, none⟩) ∧ w.heap.size ≤ gl ∧ LogAt w' gl g) ∧
      Fr (Fp g bv) w w' ∧ ∃ bv', DiskAt w' base g bv' d.open.1 ∧ (∀ k, Fp g bv' k → Fp g bv k ∨ w.heap.size ≤ k) ∧ (∀ gl, pv = .pointer (some ⟨gl, 0, none⟩) → ¬ Fp g bv' gl) := by
  have HH := Aside0.mk (And.intro h (And.intro hb hB))
  by_cases hd : d.dead = true
  · have e : d.open = (d, [], 115) := by unfold Dsk.open; rw [if_pos hd]
    rw [e]
    clear h hb hB e
    go_enter Try.func12, Try.ntmps12
    go_wp2_with (fail)
    refine (dead_calls g base bv d w HH.out.1).mono ?_
    rintro e w1 ⟨rfl, rfl⟩
    rw [hd]
    go_wp2
    go_ret3
    exact ⟨_, _, none, 0, rfl, rfl, Nat.le_refl _, ⟨rfl, by simp, fun h => by simp at h⟩, fun _ => rfl, fun h => by simp at h, Fr.refl _ _, bv, HH.out.1, fun k hk => .inl hk, fun gl h => by cases h⟩
  · have hd' : d.dead = false := by simpa using hd
    have hlen := h.ln
    have hS := scan_f d.bytes hB (by omega) (d.bytes.length + 12) (Nat.le_refl _)
    have hso := scanA_sound d.bytes hB (by omega)
    obtain ⟨⟨rs, n⟩, hsc⟩ : ∃ r, scanA d.bytes = r := ⟨_, rfl⟩
    rw [hsc] at hS hso
    have hop : d.open = if n < d.bytes.length then (if (d.rep (d.bytes.take n)).1 = 0 then ((d.rep (d.bytes.take n)).2, rs, 0) else ((d.rep (d.bytes.take n)).2, [], (d.rep (d.bytes.take n)).1)) else (d, rs, 0) := by
      unfold Dsk.open
      rw [if_neg hd, hsc]
    have HS := Aside0.mk (And.intro hS (And.intro hso hlen))
    clear h hb hB hS hso hsc hd hlen
    by_cases hn : n < d.bytes.length
    · rw [if_pos hn] at hop
      have c1 : decide ((n : Int) < (d.bytes.length : Int)) = true := decide_eq_true (by omega)
      by_cases h0 : (d.rep (d.bytes.take n)).1 = 0
      · rw [if_pos h0] at hop
        rw [hop]
        clear hop
        obtain ⟨i0, hi0, _, hsz, _⟩ := info_parts infoB
        go_enter Try.func12, Try.ntmps12
        go_wp2_with (fail)
        refine (dead_calls g base bv d w HH.out.1).mono ?_
        rintro e w1 ⟨rfl, rfl⟩
        rw [hd']
        go_wp2_with (fail)
        refine (bytes_calls g base bv d w1 HH.out.1).mono ?_
        rintro e w2 ⟨v2, rfl, hO2, hb2⟩
        obtain ⟨A2, c2, rfl, hc2⟩ := hO2.slice
        have hcut := cut_to (P := Try.prog) 22 5 .i64 Try.underlying22 hi0 A2 d.bytes.length c2 (n : Int) (by omega) (by have := HS.out; omega) hc2
        rw [Int.toNat_natCast] at hcut
        have H2 := Aside0.mk (And.intro hb2 hO2)
        clear hO2 hb2
        go_wp2_with (fail)
        refine (wal_Scan.calls (d.bytes.length + 12) A2 c2 d.bytes rs (n : Int) w2 ((QB.rd (q_of_own H2.out.2)).C (by have := HS.out; omega)) hc2 HS.out.1).mono ?_
        rintro e w3 ⟨v3, rfl, hS3, hb3⟩
        have hR3 := Kd.R_bound (Kd.S_R hS3)
        obtain ⟨A3, c3, rfl, hc3, hC3⟩ := Kd.S_reads hS3
        have f2 := Fr.of_below H2.out.1 (fun _ => False)
        have f3 := Fr.of_below hb3 (fun _ => False)
        have F3 := f2.trans f3 (fun _ h => h.elim)
        have hlt := HH.out.1.lt g (.inl rfl)
        have H3 := Aside0.mk (And.intro F3 (And.intro hC3 (And.intro hc3 (And.intro (HH.out.1.fr F3 (fun _ _ h => h)) (And.intro ((QB.rd (q_of_own (H2.out.2.fr f3 (fun _ _ h => h)))).take n) (H2.out.2.far hlt))))))
        have hg2 : g < w2.heap.size := by have := H2.out.1.size; omega
        have HR := Aside0.mk (And.intro hR3 hg2)
        clear H2 hS3 hb3 hC3 hc3 f2 f3 F3 hlt hR3 hg2
        go_wp2_with (fail)
        have hln : (d.bytes.take n).length = n := by rw [List.length_take]; omega
        have hrp := rep_calls g base bv d A2 c2 (d.bytes.take n) w3 H3.out.2.2.2.1 (Nat.le_trans HH.out.2.1 H3.out.1.size) H3.out.2.2.2.2.1 (by rw [hln]; omega) (by rw [hln]; have := HS.out; omega) H3.out.2.2.2.2.2 hw hw2
        rw [hln] at hrp
        refine hrp.mono ?_
        clear hrp hcut
        rintro e w4 ⟨rfl, hf4, bv4, hD4, hn4⟩
        have z3 := H3.out.1.size
        have z4 := hf4.size
        rw [h0]
        have F4 : Fr (Fp g bv) w1 w4 := (H3.out.1.mono (fun _ h => h.elim)).trans (hf4.mono (S' := Fp g bv) (fun _ h => .inl h)) (fun i h => .inl h)
        have hC4 : CC w4 A3 rs := by
          have := Kd.R_step HR.out.1 (w1 := w4) (fun k hk hlt => hf4.block k hlt (fun e => by have := hk.2.1; have := HR.out.2; omega))
          exact (Kd.R_reads' this).2.2
        have H4 := Aside0.mk (And.intro F4 (And.intro hC4 (And.intro H3.out.2.2.1 (And.intro hD4 hn4))))
        clear H3 hf4 hD4 hn4 F4 hC4 h0
        go_wp2
        have hg5 := heap_alloc_new w4 (.cells #[.pointer (some ⟨g, 0, none⟩)] 69)
        have hb5 := below_alloc (Below.refl w4.heap.size w4) (.cells #[.pointer (some ⟨g, 0, none⟩)] 69)
        generalize w4.alloc (.cells #[.pointer (some ⟨g, 0, none⟩)] 69) = w5 at *
        have f5 := Fr.of_below hb5 (fun _ => False)
        go_ret3
        exact ⟨_, _, A3, c3, rfl, rfl, H4.out.2.2.1, CC.fr (show CC w4 A3 rs from H4.out.2.1) f5, fun h => absurd rfl h, fun _ => ⟨w4.heap.size, rfl, by omega, hg5⟩, H4.out.1.trans f5 (fun _ h => h.elim), bv4, H4.out.2.2.2.1.fr f5 (fun _ _ h => h), fun k hk => (H4.out.2.2.2.2 k hk).elim .inl (fun h => .inr (by omega)), fun gl h => by
          cases h
          exact fun h2 => by have := H4.out.2.2.2.1.lt _ h2; omega⟩
      · rw [if_neg h0] at hop
        obtain ⟨er, her⟩ : ∃ er, (d.rep (d.bytes.take n)).1 = er := ⟨_, rfl⟩
        rw [hop]
        rw [her] at h0 ⊢
        clear hop
        obtain ⟨i0, hi0, _, hsz, _⟩ := info_parts infoB
        go_enter Try.func12, Try.ntmps12
        go_wp2_with (fail)
        refine (dead_calls g base bv d w HH.out.1).mono ?_
        rintro e w1 ⟨rfl, rfl⟩
        rw [hd']
        go_wp2_with (fail)
        refine (bytes_calls g base bv d w1 HH.out.1).mono ?_
        rintro e w2 ⟨v2, rfl, hO2, hb2⟩
        obtain ⟨A2, c2, rfl, hc2⟩ := hO2.slice
        have hcut := cut_to (P := Try.prog) 22 5 .i64 Try.underlying22 hi0 A2 d.bytes.length c2 (n : Int) (by omega) (by have := HS.out; omega) hc2
        rw [Int.toNat_natCast] at hcut
        have H2 := Aside0.mk (And.intro hb2 hO2)
        clear hO2 hb2
        go_wp2_with (fail)
        refine (wal_Scan.calls (d.bytes.length + 12) A2 c2 d.bytes rs (n : Int) w2 ((QB.rd (q_of_own H2.out.2)).C (by have := HS.out; omega)) hc2 HS.out.1).mono ?_
        rintro e w3 ⟨v3, rfl, hS3, hb3⟩
        have hR3 := Kd.R_bound (Kd.S_R hS3)
        obtain ⟨A3, c3, rfl, hc3, hC3⟩ := Kd.S_reads hS3
        have f2 := Fr.of_below H2.out.1 (fun _ => False)
        have f3 := Fr.of_below hb3 (fun _ => False)
        have F3 := f2.trans f3 (fun _ h => h.elim)
        have hlt := HH.out.1.lt g (.inl rfl)
        have H3 := Aside0.mk (And.intro F3 (And.intro hC3 (And.intro hc3 (And.intro (HH.out.1.fr F3 (fun _ _ h => h)) (And.intro ((QB.rd (q_of_own (H2.out.2.fr f3 (fun _ _ h => h)))).take n) (H2.out.2.far hlt))))))
        have hg2 : g < w2.heap.size := by have := H2.out.1.size; omega
        have HR := Aside0.mk (And.intro hR3 hg2)
        clear H2 hS3 hb3 hC3 hc3 f2 f3 F3 hlt hR3 hg2
        go_wp2_with (fail)
        have hln : (d.bytes.take n).length = n := by rw [List.length_take]; omega
        have hrp := rep_calls g base bv d A2 c2 (d.bytes.take n) w3 H3.out.2.2.2.1 (Nat.le_trans HH.out.2.1 H3.out.1.size) H3.out.2.2.2.2.1 (by rw [hln]; omega) (by rw [hln]; have := HS.out; omega) H3.out.2.2.2.2.2 hw hw2
        rw [hln] at hrp
        refine hrp.mono ?_
        clear hrp hcut
        rintro e w4 ⟨rfl, hf4, bv4, hD4, hn4⟩
        rw [her]
        have z3 := H3.out.1.size
        have z4 := hf4.size
        have c2' : decide (er = 0) = false := decide_eq_false h0
        have c3' : (er == 0) = false := by simpa using h0
        have c4' : ¬ er = 0 := h0
        have F4 : Fr (Fp g bv) w1 w4 := (H3.out.1.mono (fun _ h => h.elim)).trans (hf4.mono (S' := Fp g bv) (fun _ h => .inl h)) (fun i h => .inl h)
        have H4 := Aside0.mk (And.intro F4 (And.intro h0 (And.intro hD4 hn4)))
        clear H3 hf4 hD4 hn4 F4 h0 her
        go_wp2
        go_ret3
        exact ⟨_, _, none, 0, rfl, rfl, Nat.le_refl _, ⟨rfl, by simp, fun h => by simp at h⟩, fun _ => rfl, fun h => absurd h H4.out.2.1, H4.out.1, bv4, H4.out.2.2.1, fun k hk => (H4.out.2.2.2 k hk).elim .inl (fun h => .inr (by omega)), fun gl h => by cases h⟩
    · rw [if_neg hn] at hop
      rw [hop]
      have c1 : decide ((n : Int) < (d.bytes.length : Int)) = false := decide_eq_false (by omega)
      clear hop
      go_enter Try.func12, Try.ntmps12
      go_wp2_with (fail)
      refine (dead_calls g base bv d w HH.out.1).mono ?_
      rintro e w1 ⟨rfl, rfl⟩
      rw [hd']
      go_wp2_with (fail)
      refine (bytes_calls g base bv d w1 HH.out.1).mono ?_
      rintro e w2 ⟨v2, rfl, hO2, hb2⟩
      obtain ⟨A2, c2, rfl, hc2⟩ := hO2.slice
      have H2 := Aside0.mk (And.intro hb2 (QB.rd (q_of_own hO2)))
      clear hO2 hb2
      go_wp2_with (fail)
      refine (wal_Scan.calls (d.bytes.length + 12) A2 c2 d.bytes rs (n : Int) w2 (H2.out.2.C (by have := HS.out; omega)) hc2 HS.out.1).mono ?_
      rintro e w3 ⟨v3, rfl, hS3, hb3⟩
      obtain ⟨A3, c3, rfl, hc3, hC3⟩ := Kd.S_reads hS3
      have H3 := Aside0.mk (And.intro (((Fr.of_below H2.out.1 (fun _ => False)).trans (Fr.of_below hb3 (fun _ => False)) (fun _ h => h.elim))) (And.intro hC3 hc3))
      clear H2 hS3 hb3 hC3 hc3
      go_wp2
      have hg4 := heap_alloc_new w3 (.cells #[.pointer (some ⟨g, 0, none⟩)] 69)
      have hb4 := below_alloc (Below.refl w3.heap.size w3) (.cells #[.pointer (some ⟨g, 0, none⟩)] 69)
      generalize w3.alloc (.cells #[.pointer (some ⟨g, 0, none⟩)] 69) = w4 at *
      have f4 := Fr.of_below hb4 (fun _ => False)
      have F4 := H3.out.1.trans f4 (fun _ h => h.elim)
      have z3 := H3.out.1.size
      go_ret3
      exact ⟨_, _, A3, c3, rfl, rfl, H3.out.2.2, CC.fr (show CC w3 A3 rs from H3.out.2.1) f4, fun h => absurd rfl h, fun _ => ⟨w3.heap.size, rfl, z3, hg4⟩, F4.mono (fun _ h => h.elim), bv, HH.out.1.fr F4 (fun _ _ h => h), fun k hk => .inl hk, fun gl h => by
        cases h
        exact fun h2 => by have := HH.out.1.lt _ h2; omega⟩
end Go.Proofs.Ytkkgjbafncmohaa.Sha

/-
  A log: Add, Compact.
-/
set_option linter.unusedVariables false
set_option linter.unusedSimpArgs false
namespace Go.Proofs.Ytkkgjbafncmohaa.Sha
open Go.RowKit Go.Proofs.YtkkgjbafncmohaaW.PrintWords Go.Proofs.YtkkgjbafncmohaaW.PrintLast Go.Proofs.YtkkgjbafncmohaaW.PrintMore Go.Proofs.Ytkkgjbafncmohaa.Q Go.Proofs.Ytkkgjbafncmohaa.Fr Go.Proofs.Ytkkgjbafncmohaa.Oct

theorem Rd.V {w : World} {A : Option Addr} {ys : List Int} {c e base : Nat} (h : Rd w A ys) (hc : ys.length ≤ c) (hl : ys.length ≤ 9223372036854775807) : Kd.V (Kd.int .u8) e w base (fun _ => True) (.slice A ys.length c) ys :=
  Kd.V_mk hc (fun W' hm => Rd.C (fun j u hu => by
    obtain ⟨ad, e, hcell⟩ := h j u hu
    exact ⟨ad, e, (World.cell?_of_block (hm (ad.add j).block trivial (World.block_lt_of_cell? w _ hcell))).trans hcell⟩) hl)
set_option maxHeartbeats 8000000 in
set_option maxRecDepth 100000 in
theorem add_calls (gl g base : Nat) (bv : Value) (d : Dsk) (A : Option Addr) (c : Nat) (b : List Int) (w : World) (hL : LogAt w gl g) (hgl : ¬ Fp g bv gl) (h : DiskAt w base g bv d) (hb : base ≤ w.heap.size) (hy : Rd w A b) (hc : b.length ≤ c) (hl : b.length ≤ 140737488351232) (hw : -4611686018427387904 ≤ d.writes) (hw2 : d.writes ≤ 9223372036854775807) :
    Calls Try.prog 14 #[.pointer (some ⟨gl, 0, none⟩), .slice A b.length c] w fun e w' => e = .returned (.int .i64 (d.app (bytesA b)).1) ∧ Fr (Fp g bv) w w' ∧ ∃ bv', DiskAt w' base g bv' (d.app (bytesA b)).2 ∧ ∀ k, Fp g bv' k → Fp g bv k ∨ w.heap.size ≤ k := by
  have hcell : w.cell? ⟨gl, 0, none⟩ = some (.pointer (some ⟨g, 0, none⟩)) := by unfold LogAt at hL; simp [World.cell?, hL]
  have HA : ∀ w1, Below w.heap.size w w1 → w1.heap.size = w.heap.size → Calls Try.prog 34 #[.slice A b.length c] w1 fun e w2 => ∃ (A2 : Option Addr) (c2 : Nat), e = .returned (.slice A2 (bytesA b).length c2) ∧ w2.cell? ⟨gl, 0, none⟩ = some (.pointer (some ⟨g, 0, none⟩)) ∧ Aside0 (Below w.heap.size w w2 ∧ OB w2 w.heap.size (.slice A2 (bytesA b).length c2) (bytesA b) ∧ (bytesA b).length ≤ c2) := by
    intro w1 hb1 hz
    have f1 := Fr.of_below hb1 (fun _ => False)
    refine (octet_Bytes.calls 8 (fun _ => True) A c b (bytesA b) w1 ((hy.fr f1 (fun _ _ h => h)).V hc (by omega)) (bytes_f b hl 8 (Nat.le_refl _))).mono ?_
    rintro e w2 ⟨v2, rfl, hR2, hb2⟩
    have hO2 : OB w2 w1.heap.size v2 (bytesA b) := Kd.own_of_R hR2
    obtain ⟨A2, c2, rfl, hc2⟩ := hO2.slice
    have f2 := f1.trans (Fr.of_below hb2 (fun _ => False)) (fun _ h => h.elim)
    exact ⟨A2, c2, rfl, f2.cell hcell (fun h => h), ⟨f2.below _ (Nat.le_refl _) (fun i h => h.elim), by rw [← hz]; exact hO2, hc2⟩⟩
  have HB : ∀ w2 (A2 : Option Addr) (c2 : Nat), Aside0 (Below w.heap.size w w2 ∧ OB w2 w.heap.size (.slice A2 (bytesA b).length c2) (bytesA b) ∧ (bytesA b).length ≤ c2) → Calls Try.prog 16 #[.pointer (some ⟨g, 0, none⟩), .slice A2 (bytesA b).length c2] w2 fun e w3 => e = .returned (.int .i64 (d.app (bytesA b)).1) ∧ w3.cell? ⟨gl, 0, none⟩ = some (.pointer (some ⟨g, 0, none⟩)) ∧ Aside0 (Fr (Fp g bv) w w3 ∧ ∃ bv', DiskAt w3 base g bv' (d.app (bytesA b)).2 ∧ ∀ k, Fp g bv' k → Fp g bv k ∨ w.heap.size ≤ k) := by
    intro w2 A2 c2 H
    have f2 := Fr.of_below H.out.1 (fun _ => False)
    have hlb := (bytesA_len b).1
    refine (app_calls g base bv d A2 c2 (bytesA b) w2 (h.fr f2 (fun _ _ h => h)) (Nat.le_trans hb f2.size) (QB.rd (q_of_own H.out.2.1)) H.out.2.2 (by omega) (H.out.2.1.far (h.lt g (.inl rfl))) hw hw2).mono ?_
    rintro e w3 ⟨rfl, hf3, bv3, hD3, hn3⟩
    have hf := (f2.mono (S' := Fp g bv) (fun _ h => h.elim)).trans hf3 (fun i h => .inl h)
    have z2 := f2.size
    exact ⟨rfl, hf.cell hcell hgl, ⟨hf, bv3, hD3, fun k hk => (hn3 k hk).elim .inl (fun h => .inr (by omega))⟩⟩
  clear hL hgl h hb hy hc hl hw hw2
  have HA := Aside0.mk HA
  have HB := Aside0.mk HB
  go_enter Try.func14, Try.ntmps14
  go_wp2
  go_region_held3 (fun w' => w'.cell? ⟨gl, 0, none⟩ = some (.pointer (some ⟨g, 0, none⟩))) (first | exact hcell | exact hcell2 | exact hcell3)
    (first | (go_at_call 34; refine (HA.out _ (below_drew (Below.refl _ _)) rfl).mono ?_; rintro e w2 ⟨A2, c2, rfl, hcell2, H2⟩) | (go_at_call 16; refine (HB.out _ _ _ H2).mono ?_; rintro e w3 ⟨rfl, hcell3, H3⟩))
  go_wp2
  go_ret
  exact ⟨rfl, H3.out.1, H3.out.2⟩
set_option maxHeartbeats 8000000 in
set_option maxRecDepth 100000 in
theorem compact_calls (gl g base : Nat) (bv : Value) (d : Dsk) (A : Option Addr) (c : Nat) (l : List (List Int)) (w : World) (hL : LogAt w gl g) (hgl : ¬ Fp g bv gl) (h : DiskAt w base g bv d) (hb : base ≤ w.heap.size) (hy : CC w A l) (hc : l.length ≤ c) (hl : szL l ≤ 2097152) (hw : -4611686018427387904 ≤ d.writes) (hw2 : d.writes ≤ 9223372036854775807) :
    Calls Try.prog 21 #[.pointer (some ⟨gl, 0, none⟩), .slice A l.length c] w fun e w' => e = .returned (.int .i64 (d.rep (packA l)).1) ∧ Fr (Fp g bv) w w' ∧ ∃ bv', DiskAt w' base g bv' (d.rep (packA l)).2 ∧ ∀ k, Fp g bv' k → Fp g bv k ∨ w.heap.size ≤ k := by
  have hcell : w.cell? ⟨gl, 0, none⟩ = some (.pointer (some ⟨g, 0, none⟩)) := by unfold LogAt at hL; simp [World.cell?, hL]
  have HA : ∀ w1, Below w.heap.size w w1 → w1.heap.size = w.heap.size → Calls Try.prog 37 #[.slice A l.length c] w1 fun e w2 => ∃ (A2 : Option Addr) (c2 : Nat), e = .returned (.slice A2 (packA l).length c2) ∧ w2.cell? ⟨gl, 0, none⟩ = some (.pointer (some ⟨g, 0, none⟩)) ∧ Aside0 (Below w.heap.size w w2 ∧ OB w2 w.heap.size (.slice A2 (packA l).length c2) (packA l) ∧ (packA l).length ≤ c2) := by
    intro w1 hb1 hz
    have f1 := Fr.of_below hb1 (fun _ => False)
    refine (octet_Pack.calls (l.length + 9) A c l (packA l) w1 (hy.fr f1) hc (pack_f l hl _ (Nat.le_refl _))).mono ?_
    rintro e w2 ⟨v2, rfl, hR2, hb2⟩
    have hO2 : OB w2 w1.heap.size v2 (packA l) := Kd.own_of_R hR2
    obtain ⟨A2, c2, rfl, hc2⟩ := hO2.slice
    have f2 := f1.trans (Fr.of_below hb2 (fun _ => False)) (fun _ h => h.elim)
    exact ⟨A2, c2, rfl, f2.cell hcell (fun h => h), ⟨f2.below _ (Nat.le_refl _) (fun i h => h.elim), by rw [← hz]; exact hO2, hc2⟩⟩
  have HB : ∀ w2 (A2 : Option Addr) (c2 : Nat), Aside0 (Below w.heap.size w w2 ∧ OB w2 w.heap.size (.slice A2 (packA l).length c2) (packA l) ∧ (packA l).length ≤ c2) → Calls Try.prog 33 #[.pointer (some ⟨g, 0, none⟩), .slice A2 (packA l).length c2] w2 fun e w3 => e = .returned (.int .i64 (d.rep (packA l)).1) ∧ w3.cell? ⟨gl, 0, none⟩ = some (.pointer (some ⟨g, 0, none⟩)) ∧ Aside0 (Fr (Fp g bv) w w3 ∧ ∃ bv', DiskAt w3 base g bv' (d.rep (packA l)).2 ∧ ∀ k, Fp g bv' k → Fp g bv k ∨ w.heap.size ≤ k) := by
    intro w2 A2 c2 H
    have f2 := Fr.of_below H.out.1 (fun _ => False)
    have hlb := packA_len l
    refine (rep_calls g base bv d A2 c2 (packA l) w2 (h.fr f2 (fun _ _ h => h)) (Nat.le_trans hb f2.size) (QB.rd (q_of_own H.out.2.1)) H.out.2.2 (by omega) (H.out.2.1.far (h.lt g (.inl rfl))) hw hw2).mono ?_
    rintro e w3 ⟨rfl, hf3, bv3, hD3, hn3⟩
    have hf := (f2.mono (S' := Fp g bv) (fun _ h => h.elim)).trans (hf3.mono (S' := Fp g bv) (fun _ h => .inl h)) (fun i h => .inl h)
    have z2 := f2.size
    exact ⟨rfl, hf.cell hcell hgl, ⟨hf, bv3, hD3, fun k hk => (hn3 k hk).elim .inl (fun h => .inr (by omega))⟩⟩
  clear hL hgl h hb hy hc hl hw hw2
  have HA := Aside0.mk HA
  have HB := Aside0.mk HB
  go_enter Try.func21, Try.ntmps21
  go_wp2
  go_region_held3 (fun w' => w'.cell? ⟨gl, 0, none⟩ = some (.pointer (some ⟨g, 0, none⟩))) (first | exact hcell | exact hcell2 | exact hcell3)
    (first | (go_at_call 37; refine (HA.out _ (below_drew (Below.refl _ _)) rfl).mono ?_; rintro e w2 ⟨A2, c2, rfl, hcell2, H2⟩) | (go_at_call 33; refine (HB.out _ _ _ H2).mono ?_; rintro e w3 ⟨rfl, hcell3, H3⟩))
  go_wp2
  go_ret
  exact ⟨rfl, H3.out.1, H3.out.2⟩
end Go.Proofs.Ytkkgjbafncmohaa.Sha

/-
  A log's example.
-/
set_option linter.unusedVariables false
set_option linter.unusedSimpArgs false
namespace Go.Proofs.Ytkkgjbafncmohaa.Sha
open Go.RowKit Go.Proofs.YtkkgjbafncmohaaW.PrintWords Go.Proofs.YtkkgjbafncmohaaW.PrintLast Go.Proofs.YtkkgjbafncmohaaW.PrintMore Go.Proofs.Ytkkgjbafncmohaa.Q Go.Proofs.Ytkkgjbafncmohaa.Fr Go.Proofs.Ytkkgjbafncmohaa.Oct

theorem bytesA_small {p : List Int} (h : p.length < 128) : bytesA p = (p.length : Int) :: p := by
  unfold bytesA
  rw [intA_yes (by omega), Int.toNat_natCast, encI_small h]
  rfl
/-- A log beside what was there. -/
structure Lk (w W : World) (gl g : Nat) (bv : Value) (d : Dsk) : Prop where
  dk : Dk w W g bv d
  log : LogAt W gl g
  far : ¬ Fp g bv gl
  new : w.heap.size ≤ gl
theorem Lk.call {w W W' : World} {gl g : Nat} {bv bv' : Value} {d d' : Dsk} (h : Lk w W gl g bv d) (hf : Fr (Fp g bv) W W') (ha : DiskAt W' w.heap.size g bv' d') (hn : ∀ k, Fp g bv' k → Fp g bv k ∨ W.heap.size ≤ k) : Lk w W' gl g bv' d' :=
  ⟨h.dk.call hf ha, h.log.fr hf h.far, fun e => (hn _ e).elim h.far (fun e => by have := blk_lt h.log; omega), h.new⟩
theorem Lk.call1 {w W W' : World} {gl g : Nat} {bv : Value} {d d' : Dsk} (h : Lk w W gl g bv d) (hf : Fr (fun k => k = g) W W') (ha : DiskAt W' w.heap.size g bv d') : Lk w W' gl g bv d' :=
  h.call (hf.mono (fun i e => .inl e)) ha (fun k hk => .inl hk)
theorem Lk.below {w W W' : World} {gl g : Nat} {bv : Value} {d : Dsk} (h : Lk w W gl g bv d) (hb : Below W.heap.size W W') : Lk w W' gl g bv d :=
  ⟨h.dk.below hb, h.log.fr (Fr.of_below hb (fun _ => False)) (fun h => h), h.far, h.new⟩

theorem open_nil (d : Dsk) (h : d.dead = false) (hb : d.bytes = []) : d.open = (d, [], 0) := by
  have hs : scanA d.bytes = ([], 0) := by rw [hb]; rfl
  unfold Dsk.open
  rw [if_neg (by rw [h]; decide), hs, hb, if_neg (by simp)]
theorem alive_scan : scanA [1, 120, 2] = ([[120]], 2) := by
  have e : ([1, 120, 2] : List Int) = packA [[120]] ++ (bytesA [121, 122]).take 1 := by
    rw [packA_cons, packA_nil, bytesA_small (by decide), bytesA_small (by decide)]
    rfl
  have e2 : (packA [[120]]).length = 2 := by
    rw [packA_cons, packA_nil, bytesA_small (by decide)]
    rfl
  have hB : Bys (packA [[120]] ++ (bytesA [121, 122]).take 1) := by
    rw [← e]
    unfold Bys
    decide
  rw [e, scanA_pack [[120]] _ (torn_take [121, 122] (by decide) 1 (by rw [bytesA_small (by decide)]; decide)) (by simp) hB (by rw [← e]; decide), e2]
set_option maxHeartbeats 8000000 in
set_option maxRecDepth 100000 in
theorem walive_calls (w : World) : Calls Try.prog 7 #[] w fun e w' => e = .returned (.bool true) ∧ Below w.heap.size w w' := by
  go_enter Try.func7, Try.ntmps7
  go_wp2_with (fail)
  refine (dnew_calls 100 w).mono ?_
  rintro e w1 ⟨g, rfl, hD1, hb1⟩
  have H1 := Aside0.mk (Dk.new (Fr.refl _ _) hD1 hb1)
  clear hD1 hb1
  go_wp2_with (fail)
  have ho := open_calls g w.heap.size _ _ w1 H1.out.at' H1.out.F.size (by show Bys []; exact Bys.nil) (by decide) (by decide)
  rw [open_nil (dsk0 100) rfl rfl] at ho
  refine ho.mono ?_
  clear ho
  rintro e w2 ⟨pv, rv, A2, c2, rfl, rfl, hc2, hC2, hp1, hp2, hf2, bv2, hD2, hn2, ha2⟩
  obtain ⟨gl, rfl, hgl, hL⟩ := hp2 rfl
  have H2 := Aside0.mk (Lk.mk (H1.out.call hf2 hD2) hL (ha2 gl rfl) (Nat.le_trans H1.out.F.size hgl))
  clear H1 hC2 hp1 hp2 hf2 hD2 hn2 ha2 hgl hL
  go_wp2_with (first | ((with_reducible refine gate_dst (N := 28) rfl ?_); refine wpList_constb rfl [120] (by rfl) (fun _ => by rfl) (by first | (go_simp; done) | (go_simp; rfl) | (go_simp; exact ⟨rfl, rfl⟩)) _ (by rfl) (fun _ => rfl) ?_; intro g3 v3 w3 hr3 hb3 hg3 hg3'))
  have h3 := H2.out.below hb3
  have e3 : (dsk0 100).app (bytesA [120]) = (0, ⟨[1, 120], 100, false, false, -1, 0⟩) := by rw [bytesA_small (by decide)]; kernel_rfl
  refine (add_calls gl g w.heap.size bv2 _ (some ⟨g3, 0, none⟩) 1 [120] w3 h3.log h3.far h3.dk.at' h3.dk.F.size hr3 (by decide) (by decide) (by decide) (by decide)).mono ?_
  rintro e w4 ⟨rfl, hf4, bv4, hD4, hn4⟩
  rw [e3] at hD4 ⊢
  have H4 := Aside0.mk (h3.call hf4 hD4 hn4)
  clear H2 h3 e3 hf4 hD4 hn4 hr3 hb3
  go_wp2_with (fail)
  refine (break_calls g w.heap.size bv4 _ 0 1 w4 H4.out.dk.at').mono ?_
  rintro e w5 ⟨rfl, hf5, hD5⟩
  have H5 := Aside0.mk (H4.out.call1 hf5 hD5)
  clear H4 hf5 hD5
  go_wp2_with (first | ((with_reducible refine gate_dst (N := 36) rfl ?_); refine wpList_constb rfl [121, 122] (by rfl) (fun _ => by rfl) (by first | (go_simp; done) | (go_simp; rfl) | (go_simp; exact ⟨rfl, rfl⟩)) _ (by rfl) (fun _ => rfl) ?_; intro g6 v6 w6 hr6 hb6 hg6 hg6'))
  have h6 := H5.out.below hb6
  have e6 : (Dsk.brk ⟨[1, 120], 100, false, false, -1, 0⟩ 0 1).app (bytesA [121, 122]) = (115, ⟨[1, 120, 2], 100, true, true, 0, 1⟩) := by rw [bytesA_small (by decide)]; kernel_rfl
  refine (add_calls gl g w.heap.size bv4 _ (some ⟨g6, 0, none⟩) 2 [121, 122] w6 h6.log h6.far h6.dk.at' h6.dk.F.size hr6 (by decide) (by decide) (by decide) (by decide)).mono ?_
  rintro e w7 ⟨rfl, hf7, bv7, hD7, hn7⟩
  rw [e6] at hD7 ⊢
  have H7 := Aside0.mk (h6.call hf7 hD7 hn7)
  clear H5 h6 e6 hf7 hD7 hn7 hr6 hb6
  go_wp2_with (fail)
  refine (mend_calls g w.heap.size bv7 _ w7 H7.out.dk.at').mono ?_
  rintro e w8 ⟨rfl, hf8, hD8⟩
  have H8 := Aside0.mk (H7.out.call1 hf8 hD8)
  clear H7 hf8 hD8
  go_wp2_with (fail)
  have e9 : (Dsk.mend ⟨[1, 120, 2], 100, true, true, 0, 1⟩).open = (⟨[1, 120], 100, false, false, -1, 0⟩, [[120]], 0) := by
    show (⟨[1, 120, 2], 100, false, false, 0, 0⟩ : Dsk).open = _
    unfold Dsk.open
    rw [alive_scan]
    rfl
  have ho := open_calls g w.heap.size _ _ w8 H8.out.dk.at' H8.out.dk.F.size (by show Bys [1, 120, 2]; unfold Bys; decide) (by decide) (by decide)
  rw [e9] at ho
  refine ho.mono ?_
  clear ho e9
  rintro e w9 ⟨pv9, rv9, A9, c9, rfl, rfl, hc9, hC9, hp1, hp2, hf9, bv9, hD9, hn9, ha9⟩
  have H9 := Aside0.mk (H8.out.dk.call hf9 hD9)
  obtain ⟨ad9, B9, k9, rfl, hcell9, hk9, hr9⟩ := hC9.get 0 (by decide)
  have hr9' : Rd w9 B9 [120] := hr9
  obtain ⟨bd, rfl, _⟩ := hr9' 0 (.int .u8 120) rfl
  have hcell9' : w9.cell? (ad9.add 0) = some (.slice (some bd) 1 k9) := hcell9
  have hcell0 : w9.cell? ad9 = some (.slice (some bd) 1 k9) := by rw [← hcell9', show ad9.add 0 = ad9 from by unfold Addr.add; split <;> simp_all]
  have kr := run_convert_bytes_back (P := Try.prog) w9 22 9 5 bd k9 [120] Try.underlying22 Try.underlying5 Try.underlying9 (fun j hj => by
    have hj0 : j = 0 := by simpa using hj
    subst hj0
    obtain ⟨ad, e, h⟩ := hr9' 0 (.int .u8 120) rfl
    cases e
    exact h)
  rw [show ([120] : List UInt8).length = 1 from rfl] at kr
  clear hcell9 hr9 hr9' hk9 hC9 hp1 hp2 hf9 hD9 hn9 ha9
  go_wp2_with (fail)
  refine (bytes_calls g w.heap.size bv9 _ w9 H9.out.at').mono ?_
  rintro e w10 ⟨v10, rfl, hO10, hb10⟩
  have hO10 : OB w10 w9.heap.size v10 [1, 120] := hO10
  obtain ⟨A10, c10, rfl, hc10⟩ := hO10.slice
  have H10 := Aside0.mk (H9.out.below hb10)
  clear H9 hO10 hb10 kr hcell9' hcell0
  rw [show ([1, 120] : List Int).length = 2 from rfl]
  go_wp2
  go_ret
  exact ⟨by first | rfl | simp, H10.out.F.below _ (Nat.le_refl _) (fun i h => h.elim)⟩
end Go.Proofs.Ytkkgjbafncmohaa.Sha

/-
  WalScans, its walk: the records of any bytes.
-/
set_option linter.unusedVariables false
set_option linter.unusedSimpArgs false
namespace Go.Proofs.Ytkkgjbafncmohaa.Sha
open Go.RowKit Go.Proofs.YtkkgjbafncmohaaW.PrintWords Go.Proofs.YtkkgjbafncmohaaW.PrintLast Go.Proofs.YtkkgjbafncmohaaW.PrintMore Go.Proofs.Ytkkgjbafncmohaa.Q Go.Proofs.Ytkkgjbafncmohaa.Fr Go.Proofs.Ytkkgjbafncmohaa.Oct

theorem samelist_calls (L M : List (List Int)) (A : Option Addr) (c : Nat) (A' : Option Addr) (c' : Nat) (w : World) (h0 : CC w A L) (hc0 : L.length ≤ c) (h1 : CC w A' M) (hc1 : M.length ≤ c') (hL : ∀ x ∈ L, Bys x) (hM : ∀ x ∈ M, Bys x) :
    Calls Try.prog 10 #[.slice A L.length c, .slice A' M.length c'] w fun e w' => e = .returned (.bool (decide (L = M))) ∧ Below w.heap.size w w' := by
  refine (catenaryref01_SameList.calls (L.length + 1) A c L A' c' M (decide (L = M)) w h0 hc0 h1 hc1 (samelist_f L M hL hM h0.2.1 _ (Nat.le_refl _))).mono ?_
  rintro e w' ⟨rfl, hd⟩
  exact ⟨rfl, hd.below⟩
set_option maxHeartbeats 8000000 in
set_option maxRecDepth 100000 in
theorem scans_calls (A : Option Addr) (c : Nat) (b : List Int) (w : World) (hr : Rd w A b) (hc : b.length ≤ c) (hB : Bys b) (hl : b.length ≤ 1048576) :
    Calls Try.prog 3 #[.slice A b.length c] w fun e w' => e = .returned (.bool true) ∧ Below w.heap.size w w' := by
  have hS := scan_f b hB (by omega) (b.length + 32) (by omega)
  have hS2 := rscan_f b hB (by omega) (b.length + 32) (by omega)
  have hso := (scanA_sound b hB (by omega)).2.2
  obtain ⟨⟨rs, n⟩, hsc⟩ : ∃ r, scanA b = r := ⟨_, rfl⟩
  rw [hsc] at hS hS2 hso
  have HS := Aside0.mk (And.intro hS (And.intro hS2 (And.intro hso (And.intro hr (And.intro hB hl)))))
  clear hS hS2 hso hr hB hl hsc
  go_enter Try.func3, Try.ntmps3
  go_wp2_with (fail)
  refine (walive_calls w).mono ?_
  rintro e w1 ⟨rfl, hb1⟩
  have H1 := Aside0.mk (Fr.of_below hb1 (fun _ => False))
  clear hb1
  go_wp2_with (first | ((with_reducible refine gate_dst (N := 10) rfl ?_); refine wpList_copyb rfl (by rfl) (fun _ => by rfl) (fun _ _ => by rfl) (by first | (go_simp; done) | (go_simp; rfl)) _ (by rfl) A b.length c b (fun _ => rfl) rfl (HS.out.2.2.2.1.fr H1.out (fun _ _ h => h)) _ _ (by rfl) (fun _ _ => rfl) (fun _ _ => rfl) (by have := HS.out; omega) ?_; intro u2 v2 w2 hO2 hb2))
  obtain ⟨A2, c2, rfl, hc2⟩ := hO2.slice
  have H2 := Aside0.mk (And.intro (H1.out.trans (Fr.of_below hb2 (fun _ => False)) (fun _ h => h.elim)) (QB.rd (q_of_own hO2)))
  clear H1 hO2 hb2
  refine (wal_Scan.calls (b.length + 32) A2 c2 b rs (n : Int) w2 (H2.out.2.C (by have := HS.out; omega)) hc2 HS.out.1).mono ?_
  rintro e w3 ⟨v3, rfl, hS3, hb3⟩
  obtain ⟨A3, c3, rfl, hc3, hC3⟩ := Kd.S_reads hS3
  have hC3 : CC w3 A3 rs := hC3
  have H3 := Aside0.mk (And.intro (H2.out.1.trans (Fr.of_below hb3 (fun _ => False)) (fun _ h => h.elim)) (And.intro hC3 hc3))
  clear H2 hS3 hb3 hC3 hc3 hc2
  go_wp2_with (fail)
  refine (catenaryref12_Scan.calls (b.length + 32) A c b rs (n : Int) w3 ((HS.out.2.2.2.1.fr H3.out.1 (fun _ _ h => h)).C (by have := HS.out; omega)) hc HS.out.2.1).mono ?_
  rintro e w4 ⟨v4, rfl, hS4, hb4⟩
  obtain ⟨A4, c4, rfl, hc4, hC4⟩ := Kd.S_reads hS4
  have hC4 : CC w4 A4 rs := hC4
  have hC34 : CC w4 A3 rs := CC.fr (show CC w3 A3 rs from H3.out.2.1) (Fr.of_below hb4 (fun _ => False))
  have H4 := Aside0.mk (And.intro (H3.out.1.trans (Fr.of_below hb4 (fun _ => False)) (fun _ h => h.elim)) (And.intro hC34 (And.intro H3.out.2.2 (And.intro hC4 hc4))))
  clear H3 hS4 hb4 hC4 hc4 hC34
  go_wp2_with (fail)
  have hs := samelist_calls rs rs A3 c3 A4 c4 w4 H4.out.2.1 H4.out.2.2.1 H4.out.2.2.2.1 H4.out.2.2.2.2 HS.out.2.2.1 HS.out.2.2.1
  rw [decide_eq_true rfl] at hs
  refine hs.mono ?_
  clear hs
  rintro e w5 ⟨rfl, hb5⟩
  have H5 := Aside0.mk (H4.out.1.trans (Fr.of_below hb5 (fun _ => False)) (fun _ h => h.elim))
  clear H4 hb5
  go_wp2
  go_ret
  exact ⟨by first | rfl | simp, H5.out.below _ (Nat.le_refl _) (fun i h => h.elim)⟩
theorem scans_row (A0 : Option Addr) (c0 : Nat) (l0 : List Int) (w : World) (hC0 : Kd.C (Kd.int .u8) w A0 l0.length l0) (hl0 : l0.length ≤ c0) (hB : Bys l0) (hs : l0.length + 1 ≤ 1048576) :
    Calls Try.prog 3 #[.slice A0 l0.length c0] w fun e w' => e = .returned (.bool true) ∧ Below w.heap.size w w' :=
  scans_calls A0 c0 l0 w (Rd.of_C hC0) hl0 hB (by omega)
end Go.Proofs.Ytkkgjbafncmohaa.Sha
