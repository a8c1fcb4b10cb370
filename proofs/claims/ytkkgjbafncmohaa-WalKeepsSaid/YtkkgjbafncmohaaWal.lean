/-
  A log: Open, Add, Compact.
-/
import Derived.Test.YtkkgjbafncmohaaDk
import Derived.Test.YtkkgjbafncmohaaVal
import Derived.Test.YtkkgjbafncmohaaScan
import Derived.Test.YtkkgjbafncmohaaQx11
import Derived.Test.YtkkgjbafncmohaaQx3
import Derived.Test.YtkkgjbafncmohaaQx6
set_option linter.unusedVariables false
set_option linter.unusedSimpArgs false
namespace Go.Proofs.Ytkkgjbafncmohaa.Sha
open Go.RowKit Go.Proofs.YtkkgjbafncmohaaW.PrintWords Go.Proofs.YtkkgjbafncmohaaW.PrintLast Go.Proofs.YtkkgjbafncmohaaW.PrintMore Go.Proofs.Ytkkgjbafncmohaa.Q Go.Proofs.Ytkkgjbafncmohaa.Fr Go.Proofs.Ytkkgjbafncmohaa.Oct

/-- A log's block: it holds the disk's address. -/
def LogAt (w : World) (gl g : Nat) : Prop := w.heap[gl]? = some (.cells #[.pointer (some ⟨g, 0, none⟩)] 69 (0, 0))
theorem LogAt.fr {w w' : World} {gl g : Nat} {S : Nat → Prop} (h : LogAt w gl g) (hf : Fr S w w') (hS : ¬ S gl) : LogAt w' gl g := hf.blk h hS
/-- What opening does: the disk behind it, the records, the error's number. -/
def Dsk.open (d : Dsk) : Dsk × List (List Int) × Int :=
  if d.dead = true then (d, [], 115)
  else if (scanA d.bytes).2 < d.bytes.length then
    (if (d.rep (d.bytes.take (scanA d.bytes).2)).1 = 0 then ((d.rep (d.bytes.take (scanA d.bytes).2)).2, (scanA d.bytes).1, 0) else ((d.rep (d.bytes.take (scanA d.bytes).2)).2, [], (d.rep (d.bytes.take (scanA d.bytes).2)).1))
  else (d, (scanA d.bytes).1, 0)
theorem Dsk.rep_writes (d : Dsk) (b : List Int) : d.writes - 1 ≤ (d.rep b).2.writes ∧ (d.rep b).2.writes ≤ d.writes := by
  have := d.wr_writes (b.length : Int)
  unfold Dsk.rep
  split
  · exact ⟨this.1, this.2.1⟩
  · exact ⟨this.1, this.2.1⟩
theorem Dsk.app_writes (d : Dsk) (b : List Int) : d.writes - 1 ≤ (d.app b).2.writes ∧ (d.app b).2.writes ≤ d.writes := by
  have := d.wr_writes ((d.bytes.length : Int) + (b.length : Int))
  unfold Dsk.app
  split
  · exact ⟨this.1, this.2.1⟩
  split
  · exact ⟨this.1, this.2.1⟩
  · exact ⟨this.1, this.2.1⟩
set_option maxHeartbeats 8000000 in
set_option maxRecDepth 100000 in
theorem open_calls (g base : Nat) (bv : Value) (d : Dsk) (w : World) (h : DiskAt w base g bv d) (hb : base ≤ w.heap.size) (hB : Bys d.bytes) (hw : -4611686018427387904 ≤ d.writes) (hw2 : d.writes ≤ 9223372036854775807) :
    Calls Try.prog 12 #[.pointer (some ⟨g, 0, none⟩)] w fun e w' => ∃ (pv rv : Value) (A : Option Addr) (c : Nat), e = .returned (.tuple #[pv, rv, .int .i64 d.open.2.2]) ∧ rv = .slice A d.open.2.1.length c ∧ d.open.2.1.length ≤ c ∧ CC w' A d.open.2.1 ∧ (d.open.2.2 ≠ 0 → pv = .pointer none) ∧ (d.open.2.2 = 0 → ∃ gl, pv = .pointer (some ⟨gl, 0, none⟩) ∧ w.heap.size ≤ gl ∧ LogAt w' gl g) ∧
      Fr (Fp g bv) w w' ∧ ∃ bv', DiskAt w' base g bv' d.open.1 ∧ (∀ k, Fp g bv' k → Fp g bv k ∨ w.heap.size ≤ k) ∧ (∀ gl, pv = .pointer (some ⟨gl, 0, none⟩) → ¬ Fp g bv' gl) := by
  have HH := Aside0.mk (And.intro h (And.intro hb hB))
  by_cases hd : d.dead = true
  · have e : d.open = (d, [], 115) := by unfold Dsk.open; rw [if_pos hd]
    rw [e]
    clear h hb hB e
    go_enter Try.func12, Try.ntmps12
    go_wp2_with (fail)
    refine (dead_calls g base bv d w HH.out.1).mono ?_
    rintro e w1 ⟨rfl, rfl⟩
    rw [hd]
    go_wp2
    go_ret3
    exact ⟨_, _, none, 0, rfl, rfl, Nat.le_refl _, ⟨rfl, by simp, fun h => by simp at h⟩, fun _ => rfl, fun h => by simp at h, Fr.refl _ _, bv, HH.out.1, fun k hk => .inl hk, fun gl h => by cases h⟩
  · have hd' : d.dead = false := by simpa using hd
    have hlen := h.ln
    have hS := scan_f d.bytes hB (by omega) (d.bytes.length + 12) (Nat.le_refl _)
    have hso := scanA_sound d.bytes hB (by omega)
    obtain ⟨⟨rs, n⟩, hsc⟩ : ∃ r, scanA d.bytes = r := ⟨_, rfl⟩
    rw [hsc] at hS hso
    have hop : d.open = if n < d.bytes.length then (if (d.rep (d.bytes.take n)).1 = 0 then ((d.rep (d.bytes.take n)).2, rs, 0) else ((d.rep (d.bytes.take n)).2, [], (d.rep (d.bytes.take n)).1)) else (d, rs, 0) := by
      unfold Dsk.open
      rw [if_neg hd, hsc]
    have HS := Aside0.mk (And.intro hS (And.intro hso hlen))
    clear h hb hB hS hso hsc hd hlen
    by_cases hn : n < d.bytes.length
    · rw [if_pos hn] at hop
      have c1 : decide ((n : Int) < (d.bytes.length : Int)) = true := decide_eq_true (by omega)
      by_cases h0 : (d.rep (d.bytes.take n)).1 = 0
      · rw [if_pos h0] at hop
        rw [hop]
        clear hop
        obtain ⟨i0, hi0, _, hsz, _⟩ := info_parts infoB
        go_enter Try.func12, Try.ntmps12
        go_wp2_with (fail)
        refine (dead_calls g base bv d w HH.out.1).mono ?_
        rintro e w1 ⟨rfl, rfl⟩
        rw [hd']
        go_wp2_with (fail)
        refine (bytes_calls g base bv d w1 HH.out.1).mono ?_
        rintro e w2 ⟨v2, rfl, hO2, hb2⟩
        obtain ⟨A2, c2, rfl, hc2⟩ := hO2.slice
        have hcut := cut_to (P := Try.prog) 22 5 .i64 Try.underlying22 hi0 A2 d.bytes.length c2 (n : Int) (by omega) (by have := HS.out; omega) hc2
        rw [Int.toNat_natCast] at hcut
        have H2 := Aside0.mk (And.intro hb2 hO2)
        clear hO2 hb2
        go_wp2_with (fail)
        refine (wal_Scan.calls (d.bytes.length + 12) A2 c2 d.bytes rs (n : Int) w2 ((QB.rd (q_of_own H2.out.2)).C (by have := HS.out; omega)) hc2 HS.out.1).mono ?_
        rintro e w3 ⟨v3, rfl, hS3, hb3⟩
        have hR3 := Kd.R_bound (Kd.S_R hS3)
        obtain ⟨A3, c3, rfl, hc3, hC3⟩ := Kd.S_reads hS3
        have f2 := Fr.of_below H2.out.1 (fun _ => False)
        have f3 := Fr.of_below hb3 (fun _ => False)
        have F3 := f2.trans f3 (fun _ h => h.elim)
        have hlt := HH.out.1.lt g (.inl rfl)
        have H3 := Aside0.mk (And.intro F3 (And.intro hC3 (And.intro hc3 (And.intro (HH.out.1.fr F3 (fun _ _ h => h)) (And.intro ((QB.rd (q_of_own (H2.out.2.fr f3 (fun _ _ h => h)))).take n) (H2.out.2.far hlt))))))
        have hg2 : g < w2.heap.size := by have := H2.out.1.size; omega
        have HR := Aside0.mk (And.intro hR3 hg2)
        clear H2 hS3 hb3 hC3 hc3 f2 f3 F3 hlt hR3 hg2
        go_wp2_with (fail)
        have hln : (d.bytes.take n).length = n := by rw [List.length_take]; omega
        have hrp := rep_calls g base bv d A2 c2 (d.bytes.take n) w3 H3.out.2.2.2.1 (Nat.le_trans HH.out.2.1 H3.out.1.size) H3.out.2.2.2.2.1 (by rw [hln]; omega) (by rw [hln]; have := HS.out; omega) H3.out.2.2.2.2.2 hw hw2
        rw [hln] at hrp
        refine hrp.mono ?_
        clear hrp hcut
        rintro e w4 ⟨rfl, hf4, bv4, hD4, hn4⟩
        have z3 := H3.out.1.size
        have z4 := hf4.size
        rw [h0]
        have F4 : Fr (Fp g bv) w1 w4 := (H3.out.1.mono (fun _ h => h.elim)).trans (hf4.mono (S' := Fp g bv) (fun _ h => .inl h)) (fun i h => .inl h)
        have hC4 : CC w4 A3 rs := by
          have := Kd.R_step HR.out.1 (w1 := w4) (fun k hk hlt => hf4.block k hlt (fun e => by have := hk.2.1; have := HR.out.2; omega))
          exact (Kd.R_reads' this).2.2
        have H4 := Aside0.mk (And.intro F4 (And.intro hC4 (And.intro H3.out.2.2.1 (And.intro hD4 hn4))))
        clear H3 hf4 hD4 hn4 F4 hC4 h0
        go_wp2
        have hg5 := heap_alloc_new w4 (.cells #[.pointer (some ⟨g, 0, none⟩)] 69)
        have hb5 := below_alloc (Below.refl w4.heap.size w4) (.cells #[.pointer (some ⟨g, 0, none⟩)] 69)
        generalize w4.alloc (.cells #[.pointer (some ⟨g, 0, none⟩)] 69) = w5 at *
        have f5 := Fr.of_below hb5 (fun _ => False)
        go_ret3
        exact ⟨_, _, A3, c3, rfl, rfl, H4.out.2.2.1, CC.fr (show CC w4 A3 rs from H4.out.2.1) f5, fun h => absurd rfl h, fun _ => ⟨w4.heap.size, rfl, by omega, hg5⟩, H4.out.1.trans f5 (fun _ h => h.elim), bv4, H4.out.2.2.2.1.fr f5 (fun _ _ h => h), fun k hk => (H4.out.2.2.2.2 k hk).elim .inl (fun h => .inr (by omega)), fun gl h => by
          cases h
          exact fun h2 => by have := H4.out.2.2.2.1.lt _ h2; omega⟩
      · rw [if_neg h0] at hop
        obtain ⟨er, her⟩ : ∃ er, (d.rep (d.bytes.take n)).1 = er := ⟨_, rfl⟩
        rw [hop]
        rw [her] at h0 ⊢
        clear hop
        obtain ⟨i0, hi0, _, hsz, _⟩ := info_parts infoB
        go_enter Try.func12, Try.ntmps12
        go_wp2_with (fail)
        refine (dead_calls g base bv d w HH.out.1).mono ?_
        rintro e w1 ⟨rfl, rfl⟩
        rw [hd']
        go_wp2_with (fail)
        refine (bytes_calls g base bv d w1 HH.out.1).mono ?_
        rintro e w2 ⟨v2, rfl, hO2, hb2⟩
        obtain ⟨A2, c2, rfl, hc2⟩ := hO2.slice
        have hcut := cut_to (P := Try.prog) 22 5 .i64 Try.underlying22 hi0 A2 d.bytes.length c2 (n : Int) (by omega) (by have := HS.out; omega) hc2
        rw [Int.toNat_natCast] at hcut
        have H2 := Aside0.mk (And.intro hb2 hO2)
        clear hO2 hb2
        go_wp2_with (fail)
        refine (wal_Scan.calls (d.bytes.length + 12) A2 c2 d.bytes rs (n : Int) w2 ((QB.rd (q_of_own H2.out.2)).C (by have := HS.out; omega)) hc2 HS.out.1).mono ?_
        rintro e w3 ⟨v3, rfl, hS3, hb3⟩
        have hR3 := Kd.R_bound (Kd.S_R hS3)
        obtain ⟨A3, c3, rfl, hc3, hC3⟩ := Kd.S_reads hS3
        have f2 := Fr.of_below H2.out.1 (fun _ => False)
        have f3 := Fr.of_below hb3 (fun _ => False)
        have F3 := f2.trans f3 (fun _ h => h.elim)
        have hlt := HH.out.1.lt g (.inl rfl)
        have H3 := Aside0.mk (And.intro F3 (And.intro hC3 (And.intro hc3 (And.intro (HH.out.1.fr F3 (fun _ _ h => h)) (And.intro ((QB.rd (q_of_own (H2.out.2.fr f3 (fun _ _ h => h)))).take n) (H2.out.2.far hlt))))))
        have hg2 : g < w2.heap.size := by have := H2.out.1.size; omega
        have HR := Aside0.mk (And.intro hR3 hg2)
        clear H2 hS3 hb3 hC3 hc3 f2 f3 F3 hlt hR3 hg2
        go_wp2_with (fail)
        have hln : (d.bytes.take n).length = n := by rw [List.length_take]; omega
        have hrp := rep_calls g base bv d A2 c2 (d.bytes.take n) w3 H3.out.2.2.2.1 (Nat.le_trans HH.out.2.1 H3.out.1.size) H3.out.2.2.2.2.1 (by rw [hln]; omega) (by rw [hln]; have := HS.out; omega) H3.out.2.2.2.2.2 hw hw2
        rw [hln] at hrp
        refine hrp.mono ?_
        clear hrp hcut
        rintro e w4 ⟨rfl, hf4, bv4, hD4, hn4⟩
        rw [her]
        have z3 := H3.out.1.size
        have z4 := hf4.size
        have c2' : decide (er = 0) = false := decide_eq_false h0
        have c3' : (er == 0) = false := by simpa using h0
        have c4' : ¬ er = 0 := h0
        have F4 : Fr (Fp g bv) w1 w4 := (H3.out.1.mono (fun _ h => h.elim)).trans (hf4.mono (S' := Fp g bv) (fun _ h => .inl h)) (fun i h => .inl h)
        have H4 := Aside0.mk (And.intro F4 (And.intro h0 (And.intro hD4 hn4)))
        clear H3 hf4 hD4 hn4 F4 h0 her
        go_wp2
        go_ret3
        exact ⟨_, _, none, 0, rfl, rfl, Nat.le_refl _, ⟨rfl, by simp, fun h => by simp at h⟩, fun _ => rfl, fun h => absurd h H4.out.2.1, H4.out.1, bv4, H4.out.2.2.1, fun k hk => (H4.out.2.2.2 k hk).elim .inl (fun h => .inr (by omega)), fun gl h => by cases h⟩
    · rw [if_neg hn] at hop
      rw [hop]
      have c1 : decide ((n : Int) < (d.bytes.length : Int)) = false := decide_eq_false (by omega)
      clear hop
      go_enter Try.func12, Try.ntmps12
      go_wp2_with (fail)
      refine (dead_calls g base bv d w HH.out.1).mono ?_
      rintro e w1 ⟨rfl, rfl⟩
      rw [hd']
      go_wp2_with (fail)
      refine (bytes_calls g base bv d w1 HH.out.1).mono ?_
      rintro e w2 ⟨v2, rfl, hO2, hb2⟩
      obtain ⟨A2, c2, rfl, hc2⟩ := hO2.slice
      have H2 := Aside0.mk (And.intro hb2 (QB.rd (q_of_own hO2)))
      clear hO2 hb2
      go_wp2_with (fail)
      refine (wal_Scan.calls (d.bytes.length + 12) A2 c2 d.bytes rs (n : Int) w2 (H2.out.2.C (by have := HS.out; omega)) hc2 HS.out.1).mono ?_
      rintro e w3 ⟨v3, rfl, hS3, hb3⟩
      obtain ⟨A3, c3, rfl, hc3, hC3⟩ := Kd.S_reads hS3
      have H3 := Aside0.mk (And.intro (((Fr.of_below H2.out.1 (fun _ => False)).trans (Fr.of_below hb3 (fun _ => False)) (fun _ h => h.elim))) (And.intro hC3 hc3))
      clear H2 hS3 hb3 hC3 hc3
      go_wp2
      have hg4 := heap_alloc_new w3 (.cells #[.pointer (some ⟨g, 0, none⟩)] 69)
      have hb4 := below_alloc (Below.refl w3.heap.size w3) (.cells #[.pointer (some ⟨g, 0, none⟩)] 69)
      generalize w3.alloc (.cells #[.pointer (some ⟨g, 0, none⟩)] 69) = w4 at *
      have f4 := Fr.of_below hb4 (fun _ => False)
      have F4 := H3.out.1.trans f4 (fun _ h => h.elim)
      have z3 := H3.out.1.size
      go_ret3
      exact ⟨_, _, A3, c3, rfl, rfl, H3.out.2.2, CC.fr (show CC w3 A3 rs from H3.out.2.1) f4, fun h => absurd rfl h, fun _ => ⟨w3.heap.size, rfl, z3, hg4⟩, F4.mono (fun _ h => h.elim), bv, HH.out.1.fr F4 (fun _ _ h => h), fun k hk => .inl hk, fun gl h => by
        cases h
        exact fun h2 => by have := HH.out.1.lt _ h2; omega⟩
end Go.Proofs.Ytkkgjbafncmohaa.Sha
