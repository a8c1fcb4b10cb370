/- Parts of one work, laid together: WalO, RefW, RefO. -/
import Derived.Test.YtkkgjbafncmohaaWalM1
import Derived.Test.YtkkgjbafncmohaaQx3
import Derived.Test.YtkkgjbafncmohaaRefM1
import Derived.Deep.RegionHeld3
import Derived.Test.YtkkgjbafncmohaaQx11
import Derived.Test.YtkkgjbafncmohaaQx12
import Derived.Test.YtkkgjbafncmohaaQx9
/-
  A log is opened: the records that it hands out lie in blocks of their own.
-/
set_option linter.unusedVariables false
set_option linter.unusedSimpArgs false
namespace Go.Proofs.Ytkkgjbafncmohaa.Sha
open Go.RowKit Go.Proofs.YtkkgjbafncmohaaW.PrintWords Go.Proofs.YtkkgjbafncmohaaW.PrintLast Go.Proofs.YtkkgjbafncmohaaW.PrintMore Go.Proofs.Ytkkgjbafncmohaa.Q Go.Proofs.Ytkkgjbafncmohaa.Fr Go.Proofs.Ytkkgjbafncmohaa.Oct

/-- Records that can be read as long as no block from N on is written. -/
def St (N : Nat) (w' : World) (A : Option Addr) (L : List (List Int)) : Prop := ∀ w'', (∀ k, N ≤ k → k < w'.heap.size → w''.heap[k]? = w'.heap[k]?) → CC w'' A L
theorem St.cc {N : Nat} {w' : World} {A : Option Addr} {L : List (List Int)} (h : St N w' A L) : CC w' A L := h w' (fun _ _ _ => rfl)
theorem St.fr {N : Nat} {w' w'' : World} {A : Option Addr} {L : List (List Int)} {S : Nat → Prop} (h : St N w' A L) (hf : Fr S w' w'') (hS : ∀ k, S k → k < N ∨ w'.heap.size ≤ k) : St N w'' A L := fun w3 hw => h w3 (fun k h1 h2 => (hw k h1 (by have := hf.size; omega)).trans (hf.block k h2 (fun e => by rcases hS k e with h | h <;> omega)))
set_option maxHeartbeats 8000000 in
set_option maxRecDepth 100000 in
theorem openS_calls (g base : Nat) (bv : Value) (d : Dsk) (w : World) (h : DiskAt w base g bv d) (hb : base ≤ w.heap.size) (hB : Bys d.bytes) (hw : -4611686018427387904 ≤ d.writes) (hw2 : d.writes ≤ 9223372036854775807) :
    Calls Try.prog 12 #[.pointer (some ⟨g, 0, none⟩)] w fun e w' => ∃ (pv rv : Value) (A : Option Addr) (c : Nat), e = .returned (.tuple #[pv, rv, .int .i64 d.open.2.2]) ∧ rv = .slice A d.open.2.1.length c ∧ d.open.2.1.length ≤ c ∧ St w.heap.size w' A d.open.2.1 ∧ (d.open.2.2 ≠ 0 → pv = .pointer none) ∧ (d.open.2.2 = 0 → ∃ gl, pv = .pointer (some ⟨gl, 0, none⟩) ∧ w.heap.size ≤ gl ∧ LogAt w' gl g) ∧
      Fr (Fp g bv) w w' ∧ ∃ bv', DiskAt w' base g bv' d.open.1 ∧ (∀ k, Fp g bv' k → Fp g bv k ∨ w.heap.size ≤ k) ∧ (∀ gl, pv = .pointer (some ⟨gl, 0, none⟩) → ¬ Fp g bv' gl) := by
  have HH := Aside0.mk (And.intro h (And.intro hb hB))
  by_cases hd : d.dead = true
  · have e : d.open = (d, [], 115) := by unfold Dsk.open; rw [if_pos hd]
    rw [e]
    clear h hb hB e
    go_enter Try.func12, Try.ntmps12
    go_wp2_with (fail)
    refine (dead_calls g base bv d w HH.out.1).mono ?_
    rintro e w1 ⟨rfl, rfl⟩
    rw [hd]
    go_wp2
    go_ret3
    exact ⟨_, _, none, 0, rfl, rfl, Nat.le_refl _, fun w'' _ => ⟨rfl, by simp, fun h => by simp at h⟩, fun _ => rfl, fun h => by simp at h, Fr.refl _ _, bv, HH.out.1, fun k hk => .inl hk, fun gl h => by cases h⟩
  · have hd' : d.dead = false := by simpa using hd
    have hlen := h.ln
    have hS := scan_f d.bytes hB (by omega) (d.bytes.length + 12) (Nat.le_refl _)
    have hso := scanA_sound d.bytes hB (by omega)
    obtain ⟨⟨rs, n⟩, hsc⟩ : ∃ r, scanA d.bytes = r := ⟨_, rfl⟩
    rw [hsc] at hS hso
    have hop : d.open = if n < d.bytes.length then (if (d.rep (d.bytes.take n)).1 = 0 then ((d.rep (d.bytes.take n)).2, rs, 0) else ((d.rep (d.bytes.take n)).2, [], (d.rep (d.bytes.take n)).1)) else (d, rs, 0) := by
      unfold Dsk.open
      rw [if_neg hd, hsc]
    have HS := Aside0.mk (And.intro hS (And.intro hso hlen))
    clear h hb hB hS hso hsc hd hlen
    by_cases hn : n < d.bytes.length
    · rw [if_pos hn] at hop
      have c1 : decide ((n : Int) < (d.bytes.length : Int)) = true := decide_eq_true (by omega)
      by_cases h0 : (d.rep (d.bytes.take n)).1 = 0
      · rw [if_pos h0] at hop
        rw [hop]
        clear hop
        obtain ⟨i0, hi0, _, hsz, _⟩ := info_parts infoB
        go_enter Try.func12, Try.ntmps12
        go_wp2_with (fail)
        refine (dead_calls g base bv d w HH.out.1).mono ?_
        rintro e w1 ⟨rfl, rfl⟩
        rw [hd']
        go_wp2_with (fail)
        refine (bytes_calls g base bv d w1 HH.out.1).mono ?_
        rintro e w2 ⟨v2, rfl, hO2, hb2⟩
        obtain ⟨A2, c2, rfl, hc2⟩ := hO2.slice
        have hcut := cut_to (P := Try.prog) 22 5 .i64 Try.underlying22 hi0 A2 d.bytes.length c2 (n : Int) (by omega) (by have := HS.out; omega) hc2
        rw [Int.toNat_natCast] at hcut
        have H2 := Aside0.mk (And.intro hb2 hO2)
        clear hO2 hb2
        go_wp2_with (fail)
        refine (wal_Scan.calls (d.bytes.length + 12) A2 c2 d.bytes rs (n : Int) w2 ((QB.rd (q_of_own H2.out.2)).C (by have := HS.out; omega)) hc2 HS.out.1).mono ?_
        rintro e w3 ⟨v3, rfl, hS3, hb3⟩
        have hR3 := Kd.R_bound (Kd.S_R hS3)
        obtain ⟨A3, c3, rfl, hc3, hC3⟩ := Kd.S_reads hS3
        have f2 := Fr.of_below H2.out.1 (fun _ => False)
        have f3 := Fr.of_below hb3 (fun _ => False)
        have F3 := f2.trans f3 (fun _ h => h.elim)
        have hlt := HH.out.1.lt g (.inl rfl)
        have H3 := Aside0.mk (And.intro F3 (And.intro hC3 (And.intro hc3 (And.intro (HH.out.1.fr F3 (fun _ _ h => h)) (And.intro ((QB.rd (q_of_own (H2.out.2.fr f3 (fun _ _ h => h)))).take n) (H2.out.2.far hlt))))))
        have hg2 : g < w2.heap.size := by have := H2.out.1.size; omega
        have HR := Aside0.mk (And.intro hR3 (And.intro hg2 H2.out.1.size))
        clear H2 hS3 hb3 hC3 hc3 f2 f3 F3 hlt hR3 hg2
        go_wp2_with (fail)
        have hln : (d.bytes.take n).length = n := by rw [List.length_take]; omega
        have hrp := rep_calls g base bv d A2 c2 (d.bytes.take n) w3 H3.out.2.2.2.1 (Nat.le_trans HH.out.2.1 H3.out.1.size) H3.out.2.2.2.2.1 (by rw [hln]; omega) (by rw [hln]; have := HS.out; omega) H3.out.2.2.2.2.2 hw hw2
        rw [hln] at hrp
        refine hrp.mono ?_
        clear hrp hcut
        rintro e w4 ⟨rfl, hf4, bv4, hD4, hn4⟩
        have z3 := H3.out.1.size
        have z4 := hf4.size
        rw [h0]
        have F4 : Fr (Fp g bv) w1 w4 := (H3.out.1.mono (fun _ h => h.elim)).trans (hf4.mono (S' := Fp g bv) (fun _ h => .inl h)) (fun i h => .inl h)
        have hC4 : St w1.heap.size w4 A3 rs := fun w'' hw => by
          have := Kd.R_step HR.out.1 (w1 := w'') (fun k hk hlt => (hw k (by have := hk.2.1; have := HR.out.2.2; omega) (by omega)).trans (hf4.block k hlt (fun e => by have := hk.2.1; have := HR.out.2.1; omega)))
          exact (Kd.R_reads' this).2.2
        have H4 := Aside0.mk (And.intro F4 (And.intro hC4 (And.intro H3.out.2.2.1 (And.intro hD4 hn4))))
        clear H3 hf4 hD4 hn4 F4 hC4 h0
        go_wp2
        have hg5 := heap_alloc_new w4 (.cells #[.pointer (some ⟨g, 0, none⟩)] 69)
        have hb5 := below_alloc (Below.refl w4.heap.size w4) (.cells #[.pointer (some ⟨g, 0, none⟩)] 69)
        generalize w4.alloc (.cells #[.pointer (some ⟨g, 0, none⟩)] 69) = w5 at *
        have f5 := Fr.of_below hb5 (fun _ => False)
        go_ret3
        exact ⟨_, _, A3, c3, rfl, rfl, H4.out.2.2.1, (fun w'' hw => H4.out.2.1 w'' (fun k h1 h2 => (hw k h1 (by have := f5.size; omega)).trans (f5.block k h2 (fun h => h)))), fun h => absurd rfl h, fun _ => ⟨w4.heap.size, rfl, by omega, hg5⟩, H4.out.1.trans f5 (fun _ h => h.elim), bv4, H4.out.2.2.2.1.fr f5 (fun _ _ h => h), fun k hk => (H4.out.2.2.2.2 k hk).elim .inl (fun h => .inr (by omega)), fun gl h => by
          cases h
          exact fun h2 => by have := H4.out.2.2.2.1.lt _ h2; omega⟩
      · rw [if_neg h0] at hop
        obtain ⟨er, her⟩ : ∃ er, (d.rep (d.bytes.take n)).1 = er := ⟨_, rfl⟩
        rw [hop]
        rw [her] at h0 ⊢
        clear hop
        obtain ⟨i0, hi0, _, hsz, _⟩ := info_parts infoB
        go_enter Try.func12, Try.ntmps12
        go_wp2_with (fail)
        refine (dead_calls g base bv d w HH.out.1).mono ?_
        rintro e w1 ⟨rfl, rfl⟩
        rw [hd']
        go_wp2_with (fail)
        refine (bytes_calls g base bv d w1 HH.out.1).mono ?_
        rintro e w2 ⟨v2, rfl, hO2, hb2⟩
        obtain ⟨A2, c2, rfl, hc2⟩ := hO2.slice
        have hcut := cut_to (P := Try.prog) 22 5 .i64 Try.underlying22 hi0 A2 d.bytes.length c2 (n : Int) (by omega) (by have := HS.out; omega) hc2
        rw [Int.toNat_natCast] at hcut
        have H2 := Aside0.mk (And.intro hb2 hO2)
        clear hO2 hb2
        go_wp2_with (fail)
        refine (wal_Scan.calls (d.bytes.length + 12) A2 c2 d.bytes rs (n : Int) w2 ((QB.rd (q_of_own H2.out.2)).C (by have := HS.out; omega)) hc2 HS.out.1).mono ?_
        rintro e w3 ⟨v3, rfl, hS3, hb3⟩
        have hR3 := Kd.R_bound (Kd.S_R hS3)
        obtain ⟨A3, c3, rfl, hc3, hC3⟩ := Kd.S_reads hS3
        have f2 := Fr.of_below H2.out.1 (fun _ => False)
        have f3 := Fr.of_below hb3 (fun _ => False)
        have F3 := f2.trans f3 (fun _ h => h.elim)
        have hlt := HH.out.1.lt g (.inl rfl)
        have H3 := Aside0.mk (And.intro F3 (And.intro hC3 (And.intro hc3 (And.intro (HH.out.1.fr F3 (fun _ _ h => h)) (And.intro ((QB.rd (q_of_own (H2.out.2.fr f3 (fun _ _ h => h)))).take n) (H2.out.2.far hlt))))))
        have hg2 : g < w2.heap.size := by have := H2.out.1.size; omega
        have HR := Aside0.mk (And.intro hR3 (And.intro hg2 H2.out.1.size))
        clear H2 hS3 hb3 hC3 hc3 f2 f3 F3 hlt hR3 hg2
        go_wp2_with (fail)
        have hln : (d.bytes.take n).length = n := by rw [List.length_take]; omega
        have hrp := rep_calls g base bv d A2 c2 (d.bytes.take n) w3 H3.out.2.2.2.1 (Nat.le_trans HH.out.2.1 H3.out.1.size) H3.out.2.2.2.2.1 (by rw [hln]; omega) (by rw [hln]; have := HS.out; omega) H3.out.2.2.2.2.2 hw hw2
        rw [hln] at hrp
        refine hrp.mono ?_
        clear hrp hcut
        rintro e w4 ⟨rfl, hf4, bv4, hD4, hn4⟩
        rw [her]
        have z3 := H3.out.1.size
        have z4 := hf4.size
        have c2' : decide (er = 0) = false := decide_eq_false h0
        have c3' : (er == 0) = false := by simpa using h0
        have c4' : ¬ er = 0 := h0
        have F4 : Fr (Fp g bv) w1 w4 := (H3.out.1.mono (fun _ h => h.elim)).trans (hf4.mono (S' := Fp g bv) (fun _ h => .inl h)) (fun i h => .inl h)
        have H4 := Aside0.mk (And.intro F4 (And.intro h0 (And.intro hD4 hn4)))
        clear H3 hf4 hD4 hn4 F4 h0 her
        go_wp2
        go_ret3
        exact ⟨_, _, none, 0, rfl, rfl, Nat.le_refl _, fun w'' _ => ⟨rfl, by simp, fun h => by simp at h⟩, fun _ => rfl, fun h => absurd h H4.out.2.1, H4.out.1, bv4, H4.out.2.2.1, fun k hk => (H4.out.2.2.2 k hk).elim .inl (fun h => .inr (by omega)), fun gl h => by cases h⟩
    · rw [if_neg hn] at hop
      rw [hop]
      have c1 : decide ((n : Int) < (d.bytes.length : Int)) = false := decide_eq_false (by omega)
      clear hop
      go_enter Try.func12, Try.ntmps12
      go_wp2_with (fail)
      refine (dead_calls g base bv d w HH.out.1).mono ?_
      rintro e w1 ⟨rfl, rfl⟩
      rw [hd']
      go_wp2_with (fail)
      refine (bytes_calls g base bv d w1 HH.out.1).mono ?_
      rintro e w2 ⟨v2, rfl, hO2, hb2⟩
      obtain ⟨A2, c2, rfl, hc2⟩ := hO2.slice
      have H2 := Aside0.mk (And.intro hb2 (QB.rd (q_of_own hO2)))
      clear hO2 hb2
      go_wp2_with (fail)
      refine (wal_Scan.calls (d.bytes.length + 12) A2 c2 d.bytes rs (n : Int) w2 (H2.out.2.C (by have := HS.out; omega)) hc2 HS.out.1).mono ?_
      rintro e w3 ⟨v3, rfl, hS3, hb3⟩
      have hR3 := Kd.R_bound (Kd.S_R hS3)
      have zz := H2.out.1.size
      obtain ⟨A3, c3, rfl, hc3, hC3⟩ := Kd.S_reads hS3
      have H3 := Aside0.mk (And.intro (((Fr.of_below H2.out.1 (fun _ => False)).trans (Fr.of_below hb3 (fun _ => False)) (fun _ h => h.elim))) (And.intro (And.intro hR3 zz) hc3))
      clear H2 hS3 hb3 hC3 hc3 hR3 zz
      go_wp2
      have hg4 := heap_alloc_new w3 (.cells #[.pointer (some ⟨g, 0, none⟩)] 69)
      have hb4 := below_alloc (Below.refl w3.heap.size w3) (.cells #[.pointer (some ⟨g, 0, none⟩)] 69)
      generalize w3.alloc (.cells #[.pointer (some ⟨g, 0, none⟩)] 69) = w4 at *
      have f4 := Fr.of_below hb4 (fun _ => False)
      have F4 := H3.out.1.trans f4 (fun _ h => h.elim)
      have z3 := H3.out.1.size
      go_ret3
      exact ⟨_, _, A3, c3, rfl, rfl, H3.out.2.2, (fun w'' hw => by
        have := Kd.R_step H3.out.2.1.1 (w1 := w'') (fun k hk hlt => (hw k (by have := hk.2.1; have := H3.out.2.1.2; omega) (by have := f4.size; omega)).trans (f4.block k hlt (fun h => h)))
        exact (Kd.R_reads' this).2.2), fun h => absurd rfl h, fun _ => ⟨w3.heap.size, rfl, z3, hg4⟩, F4.mono (fun _ h => h.elim), bv, HH.out.1.fr F4 (fun _ _ h => h), fun k hk => .inl hk, fun gl h => by
        cases h
        exact fun h2 => by have := HH.out.1.lt _ h2; omega⟩
end Go.Proofs.Ytkkgjbafncmohaa.Sha

/-
  The document's log: Add, Compact (catenaryref12).
-/
set_option linter.unusedVariables false
set_option linter.unusedSimpArgs false
namespace Go.Proofs.Ytkkgjbafncmohaa.Sha
open Go.RowKit Go.Proofs.YtkkgjbafncmohaaW.PrintWords Go.Proofs.YtkkgjbafncmohaaW.PrintLast Go.Proofs.YtkkgjbafncmohaaW.PrintMore Go.Proofs.Ytkkgjbafncmohaa.Q Go.Proofs.Ytkkgjbafncmohaa.Fr Go.Proofs.Ytkkgjbafncmohaa.Oct

/-- A step of a region that draws: a whole struct is stored at the head of a block. -/
theorem wp_store_abs {P : Program} {o : Oper} {a : Act} {w : World} {K : Act → World → Prop} {Q : Exit → Act → World → Prop} (ty : TypeId) (x y : Operand) (ho : o.op = .store ty x y)
    (g : Nat) (cells : Array Value) (hx : a.eval x = .pointer (some ⟨g, 0, none⟩)) (hy : a.eval y = .agg cells)
    (t : TypeId) (old : Array Value) (hg : w.heap[g]? = some (.cells old t (0, 0))) (hi : (P.info? ty).map (·.size) = some cells.size)
    (hold : old.size = cells.size) (h1 : cells.all (·.oneCell') = true)
    (h : ∀ w1, Fr (fun k => k = g) w w1 → w1.heap.size = w.heap.size → w1.heap[g]? = some (.cells cells t (0, 0)) → K (a.put o.dst undef) w1) : o.wp P a w K Q :=
  wp_store_row ty x y ho g cells hx hy t old hg hi hold h1 (h _ ⟨rfl, rfl, rfl, by simp [World.setRow], fun k _ hk => setRow_other w g k _ (fun e => hk e)⟩ (by simp [World.setRow]) (setRow_heap w g old cells t (0, 0) hg))
/-- A step of a region that draws: a variable is made. -/
theorem wp_alloc_abs {P : Program} {o : Oper} {a : Act} {w : World} {K : Act → World → Prop} {Q : Exit → Act → World → Prop} (t : TypeId) (ho : o.op = .alloc t) (z : Value) (hz : (P.info? t).map (·.zero) = some (some z))
    (h : ∀ w1, Below w.heap.size w w1 → w1.heap.size = w.heap.size + 1 → w1.heap[w.heap.size]? = some (.cells z.cells t (0, 0)) → K (a.put o.dst (.pointer (some ⟨w.heap.size, 0, none⟩))) w1) : o.wp P a w K Q := by
  obtain ⟨i, hi, hz'⟩ := Option.map_eq_some_iff.1 hz
  have := h (w.alloc (.cells z.cells t)) (below_alloc (Below.refl _ _) _) (by simp) (heap_alloc_new w _)
  unfold Oper.wp
  simp [execOp, ho, Instr.alloc, zeroValue, typeInfo, hi, hz']
  exact this
set_option maxHeartbeats 8000000 in
set_option maxRecDepth 100000 in
theorem radd_x (bytes : List Int) (room : Int) (dead breaks : Bool) (writes tear : Int) (Av : Option Addr) (cv : Nat) (A : Option Addr) (c : Nat) (b : List Int) (w : World) (hrv : Rd w Av bytes) (hcv : bytes.length ≤ cv) (hfar : ∀ k, (Value.slice Av bytes.length cv).ownBlock = some k → k < w.heap.size) (hy : Rd w A b) (hc : b.length ≤ c) (hl2 : b.length ≤ 8388608) (hl : bytes.length ≤ 8388608) (hw : -4611686018427387904 ≤ writes) (hw2 : writes ≤ 9223372036854775807) (r' : Rdk) (er : Int) (he : Rdk.write ⟨bytes, room, dead, breaks, writes, tear⟩ (bytesA b) false = (r', er)) :
    Calls Try.prog 20 #[.agg #[.slice Av bytes.length cv, .int .i64 room, .bool dead, .bool breaks, .int .i64 writes, .int .i64 tear], .slice A b.length c] w fun e w' => ∃ A' c', e = .returned (.tuple #[.agg #[.slice A' r'.bytes.length c', .int .i64 r'.room, .bool r'.dead, .bool r'.breaks, .int .i64 r'.writes, .int .i64 r'.tear], .int .i64 er]) ∧ Lies w' (.slice A' r'.bytes.length c') r'.bytes ∧ Near w.heap.size w' (.slice Av bytes.length cv) (.slice A' r'.bytes.length c') ∧ Below w.heap.size w w' := by
  have HH := Aside0.mk (And.intro hrv (And.intro hy (And.intro hl (And.intro hl2 (And.intro hw (And.intro hw2 (And.intro hcv (And.intro hfar he))))))))
  clear hrv hy hl hl2 hw hw2 he hfar
  go_enter Try.func20, Try.ntmps20
  go_wp2_with (first | ((with_reducible refine gate_dst (N := 4) rfl ?_); refine wpList_alloc_abs (by rfl) 40 (by rfl) (.agg Z6r) (by kernel_rfl) ?_; intro w2 hb2 hs2 hg2))
  have hg1 := heap_alloc_new w (.cells #[.slice Av bytes.length cv, .int .i64 room, .bool dead, .bool breaks, .int .i64 writes, .int .i64 tear] 40)
  have hb1 := below_alloc (Below.refl w.heap.size w) (.cells #[.slice Av bytes.length cv, .int .i64 room, .bool dead, .bool breaks, .int .i64 writes, .int .i64 tear] 40)
  have z1 : (w.alloc (.cells #[.slice Av bytes.length cv, .int .i64 room, .bool dead, .bool breaks, .int .i64 writes, .int .i64 tear] 40)).heap.size = w.heap.size + 1 := by rw [World.size_alloc]
  generalize w.alloc (.cells #[.slice Av bytes.length cv, .int .i64 room, .bool dead, .bool breaks, .int .i64 writes, .int .i64 tear] 40) = w1 at *
  have f2 := Fr.of_below hb2 (fun _ => False)
  have F2 := (Fr.of_below hb1 (fun _ => False)).trans f2 (fun _ h => h.elim)
  have hg12 := f2.blk hg1 (fun h => h)
  rw [z1] at hg2 hs2
  have hS : ∀ w', Fr (fun _ => False) w2 w' → w'.cell? ⟨w.heap.size, 0, none⟩ = some (.slice Av bytes.length cv) ∧ w'.cell? ⟨w.heap.size, 1, none⟩ = some (.int .i64 room) ∧ w'.cell? ⟨w.heap.size, 2, none⟩ = some (.bool dead) ∧ w'.cell? ⟨w.heap.size, 3, none⟩ = some (.bool breaks) ∧ w'.cell? ⟨w.heap.size, 4, none⟩ = some (.int .i64 writes) ∧ w'.cell? ⟨w.heap.size, 5, none⟩ = some (.int .i64 tear) := fun w' hf => by
    have hg := hf.blk hg12 (fun h => h)
    simp [World.cell?, hg]
  have hS9 : ∀ w4 w', (w4.cell? ⟨w.heap.size, 0, none⟩ = some (.slice Av bytes.length cv) ∧ w4.cell? ⟨w.heap.size, 1, none⟩ = some (.int .i64 room) ∧ w4.cell? ⟨w.heap.size, 2, none⟩ = some (.bool dead) ∧ w4.cell? ⟨w.heap.size, 3, none⟩ = some (.bool breaks) ∧ w4.cell? ⟨w.heap.size, 4, none⟩ = some (.int .i64 writes) ∧ w4.cell? ⟨w.heap.size, 5, none⟩ = some (.int .i64 tear)) → Fr (fun k => k = w.heap.size + 1) w4 w' → w'.cell? ⟨w.heap.size, 0, none⟩ = some (.slice Av bytes.length cv) ∧ w'.cell? ⟨w.heap.size, 1, none⟩ = some (.int .i64 room) ∧ w'.cell? ⟨w.heap.size, 2, none⟩ = some (.bool dead) ∧ w'.cell? ⟨w.heap.size, 3, none⟩ = some (.bool breaks) ∧ w'.cell? ⟨w.heap.size, 4, none⟩ = some (.int .i64 writes) ∧ w'.cell? ⟨w.heap.size, 5, none⟩ = some (.int .i64 tear) := fun w4 w' h hf =>
    ⟨hf.cell h.1 (fun e => by simp only at e; omega), hf.cell h.2.1 (fun e => by simp only at e; omega), hf.cell h.2.2.1 (fun e => by simp only at e; omega), hf.cell h.2.2.2.1 (fun e => by simp only at e; omega), hf.cell h.2.2.2.2.1 (fun e => by simp only at e; omega), hf.cell h.2.2.2.2.2 (fun e => by simp only at e; omega)⟩
  have HA : ∀ w1, Below w2.heap.size w2 w1 → Calls Try.prog 36 #[.slice A b.length c] w1 fun e w3 => ∃ (A2 : Option Addr) (c2 : Nat), e = .returned (.slice A2 (bytesA b).length c2) ∧ (w3.cell? ⟨w.heap.size, 0, none⟩ = some (.slice Av bytes.length cv) ∧ w3.cell? ⟨w.heap.size, 1, none⟩ = some (.int .i64 room) ∧ w3.cell? ⟨w.heap.size, 2, none⟩ = some (.bool dead) ∧ w3.cell? ⟨w.heap.size, 3, none⟩ = some (.bool breaks) ∧ w3.cell? ⟨w.heap.size, 4, none⟩ = some (.int .i64 writes) ∧ w3.cell? ⟨w.heap.size, 5, none⟩ = some (.int .i64 tear)) ∧ Aside0 (Fr (fun _ => False) w2 w3 ∧ Rd w3 A2 (bytesA b) ∧ (bytesA b).length ≤ c2) := by
    intro w1 hb1
    have f1 := Fr.of_below hb1 (fun _ => False)
    refine (catenaryref01_Bytes.calls 14 A c b (bytesA b) w1 (((HH.out.2.1.fr F2 (fun _ _ h => h)).fr f1 (fun _ _ h => h)).C (by have := HH.out.2.2.2.1; omega)) hc (rbytes_f b (by have := HH.out.2.2.2.1; omega) 14 (Nat.le_refl _))).mono ?_
    rintro e w3 ⟨v3, rfl, hR3, hb3⟩
    have hO3 : OB w3 w1.heap.size v3 (bytesA b) := Kd.own_of_R hR3
    obtain ⟨A2, c2, rfl, hc2⟩ := hO3.slice
    have f3 := f1.trans (Fr.of_below hb3 (fun _ => False)) (fun _ h => h.elim)
    exact ⟨A2, c2, rfl, hS _ f3, ⟨f3, QB.rd (q_of_own hO3), hc2⟩⟩
  have HB : ∀ w3 A2 c2, Aside0 (Fr (fun _ => False) w2 w3 ∧ Rd w3 A2 (bytesA b) ∧ (bytesA b).length ≤ c2) → Calls Try.prog 17 #[.agg #[.slice Av bytes.length cv, .int .i64 room, .bool dead, .bool breaks, .int .i64 writes, .int .i64 tear], .slice A2 (bytesA b).length c2, .bool false] w3 fun e w4 => ∃ (A' : Option Addr) (c' : Nat), e = .returned (.tuple #[.agg #[.slice A' r'.bytes.length c', .int .i64 r'.room, .bool r'.dead, .bool r'.breaks, .int .i64 r'.writes, .int .i64 r'.tear], .int .i64 er]) ∧ (w4.cell? ⟨w.heap.size, 0, none⟩ = some (.slice Av bytes.length cv) ∧ w4.cell? ⟨w.heap.size, 1, none⟩ = some (.int .i64 room) ∧ w4.cell? ⟨w.heap.size, 2, none⟩ = some (.bool dead) ∧ w4.cell? ⟨w.heap.size, 3, none⟩ = some (.bool breaks) ∧ w4.cell? ⟨w.heap.size, 4, none⟩ = some (.int .i64 writes) ∧ w4.cell? ⟨w.heap.size, 5, none⟩ = some (.int .i64 tear)) ∧ w4.heap[w.heap.size + 1]? = some (.cells Z6r 40 (0, 0)) ∧ Aside0 (Fr (fun _ => False) w2 w4 ∧ Lies w4 (.slice A' r'.bytes.length c') r'.bytes ∧ Near (w.heap.size + 2) w4 (.slice Av bytes.length cv) (.slice A' r'.bytes.length c')) := by
    intro w3 A2 c2 H
    have F := F2.trans H.out.1 (fun _ h => h.elim)
    have hlb := (bytesA_len b).1
    refine (rwrite_app ⟨bytes, room, dead, breaks, writes, tear⟩ (.slice Av bytes.length cv) A2 c2 (bytesA b) w3 ⟨Av, cv, rfl, HH.out.2.2.2.2.2.2.1, HH.out.1.fr F (fun _ _ h => h)⟩ H.out.2.1 H.out.2.2 (by have := HH.out.2.2.1; have := HH.out.2.2.2.1; simp only; omega) HH.out.2.2.2.2.1 HH.out.2.2.2.2.2.1).mono ?_
    rw [HH.out.2.2.2.2.2.2.2.2]
    rintro e w4 ⟨v', rfl, hL, hN, hb⟩
    obtain ⟨A', c', rfl, hc', hr'⟩ := hL
    have f4 := H.out.1.trans (Fr.of_below hb (fun _ => False)) (fun _ h => h.elim)
    have z := H.out.1.size
    have hg4 : w4.heap[w.heap.size + 1]? = some (.cells Z6r 40 (0, 0)) := f4.blk hg2 (fun h => h)
    exact ⟨A', c', rfl, hS _ f4, hg4, ⟨f4, ⟨A', c', rfl, hc', hr'⟩, fun k hk => (hN k hk).elim .inl (fun h => .inr ⟨by omega, h.2⟩)⟩⟩
  have hs2' := hS _ (Fr.refl _ _)
  have HN := Aside0.mk (And.intro F2 hs2)
  have HA := Aside0.mk HA
  have HB := Aside0.mk HB
  have HS9 := Aside0.mk hS9
  clear hS hS9 hb1 hb2 hg1 hg2 f2 F2 hg12 hs2 z1
  go_wp2_with (fail)
  refine wp_region_held_drew (S := (fun w' => w'.cell? ⟨w.heap.size, 0, none⟩ = some (.slice Av bytes.length cv) ∧ w'.cell? ⟨w.heap.size, 1, none⟩ = some (.int .i64 room) ∧ w'.cell? ⟨w.heap.size, 2, none⟩ = some (.bool dead) ∧ w'.cell? ⟨w.heap.size, 3, none⟩ = some (.bool breaks) ∧ w'.cell? ⟨w.heap.size, 4, none⟩ = some (.int .i64 writes) ∧ w'.cell? ⟨w.heap.size, 5, none⟩ = some (.int .i64 tear))) (by kernel_rfl) hs2' (fun hHeld => ?_)
  refine wpAnyH_take (i := 0) (oi := ⟨some 6, _, _, _, _, _⟩) (v := (.agg #[.slice Av bytes.length cv, .int .i64 room, .bool dead, .bool breaks, .int .i64 writes, .int .i64 tear])) rfl (by kernel_rfl) (by kernel_rfl) (by kernel_rfl) (fun _ _ _ h => h) (Or.inl ⟨by rfl, by (intro w' hSw; (try dsimp only at hSw); go_simp)⟩) (by assumption) ?_
  try simp only [Act.put, List.setIfInBounds_toArray, List.set_cons_zero, List.set_cons_succ]
  refine wpAnyH_take (i := 1) (oi := ⟨some 7, _, _, _, _, _⟩) (v := (.slice A b.length c)) rfl (by kernel_rfl) (by kernel_rfl) (by kernel_rfl) (fun _ _ _ h => h) (Or.inl ⟨by rfl, by (intro w' hSw; (try dsimp only at hSw); go_simp)⟩) (by assumption) ?_
  try simp only [Act.put, List.setIfInBounds_toArray, List.set_cons_zero, List.set_cons_succ]
  refine wpAnyH_ready (rs := [2]) (by kernel_rfl) (by simp) ?_
  refine AllReadyH.cons (o := ⟨some 8, _, _, _, _, _⟩) rfl (fun K hK => ?_) AllReadyH.nil
  go_simp
  go_at_call 36
  refine (HA.out _ (below_drew (Below.refl _ _))).mono ?_
  rintro e w3 ⟨A2, c2, rfl, hs3, H3⟩
  refine hK.out _ _ hs3 (fun hHeld => ?_)
  try simp only [Act.put, List.setIfInBounds_toArray, List.set_cons_zero, List.set_cons_succ]
  refine wpAnyH_ready (rs := [3]) (by kernel_rfl) (by simp) ?_
  refine AllReadyH.cons (o := ⟨some 9, _, _, _, _, _⟩) rfl (fun K hK => ?_) AllReadyH.nil
  go_simp
  go_at_call 17
  refine (HB.out _ _ _ H3).mono ?_
  rintro e w4 ⟨A', c', rfl, hs4, hg4, H4⟩
  refine hK.out _ _ hs4 (fun hHeld => ?_)
  try simp only [Act.put, List.setIfInBounds_toArray, List.set_cons_zero, List.set_cons_succ]
  refine wpAnyH_take (i := 4) (oi := ⟨some 10, _, _, _, _, _⟩) (v := (.agg #[.slice A' r'.bytes.length c', .int .i64 r'.room, .bool r'.dead, .bool r'.breaks, .int .i64 r'.writes, .int .i64 r'.tear])) rfl (by kernel_rfl) (by kernel_rfl) (by kernel_rfl) (fun _ _ _ h => h) (Or.inl ⟨by rfl, by (intro w' hSw; (try dsimp only at hSw); go_simp)⟩) (by assumption) ?_
  try simp only [Act.put, List.setIfInBounds_toArray, List.set_cons_zero, List.set_cons_succ]
  refine wpAnyH_take (i := 5) (oi := ⟨some 11, _, _, _, _, _⟩) (v := (.int .i64 er)) rfl (by kernel_rfl) (by kernel_rfl) (by kernel_rfl) (fun _ _ _ h => h) (Or.inl ⟨by rfl, by (intro w' hSw; (try dsimp only at hSw); go_simp)⟩) (by assumption) ?_
  try simp only [Act.put, List.setIfInBounds_toArray, List.set_cons_zero, List.set_cons_succ]
  refine wpAnyH_ready (rs := [6]) (by kernel_rfl) (by simp) ?_
  refine AllReadyH.cons (o := ⟨none, _, _, _, _, _⟩) rfl (fun K hK => ?_) AllReadyH.nil
  rw [if_pos (by rfl)]
  refine wp_store_abs 40 _ _ (by rfl) (w.heap.size + 1) #[.slice A' r'.bytes.length c', .int .i64 r'.room, .bool r'.dead, .bool r'.breaks, .int .i64 r'.writes, .int .i64 r'.tear] (by rfl) (by rfl) 40 Z6r hg4 (by kernel_rfl) (by rfl) (by simp [Value.oneCell']) ?_
  intro w9 hf9 hs9 hg9
  have hs5 := HS9.out _ _ hs4 hf9
  refine hK.out _ _ hs5 (fun hHeld => ?_)
  try simp only [Act.put, List.setIfInBounds_toArray, List.set_cons_zero, List.set_cons_succ]
  refine wpAnyH_take (i := 7) (oi := ⟨some 5, _, _, _, _, _⟩) (v := (.int .i64 er)) rfl (by kernel_rfl) (by kernel_rfl) (by kernel_rfl) (fun _ _ _ h => h) (Or.inl ⟨by rfl, by (intro w' hSw; (try dsimp only at hSw); go_simp)⟩) (by assumption) ?_
  try simp only [Act.put, List.setIfInBounds_toArray, List.set_cons_zero, List.set_cons_succ]
  refine wpAnyH_done (by kernel_rfl) ?_ _
  clear hs2' hs3 hs4 hs5
  go_wp2
  refine bodyPost_ret (results_cell_row_tmp (by rfl) _ _ (w.heap.size + 1) 40 #[.slice A' r'.bytes.length c', .int .i64 r'.room, .bool r'.dead, .bool r'.breaks, .int .i64 r'.writes, .int .i64 r'.tear] (0, 0) _ (by rfl) hg9 Try.underlying40 (by rfl) (by kernel_rfl)) rfl ?_
  have F4 := HN.out.1.trans H4.out.1 (fun _ h => h.elim)
  have F9 : Fr (fun _ => False) w w9 := F4.trans hf9 (fun k hk => .inr (by omega))
  have hfar := HH.out.2.2.2.2.2.2.2.1
  exact ⟨A', c', rfl, H4.out.2.1.fr hf9 (fun k hk e => (H4.out.2.2 k hk).elim (fun h => by have := hfar k h; omega) (fun h => by have := h.1; omega)), fun k hk => (H4.out.2.2 k hk).elim .inl (fun h => .inr ⟨by have := h.1; omega, by have := h.2; omega⟩), F9.below _ (Nat.le_refl _) (fun i h => h.elim)⟩
theorem radd_calls (r : Rdk) (v : Value) (A : Option Addr) (c : Nat) (b : List Int) (w : World) (hv : Lies w v r.bytes) (hfar : ∀ k, v.ownBlock = some k → k < w.heap.size) (hy : Rd w A b) (hc : b.length ≤ c) (hl2 : b.length ≤ 8388608) (hl : r.bytes.length ≤ 8388608) (hw : -4611686018427387904 ≤ r.writes) (hw2 : r.writes ≤ 9223372036854775807) :
    Calls Try.prog 20 #[.agg (rcs v r), .slice A b.length c] w fun e w' => ∃ v', e = .returned (.tuple #[.agg (rcs v' (r.write (bytesA b) false).1), .int .i64 (r.write (bytesA b) false).2]) ∧ Lies w' v' (r.write (bytesA b) false).1.bytes ∧ Near w.heap.size w' v v' ∧ Below w.heap.size w w' := by
  obtain ⟨bytes, room, dead, breaks, writes, tear⟩ := r
  obtain ⟨Av, cv, rfl, hcv, hr⟩ := hv
  refine (radd_x bytes room dead breaks writes tear Av cv A c b w hr hcv hfar hy hc hl2 hl hw hw2 _ _ rfl).mono ?_
  rintro e w' ⟨A', c', rfl, h1, h2, h3⟩
  exact ⟨_, rfl, h1, h2, h3⟩
set_option maxHeartbeats 8000000 in
set_option maxRecDepth 100000 in
theorem rcompact_x (bytes : List Int) (room : Int) (dead breaks : Bool) (writes tear : Int) (Av : Option Addr) (cv : Nat) (A : Option Addr) (c : Nat) (l : List (List Int)) (w : World) (hrv : Rd w Av bytes) (hcv : bytes.length ≤ cv) (hfar : ∀ k, (Value.slice Av bytes.length cv).ownBlock = some k → k < w.heap.size) (hy : CC w A l) (hc : l.length ≤ c) (hl2 : szL l ≤ 2097152) (hl : bytes.length ≤ 8388608) (hw : -4611686018427387904 ≤ writes) (hw2 : writes ≤ 9223372036854775807) (r' : Rdk) (er : Int) (he : Rdk.write ⟨bytes, room, dead, breaks, writes, tear⟩ (packA l) true = (r', er)) :
    Calls Try.prog 23 #[.agg #[.slice Av bytes.length cv, .int .i64 room, .bool dead, .bool breaks, .int .i64 writes, .int .i64 tear], .slice A l.length c] w fun e w' => ∃ A' c', e = .returned (.tuple #[.agg #[.slice A' r'.bytes.length c', .int .i64 r'.room, .bool r'.dead, .bool r'.breaks, .int .i64 r'.writes, .int .i64 r'.tear], .int .i64 er]) ∧ Lies w' (.slice A' r'.bytes.length c') r'.bytes ∧ Near w.heap.size w' (.slice Av bytes.length cv) (.slice A' r'.bytes.length c') ∧ Below w.heap.size w w' := by
  have HH := Aside0.mk (And.intro hrv (And.intro hy (And.intro hl (And.intro hl2 (And.intro hw (And.intro hw2 (And.intro hcv (And.intro hfar he))))))))
  clear hrv hy hl hl2 hw hw2 he hfar
  go_enter Try.func23, Try.ntmps23
  go_wp2_with (first | ((with_reducible refine gate_dst (N := 4) rfl ?_); refine wpList_alloc_abs (by rfl) 40 (by rfl) (.agg Z6r) (by kernel_rfl) ?_; intro w2 hb2 hs2 hg2))
  have hg1 := heap_alloc_new w (.cells #[.slice Av bytes.length cv, .int .i64 room, .bool dead, .bool breaks, .int .i64 writes, .int .i64 tear] 40)
  have hb1 := below_alloc (Below.refl w.heap.size w) (.cells #[.slice Av bytes.length cv, .int .i64 room, .bool dead, .bool breaks, .int .i64 writes, .int .i64 tear] 40)
  have z1 : (w.alloc (.cells #[.slice Av bytes.length cv, .int .i64 room, .bool dead, .bool breaks, .int .i64 writes, .int .i64 tear] 40)).heap.size = w.heap.size + 1 := by rw [World.size_alloc]
  generalize w.alloc (.cells #[.slice Av bytes.length cv, .int .i64 room, .bool dead, .bool breaks, .int .i64 writes, .int .i64 tear] 40) = w1 at *
  have f2 := Fr.of_below hb2 (fun _ => False)
  have F2 := (Fr.of_below hb1 (fun _ => False)).trans f2 (fun _ h => h.elim)
  have hg12 := f2.blk hg1 (fun h => h)
  rw [z1] at hg2 hs2
  have hS : ∀ w', Fr (fun _ => False) w2 w' → w'.cell? ⟨w.heap.size, 0, none⟩ = some (.slice Av bytes.length cv) ∧ w'.cell? ⟨w.heap.size, 1, none⟩ = some (.int .i64 room) ∧ w'.cell? ⟨w.heap.size, 2, none⟩ = some (.bool dead) ∧ w'.cell? ⟨w.heap.size, 3, none⟩ = some (.bool breaks) ∧ w'.cell? ⟨w.heap.size, 4, none⟩ = some (.int .i64 writes) ∧ w'.cell? ⟨w.heap.size, 5, none⟩ = some (.int .i64 tear) := fun w' hf => by
    have hg := hf.blk hg12 (fun h => h)
    simp [World.cell?, hg]
  have hS9 : ∀ w4 w', (w4.cell? ⟨w.heap.size, 0, none⟩ = some (.slice Av bytes.length cv) ∧ w4.cell? ⟨w.heap.size, 1, none⟩ = some (.int .i64 room) ∧ w4.cell? ⟨w.heap.size, 2, none⟩ = some (.bool dead) ∧ w4.cell? ⟨w.heap.size, 3, none⟩ = some (.bool breaks) ∧ w4.cell? ⟨w.heap.size, 4, none⟩ = some (.int .i64 writes) ∧ w4.cell? ⟨w.heap.size, 5, none⟩ = some (.int .i64 tear)) → Fr (fun k => k = w.heap.size + 1) w4 w' → w'.cell? ⟨w.heap.size, 0, none⟩ = some (.slice Av bytes.length cv) ∧ w'.cell? ⟨w.heap.size, 1, none⟩ = some (.int .i64 room) ∧ w'.cell? ⟨w.heap.size, 2, none⟩ = some (.bool dead) ∧ w'.cell? ⟨w.heap.size, 3, none⟩ = some (.bool breaks) ∧ w'.cell? ⟨w.heap.size, 4, none⟩ = some (.int .i64 writes) ∧ w'.cell? ⟨w.heap.size, 5, none⟩ = some (.int .i64 tear) := fun w4 w' h hf =>
    ⟨hf.cell h.1 (fun e => by simp only at e; omega), hf.cell h.2.1 (fun e => by simp only at e; omega), hf.cell h.2.2.1 (fun e => by simp only at e; omega), hf.cell h.2.2.2.1 (fun e => by simp only at e; omega), hf.cell h.2.2.2.2.1 (fun e => by simp only at e; omega), hf.cell h.2.2.2.2.2 (fun e => by simp only at e; omega)⟩
  have HA : ∀ w1, Below w2.heap.size w2 w1 → Calls Try.prog 38 #[.slice A l.length c] w1 fun e w3 => ∃ (A2 : Option Addr) (c2 : Nat), e = .returned (.slice A2 (packA l).length c2) ∧ (w3.cell? ⟨w.heap.size, 0, none⟩ = some (.slice Av bytes.length cv) ∧ w3.cell? ⟨w.heap.size, 1, none⟩ = some (.int .i64 room) ∧ w3.cell? ⟨w.heap.size, 2, none⟩ = some (.bool dead) ∧ w3.cell? ⟨w.heap.size, 3, none⟩ = some (.bool breaks) ∧ w3.cell? ⟨w.heap.size, 4, none⟩ = some (.int .i64 writes) ∧ w3.cell? ⟨w.heap.size, 5, none⟩ = some (.int .i64 tear)) ∧ Aside0 (Fr (fun _ => False) w2 w3 ∧ Rd w3 A2 (packA l) ∧ (packA l).length ≤ c2) := by
    intro w1 hb1
    have f1 := Fr.of_below hb1 (fun _ => False)
    refine (catenaryref01_Pack.calls (l.length + 15) A c l (packA l) w1 ((HH.out.2.1.fr F2).fr f1) hc (rpack_f l HH.out.2.2.2.1 _ (Nat.le_refl _))).mono ?_
    rintro e w3 ⟨v3, rfl, hR3, hb3⟩
    have hO3 : OB w3 w1.heap.size v3 (packA l) := Kd.own_of_R hR3
    obtain ⟨A2, c2, rfl, hc2⟩ := hO3.slice
    have f3 := f1.trans (Fr.of_below hb3 (fun _ => False)) (fun _ h => h.elim)
    exact ⟨A2, c2, rfl, hS _ f3, ⟨f3, QB.rd (q_of_own hO3), hc2⟩⟩
  have HB : ∀ w3 A2 c2, Aside0 (Fr (fun _ => False) w2 w3 ∧ Rd w3 A2 (packA l) ∧ (packA l).length ≤ c2) → Calls Try.prog 17 #[.agg #[.slice Av bytes.length cv, .int .i64 room, .bool dead, .bool breaks, .int .i64 writes, .int .i64 tear], .slice A2 (packA l).length c2, .bool true] w3 fun e w4 => ∃ (A' : Option Addr) (c' : Nat), e = .returned (.tuple #[.agg #[.slice A' r'.bytes.length c', .int .i64 r'.room, .bool r'.dead, .bool r'.breaks, .int .i64 r'.writes, .int .i64 r'.tear], .int .i64 er]) ∧ (w4.cell? ⟨w.heap.size, 0, none⟩ = some (.slice Av bytes.length cv) ∧ w4.cell? ⟨w.heap.size, 1, none⟩ = some (.int .i64 room) ∧ w4.cell? ⟨w.heap.size, 2, none⟩ = some (.bool dead) ∧ w4.cell? ⟨w.heap.size, 3, none⟩ = some (.bool breaks) ∧ w4.cell? ⟨w.heap.size, 4, none⟩ = some (.int .i64 writes) ∧ w4.cell? ⟨w.heap.size, 5, none⟩ = some (.int .i64 tear)) ∧ w4.heap[w.heap.size + 1]? = some (.cells Z6r 40 (0, 0)) ∧ Aside0 (Fr (fun _ => False) w2 w4 ∧ Lies w4 (.slice A' r'.bytes.length c') r'.bytes ∧ Near (w.heap.size + 2) w4 (.slice Av bytes.length cv) (.slice A' r'.bytes.length c')) := by
    intro w3 A2 c2 H
    have F := F2.trans H.out.1 (fun _ h => h.elim)
    have hlb := packA_len l
    refine (rwrite_all ⟨bytes, room, dead, breaks, writes, tear⟩ (.slice Av bytes.length cv) A2 c2 (packA l) w3 ⟨Av, cv, rfl, HH.out.2.2.2.2.2.2.1, HH.out.1.fr F (fun _ _ h => h)⟩ H.out.2.1 H.out.2.2 (by have := HH.out.2.2.1; have := HH.out.2.2.2.1; simp only; omega) HH.out.2.2.2.2.1 HH.out.2.2.2.2.2.1).mono ?_
    rw [HH.out.2.2.2.2.2.2.2.2]
    rintro e w4 ⟨v', rfl, hL, hN, hb⟩
    obtain ⟨A', c', rfl, hc', hr'⟩ := hL
    have f4 := H.out.1.trans (Fr.of_below hb (fun _ => False)) (fun _ h => h.elim)
    have z := H.out.1.size
    have hg4 : w4.heap[w.heap.size + 1]? = some (.cells Z6r 40 (0, 0)) := f4.blk hg2 (fun h => h)
    exact ⟨A', c', rfl, hS _ f4, hg4, ⟨f4, ⟨A', c', rfl, hc', hr'⟩, fun k hk => (hN k hk).elim .inl (fun h => .inr ⟨by omega, h.2⟩)⟩⟩
  have hs2' := hS _ (Fr.refl _ _)
  have HN := Aside0.mk (And.intro F2 hs2)
  have HA := Aside0.mk HA
  have HB := Aside0.mk HB
  have HS9 := Aside0.mk hS9
  clear hS hS9 hb1 hb2 hg1 hg2 f2 F2 hg12 hs2 z1
  go_wp2_with (fail)
  refine wp_region_held_drew (S := (fun w' => w'.cell? ⟨w.heap.size, 0, none⟩ = some (.slice Av bytes.length cv) ∧ w'.cell? ⟨w.heap.size, 1, none⟩ = some (.int .i64 room) ∧ w'.cell? ⟨w.heap.size, 2, none⟩ = some (.bool dead) ∧ w'.cell? ⟨w.heap.size, 3, none⟩ = some (.bool breaks) ∧ w'.cell? ⟨w.heap.size, 4, none⟩ = some (.int .i64 writes) ∧ w'.cell? ⟨w.heap.size, 5, none⟩ = some (.int .i64 tear))) (by kernel_rfl) hs2' (fun hHeld => ?_)
  refine wpAnyH_take (i := 0) (oi := ⟨some 6, _, _, _, _, _⟩) (v := (.agg #[.slice Av bytes.length cv, .int .i64 room, .bool dead, .bool breaks, .int .i64 writes, .int .i64 tear])) rfl (by kernel_rfl) (by kernel_rfl) (by kernel_rfl) (fun _ _ _ h => h) (Or.inl ⟨by rfl, by (intro w' hSw; (try dsimp only at hSw); go_simp)⟩) (by assumption) ?_
  try simp only [Act.put, List.setIfInBounds_toArray, List.set_cons_zero, List.set_cons_succ]
  refine wpAnyH_take (i := 1) (oi := ⟨some 7, _, _, _, _, _⟩) (v := (.slice A l.length c)) rfl (by kernel_rfl) (by kernel_rfl) (by kernel_rfl) (fun _ _ _ h => h) (Or.inl ⟨by rfl, by (intro w' hSw; (try dsimp only at hSw); go_simp)⟩) (by assumption) ?_
  try simp only [Act.put, List.setIfInBounds_toArray, List.set_cons_zero, List.set_cons_succ]
  refine wpAnyH_ready (rs := [2]) (by kernel_rfl) (by simp) ?_
  refine AllReadyH.cons (o := ⟨some 8, _, _, _, _, _⟩) rfl (fun K hK => ?_) AllReadyH.nil
  go_simp
  go_at_call 38
  refine (HA.out _ (below_drew (Below.refl _ _))).mono ?_
  rintro e w3 ⟨A2, c2, rfl, hs3, H3⟩
  refine hK.out _ _ hs3 (fun hHeld => ?_)
  try simp only [Act.put, List.setIfInBounds_toArray, List.set_cons_zero, List.set_cons_succ]
  refine wpAnyH_ready (rs := [3]) (by kernel_rfl) (by simp) ?_
  refine AllReadyH.cons (o := ⟨some 9, _, _, _, _, _⟩) rfl (fun K hK => ?_) AllReadyH.nil
  go_simp
  go_at_call 17
  refine (HB.out _ _ _ H3).mono ?_
  rintro e w4 ⟨A', c', rfl, hs4, hg4, H4⟩
  refine hK.out _ _ hs4 (fun hHeld => ?_)
  try simp only [Act.put, List.setIfInBounds_toArray, List.set_cons_zero, List.set_cons_succ]
  refine wpAnyH_take (i := 4) (oi := ⟨some 10, _, _, _, _, _⟩) (v := (.agg #[.slice A' r'.bytes.length c', .int .i64 r'.room, .bool r'.dead, .bool r'.breaks, .int .i64 r'.writes, .int .i64 r'.tear])) rfl (by kernel_rfl) (by kernel_rfl) (by kernel_rfl) (fun _ _ _ h => h) (Or.inl ⟨by rfl, by (intro w' hSw; (try dsimp only at hSw); go_simp)⟩) (by assumption) ?_
  try simp only [Act.put, List.setIfInBounds_toArray, List.set_cons_zero, List.set_cons_succ]
  refine wpAnyH_take (i := 5) (oi := ⟨some 11, _, _, _, _, _⟩) (v := (.int .i64 er)) rfl (by kernel_rfl) (by kernel_rfl) (by kernel_rfl) (fun _ _ _ h => h) (Or.inl ⟨by rfl, by (intro w' hSw; (try dsimp only at hSw); go_simp)⟩) (by assumption) ?_
  try simp only [Act.put, List.setIfInBounds_toArray, List.set_cons_zero, List.set_cons_succ]
  refine wpAnyH_ready (rs := [6]) (by kernel_rfl) (by simp) ?_
  refine AllReadyH.cons (o := ⟨none, _, _, _, _, _⟩) rfl (fun K hK => ?_) AllReadyH.nil
  rw [if_pos (by rfl)]
  refine wp_store_abs 40 _ _ (by rfl) (w.heap.size + 1) #[.slice A' r'.bytes.length c', .int .i64 r'.room, .bool r'.dead, .bool r'.breaks, .int .i64 r'.writes, .int .i64 r'.tear] (by rfl) (by rfl) 40 Z6r hg4 (by kernel_rfl) (by rfl) (by simp [Value.oneCell']) ?_
  intro w9 hf9 hs9 hg9
  have hs5 := HS9.out _ _ hs4 hf9
  refine hK.out _ _ hs5 (fun hHeld => ?_)
  try simp only [Act.put, List.setIfInBounds_toArray, List.set_cons_zero, List.set_cons_succ]
  refine wpAnyH_take (i := 7) (oi := ⟨some 5, _, _, _, _, _⟩) (v := (.int .i64 er)) rfl (by kernel_rfl) (by kernel_rfl) (by kernel_rfl) (fun _ _ _ h => h) (Or.inl ⟨by rfl, by (intro w' hSw; (try dsimp only at hSw); go_simp)⟩) (by assumption) ?_
  try simp only [Act.put, List.setIfInBounds_toArray, List.set_cons_zero, List.set_cons_succ]
  refine wpAnyH_done (by kernel_rfl) ?_ _
  clear hs2' hs3 hs4 hs5
  go_wp2
  refine bodyPost_ret (results_cell_row_tmp (by rfl) _ _ (w.heap.size + 1) 40 #[.slice A' r'.bytes.length c', .int .i64 r'.room, .bool r'.dead, .bool r'.breaks, .int .i64 r'.writes, .int .i64 r'.tear] (0, 0) _ (by rfl) hg9 Try.underlying40 (by rfl) (by kernel_rfl)) rfl ?_
  have F4 := HN.out.1.trans H4.out.1 (fun _ h => h.elim)
  have F9 : Fr (fun _ => False) w w9 := F4.trans hf9 (fun k hk => .inr (by omega))
  have hfar := HH.out.2.2.2.2.2.2.2.1
  exact ⟨A', c', rfl, H4.out.2.1.fr hf9 (fun k hk e => (H4.out.2.2 k hk).elim (fun h => by have := hfar k h; omega) (fun h => by have := h.1; omega)), fun k hk => (H4.out.2.2 k hk).elim .inl (fun h => .inr ⟨by have := h.1; omega, by have := h.2; omega⟩), F9.below _ (Nat.le_refl _) (fun i h => h.elim)⟩
theorem rcompact_calls (r : Rdk) (v : Value) (A : Option Addr) (c : Nat) (l : List (List Int)) (w : World) (hv : Lies w v r.bytes) (hfar : ∀ k, v.ownBlock = some k → k < w.heap.size) (hy : CC w A l) (hc : l.length ≤ c) (hl2 : szL l ≤ 2097152) (hl : r.bytes.length ≤ 8388608) (hw : -4611686018427387904 ≤ r.writes) (hw2 : r.writes ≤ 9223372036854775807) :
    Calls Try.prog 23 #[.agg (rcs v r), .slice A l.length c] w fun e w' => ∃ v', e = .returned (.tuple #[.agg (rcs v' (r.write (packA l) true).1), .int .i64 (r.write (packA l) true).2]) ∧ Lies w' v' (r.write (packA l) true).1.bytes ∧ Near w.heap.size w' v v' ∧ Below w.heap.size w w' := by
  obtain ⟨bytes, room, dead, breaks, writes, tear⟩ := r
  obtain ⟨Av, cv, rfl, hcv, hr⟩ := hv
  refine (rcompact_x bytes room dead breaks writes tear Av cv A c l w hr hcv hfar hy hc hl2 hl hw hw2 _ _ rfl).mono ?_
  rintro e w' ⟨A', c', rfl, h1, h2, h3⟩
  exact ⟨_, rfl, h1, h2, h3⟩
end Go.Proofs.Ytkkgjbafncmohaa.Sha

/-
  The document's log: Open (catenaryref12).
-/
set_option linter.unusedVariables false
set_option linter.unusedSimpArgs false
namespace Go.Proofs.Ytkkgjbafncmohaa.Sha
open Go.RowKit Go.Proofs.YtkkgjbafncmohaaW.PrintWords Go.Proofs.YtkkgjbafncmohaaW.PrintLast Go.Proofs.YtkkgjbafncmohaaW.PrintMore Go.Proofs.Ytkkgjbafncmohaa.Q Go.Proofs.Ytkkgjbafncmohaa.Fr Go.Proofs.Ytkkgjbafncmohaa.Oct

theorem results_cell_row_tmps {P : Program} {fn : Func} {p u u2 : Tmp} {ty : TypeId} (h : fn.results = #[.cell p ty, .tmp u, .tmp u2]) (tmps : Array Value) (w : World) (g : Nat) (t : TypeId) (cs : Array Value) (fr : Nat × Nat) (d : TypeDesc)
    (hp : tmps.getD p undef = .pointer (some ⟨g, 0, none⟩)) (hg : w.heap[g]? = some (.cells cs t fr))
    (hu : P.underlying ty = some d) (hd : (match d with | .struct _ | .array _ _ => true | _ => false) = true) (hi : (P.info? ty).map (·.size) = some cs.size) :
    (results fn tmps).run P w = .ok (.tuple #[.agg cs, tmps.getD u undef, tmps.getD u2 undef]) w := by
  have hp' : tmps[p]?.getD undef = .pointer (some ⟨g, 0, none⟩) := by simpa using hp
  simp [results, h, hp', asAddr, run_loadVar_row w g t ty cs fr d hg hu hd hi]
/-- What opening does to the document's disk: the disk behind it, the records, the error's number. -/
def Rdk.open (r : Rdk) : Rdk × List (List Int) × Int :=
  if r.dead = true then (r, [], 115)
  else if (scanA r.bytes).2 < r.bytes.length then
    (if (r.write (r.bytes.take (scanA r.bytes).2) true).2 = 0 then ((r.write (r.bytes.take (scanA r.bytes).2) true).1, (scanA r.bytes).1, 0) else ((r.write (r.bytes.take (scanA r.bytes).2) true).1, [], (r.write (r.bytes.take (scanA r.bytes).2) true).2))
  else (r, (scanA r.bytes).1, 0)
theorem CC.none0 (w : World) : CC w none [] := ⟨rfl, by simp, fun h => by simp at h⟩
set_option maxHeartbeats 8000000 in
set_option maxRecDepth 100000 in
theorem ropen_dead (bytes : List Int) (room : Int) (dead breaks : Bool) (writes tear : Int) (Av : Option Addr) (cv : Nat) (w : World) (hrv : Rd w Av bytes) (hcv : bytes.length ≤ cv) (hfar : ∀ k, (Value.slice Av bytes.length cv).ownBlock = some k → k < w.heap.size) (hd : dead = true) :
    Calls Try.prog 19 #[.agg #[.slice Av bytes.length cv, .int .i64 room, .bool dead, .bool breaks, .int .i64 writes, .int .i64 tear]] w fun e w' => e = .returned (.tuple #[.agg #[.slice Av bytes.length cv, .int .i64 room, .bool true, .bool breaks, .int .i64 writes, .int .i64 tear], .slice none 0 0, .int .i64 115]) ∧ Below w.heap.size w w' := by
  subst hd
  clear hrv
  go_enter Try.func19, Try.ntmps19
  go_wp2_with (first | ((with_reducible refine gate_dst (N := 2) rfl ?_); refine wpList_alloc_abs (by rfl) 40 (by rfl) (.agg Z6r) (by kernel_rfl) ?_; intro w2 hb2 hs2 hg2; (with_reducible refine Aside0.out ?_)))
  refine ⟨?_⟩
  have hg1 := heap_alloc_new w (.cells #[.slice Av bytes.length cv, .int .i64 room, .bool true, .bool breaks, .int .i64 writes, .int .i64 tear] 40)
  have hb1 := below_alloc (Below.refl w.heap.size w) (.cells #[.slice Av bytes.length cv, .int .i64 room, .bool true, .bool breaks, .int .i64 writes, .int .i64 tear] 40)
  have z1 : (w.alloc (.cells #[.slice Av bytes.length cv, .int .i64 room, .bool true, .bool breaks, .int .i64 writes, .int .i64 tear] 40)).heap.size = w.heap.size + 1 := by rw [World.size_alloc]
  generalize w.alloc (.cells #[.slice Av bytes.length cv, .int .i64 room, .bool true, .bool breaks, .int .i64 writes, .int .i64 tear] 40) = w1 at *
  have f2 := Fr.of_below hb2 (fun _ => False)
  have F2 := (Fr.of_below hb1 (fun _ => False)).trans f2 (fun _ h => h.elim)
  have hg12 := f2.blk hg1 (fun h => h)
  rw [z1] at hg2 hs2
  have hS : ∀ w', Fr (fun _ => False) w2 w' → w'.cell? ⟨w.heap.size, 0, none⟩ = some (.slice Av bytes.length cv) ∧ w'.cell? ⟨w.heap.size, 1, none⟩ = some (.int .i64 room) ∧ w'.cell? ⟨w.heap.size, 2, none⟩ = some (.bool true) ∧ w'.cell? ⟨w.heap.size, 3, none⟩ = some (.bool breaks) ∧ w'.cell? ⟨w.heap.size, 4, none⟩ = some (.int .i64 writes) ∧ w'.cell? ⟨w.heap.size, 5, none⟩ = some (.int .i64 tear) := fun w' hf => by
    have hg := hf.blk hg12 (fun h => h)
    simp [World.cell?, hg]
  obtain ⟨k0, k1, k2, k3, k4, k5⟩ := hS _ (Fr.refl _ _)
  have HS := Aside0.mk hS
  have HN := Aside0.mk (And.intro F2 (And.intro hs2 hg2))
  clear hS hb1 hb2 hg1 hg2 f2 F2 hg12 hs2 z1
  go_wp2_with ((with_reducible refine gate_store (p := 2) rfl ?_); refine Aside0.out ?_)
  refine ⟨?_⟩
  refine wpList_store_abs (by rfl) 40 _ _ (by rfl) (w.heap.size + 1) #[.slice Av bytes.length cv, .int .i64 room, .bool true, .bool breaks, .int .i64 writes, .int .i64 tear] (by rfl) (by rfl) 40 Z6r HN.out.2.2 (by kernel_rfl) (by rfl) (by simp [Value.oneCell']) ?_
  intro w9 hf9 hs9 hg9
  clear k0 k1 k2 k3 k4 k5
  go_wp2
  refine bodyPost_ret (results_cell_row_tmps (by rfl) _ _ (w.heap.size + 1) 40 #[.slice Av bytes.length cv, .int .i64 room, .bool true, .bool breaks, .int .i64 writes, .int .i64 tear] (0, 0) _ (by rfl) hg9 Try.underlying40 (by rfl) (by kernel_rfl)) rfl ?_
  exact ⟨rfl, (HN.out.1.trans hf9 (fun k hk => .inr (by omega))).below _ (Nat.le_refl _) (fun i h => h.elim)⟩
set_option maxHeartbeats 8000000 in
set_option maxRecDepth 100000 in
theorem ropen_whole (bytes : List Int) (room : Int) (dead breaks : Bool) (writes tear : Int) (Av : Option Addr) (cv : Nat) (w : World) (hrv : Rd w Av bytes) (hcv : bytes.length ≤ cv) (hfar : ∀ k, (Value.slice Av bytes.length cv).ownBlock = some k → k < w.heap.size) (hd : dead = false) (hl : bytes.length ≤ 8388608) (rs : List (List Int)) (n : Nat) (hsc : catenaryref12_Scan.f (bytes.length + 32) bytes = some (rs, (n : Int))) (hn : ¬ n < bytes.length) :
    Calls Try.prog 19 #[.agg #[.slice Av bytes.length cv, .int .i64 room, .bool dead, .bool breaks, .int .i64 writes, .int .i64 tear]] w fun e w' => ∃ A c, e = .returned (.tuple #[.agg #[.slice Av bytes.length cv, .int .i64 room, .bool false, .bool breaks, .int .i64 writes, .int .i64 tear], .slice A rs.length c, .int .i64 0]) ∧ rs.length ≤ c ∧ St w.heap.size w' A rs ∧ Below w.heap.size w w' := by
  subst hd
  have HH := Aside0.mk (And.intro hrv (And.intro hl (And.intro hsc hfar)))
  have c1 : decide ((n : Int) < (bytes.length : Int)) = false := decide_eq_false (by omega)
  clear hrv hl hsc hfar
  go_enter Try.func19, Try.ntmps19
  go_wp2_with (first | ((with_reducible refine gate_dst (N := 2) rfl ?_); refine wpList_alloc_abs (by rfl) 40 (by rfl) (.agg Z6r) (by kernel_rfl) ?_; intro w2 hb2 hs2 hg2; (with_reducible refine Aside0.out ?_)))
  refine ⟨?_⟩
  have hg1 := heap_alloc_new w (.cells #[.slice Av bytes.length cv, .int .i64 room, .bool false, .bool breaks, .int .i64 writes, .int .i64 tear] 40)
  have hb1 := below_alloc (Below.refl w.heap.size w) (.cells #[.slice Av bytes.length cv, .int .i64 room, .bool false, .bool breaks, .int .i64 writes, .int .i64 tear] 40)
  have z1 : (w.alloc (.cells #[.slice Av bytes.length cv, .int .i64 room, .bool false, .bool breaks, .int .i64 writes, .int .i64 tear] 40)).heap.size = w.heap.size + 1 := by rw [World.size_alloc]
  generalize w.alloc (.cells #[.slice Av bytes.length cv, .int .i64 room, .bool false, .bool breaks, .int .i64 writes, .int .i64 tear] 40) = w1 at *
  have f2 := Fr.of_below hb2 (fun _ => False)
  have F2 := (Fr.of_below hb1 (fun _ => False)).trans f2 (fun _ h => h.elim)
  have hg12 := f2.blk hg1 (fun h => h)
  rw [z1] at hg2 hs2
  have hS : ∀ w', Fr (fun _ => False) w2 w' → w'.cell? ⟨w.heap.size, 0, none⟩ = some (.slice Av bytes.length cv) ∧ w'.cell? ⟨w.heap.size, 1, none⟩ = some (.int .i64 room) ∧ w'.cell? ⟨w.heap.size, 2, none⟩ = some (.bool false) ∧ w'.cell? ⟨w.heap.size, 3, none⟩ = some (.bool breaks) ∧ w'.cell? ⟨w.heap.size, 4, none⟩ = some (.int .i64 writes) ∧ w'.cell? ⟨w.heap.size, 5, none⟩ = some (.int .i64 tear) := fun w' hf => by
    have hg := hf.blk hg12 (fun h => h)
    simp [World.cell?, hg]
  obtain ⟨k0, k1, k2, k3, k4, k5⟩ := hS _ (Fr.refl _ _)
  have HS := Aside0.mk hS
  have HN := Aside0.mk (And.intro F2 (And.intro hs2 hg2))
  clear hS hb1 hb2 hg1 hg2 f2 F2 hg12 hs2 z1
  go_wp2_with (fail)
  refine (catenaryref12_Scan.calls (bytes.length + 32) Av cv bytes rs (n : Int) w2 ((HH.out.1.fr HN.out.1 (fun _ _ h => h)).C (by have := HH.out.2.1; omega)) hcv HH.out.2.2.1).mono ?_
  rintro e w3 ⟨v3, rfl, hS3, hb3⟩
  have hR3 := Kd.R_bound (Kd.S_R hS3)
  obtain ⟨A3, c3, rfl, hc3, hC3⟩ := Kd.S_reads hS3
  have f3 := Fr.of_below hb3 (fun _ => False)
  obtain ⟨k0, k1, k2, k3, k4, k5⟩ := HS.out _ f3
  have H3 := Aside0.mk (And.intro f3 (And.intro hR3 (show w.heap.size + 2 = w2.heap.size by have := HN.out.2.1; omega)))
  clear hS3 hb3 hC3 f3 hR3
  go_wp2_with ((with_reducible refine gate_store (p := 2) rfl ?_); refine Aside0.out ?_)
  refine ⟨?_⟩
  refine wpList_store_abs (by rfl) 40 _ _ (by rfl) (w.heap.size + 1) #[.slice Av bytes.length cv, .int .i64 room, .bool false, .bool breaks, .int .i64 writes, .int .i64 tear] (by rfl) (by rfl) 40 Z6r (H3.out.1.blk HN.out.2.2 (fun h => h)) (by kernel_rfl) (by rfl) (by simp [Value.oneCell']) ?_
  intro w9 hf9 hs9 hg9
  clear k0 k1 k2 k3 k4 k5
  go_wp2
  refine bodyPost_ret (results_cell_row_tmps (by rfl) _ _ (w.heap.size + 1) 40 #[.slice Av bytes.length cv, .int .i64 room, .bool false, .bool breaks, .int .i64 writes, .int .i64 tear] (0, 0) _ (by rfl) hg9 Try.underlying40 (by rfl) (by kernel_rfl)) rfl ?_
  have F3 := HN.out.1.trans H3.out.1 (fun _ h => h.elim)
  have F9 : Fr (fun _ => False) w w9 := F3.trans hf9 (fun k hk => .inr (by omega))
  exact ⟨A3, c3, rfl, hc3, (fun w'' hw => by
    have := Kd.R_step H3.out.2.1 (w1 := w'') (fun k hk hlt => (hw k (by have := hk.2.1; have := H3.out.2.2; omega) (by have := hf9.size; omega)).trans (hf9.block k hlt (fun e => by have := hk.2.1; have := H3.out.2.2; omega)))
    exact (Kd.R_reads' this).2.2), F9.below _ (Nat.le_refl _) (fun i h => h.elim)⟩
set_option maxHeartbeats 8000000 in
set_option maxRecDepth 100000 in
theorem ropen_torn0 (bytes : List Int) (room : Int) (dead breaks : Bool) (writes tear : Int) (Av : Option Addr) (cv : Nat) (w : World) (hrv : Rd w Av bytes) (hcv : bytes.length ≤ cv) (hfar : ∀ k, (Value.slice Av bytes.length cv).ownBlock = some k → k < w.heap.size) (hd : dead = false) (hl : bytes.length ≤ 8388608) (hw : -4611686018427387904 ≤ writes) (hw2 : writes ≤ 9223372036854775807) (rs : List (List Int)) (n : Nat) (hsc : catenaryref12_Scan.f (bytes.length + 32) bytes = some (rs, (n : Int))) (hn : n < bytes.length) (r' : Rdk) (er : Int) (he : Rdk.write ⟨bytes, room, dead, breaks, writes, tear⟩ (bytes.take n) true = (r', er)) (h0 : er = 0) :
    Calls Try.prog 19 #[.agg #[.slice Av bytes.length cv, .int .i64 room, .bool dead, .bool breaks, .int .i64 writes, .int .i64 tear]] w fun e w' => ∃ A c A' c', e = .returned (.tuple #[.agg #[.slice A' r'.bytes.length c', .int .i64 r'.room, .bool r'.dead, .bool r'.breaks, .int .i64 r'.writes, .int .i64 r'.tear], .slice A (rs : List (List Int)).length c, .int .i64 er]) ∧ (rs : List (List Int)).length ≤ c ∧ St w.heap.size w' A rs ∧ Lies w' (.slice A' r'.bytes.length c') r'.bytes ∧ Near w.heap.size w' (.slice Av bytes.length cv) (.slice A' r'.bytes.length c') ∧ Below w.heap.size w w' := by
  subst hd
  subst h0
  have HH := Aside0.mk (And.intro hrv (And.intro hl (And.intro hsc (And.intro hfar (And.intro hw (And.intro hw2 he))))))
  have c1 : decide ((n : Int) < (bytes.length : Int)) = true := decide_eq_true (by omega)
  clear hrv hl hsc hfar hw hw2 he
  obtain ⟨i0, hi0, _, hsz, _⟩ := info_parts infoB
  go_enter Try.func19, Try.ntmps19
  go_wp2_with (first | ((with_reducible refine gate_dst (N := 2) rfl ?_); refine wpList_alloc_abs (by rfl) 40 (by rfl) (.agg Z6r) (by kernel_rfl) ?_; intro w2 hb2 hs2 hg2; (with_reducible refine Aside0.out ?_)))
  refine ⟨?_⟩
  have hg1 := heap_alloc_new w (.cells #[.slice Av bytes.length cv, .int .i64 room, .bool false, .bool breaks, .int .i64 writes, .int .i64 tear] 40)
  have hb1 := below_alloc (Below.refl w.heap.size w) (.cells #[.slice Av bytes.length cv, .int .i64 room, .bool false, .bool breaks, .int .i64 writes, .int .i64 tear] 40)
  have z1 : (w.alloc (.cells #[.slice Av bytes.length cv, .int .i64 room, .bool false, .bool breaks, .int .i64 writes, .int .i64 tear] 40)).heap.size = w.heap.size + 1 := by rw [World.size_alloc]
  generalize w.alloc (.cells #[.slice Av bytes.length cv, .int .i64 room, .bool false, .bool breaks, .int .i64 writes, .int .i64 tear] 40) = w1 at *
  have f2 := Fr.of_below hb2 (fun _ => False)
  have F2 := (Fr.of_below hb1 (fun _ => False)).trans f2 (fun _ h => h.elim)
  have hg12 := f2.blk hg1 (fun h => h)
  rw [z1] at hg2 hs2
  have hS : ∀ w', Fr (fun _ => False) w2 w' → w'.cell? ⟨w.heap.size, 0, none⟩ = some (.slice Av bytes.length cv) ∧ w'.cell? ⟨w.heap.size, 1, none⟩ = some (.int .i64 room) ∧ w'.cell? ⟨w.heap.size, 2, none⟩ = some (.bool false) ∧ w'.cell? ⟨w.heap.size, 3, none⟩ = some (.bool breaks) ∧ w'.cell? ⟨w.heap.size, 4, none⟩ = some (.int .i64 writes) ∧ w'.cell? ⟨w.heap.size, 5, none⟩ = some (.int .i64 tear) := fun w' hf => by
    have hg := hf.blk hg12 (fun h => h)
    simp [World.cell?, hg]
  obtain ⟨k0, k1, k2, k3, k4, k5⟩ := hS _ (Fr.refl _ _)
  have HS := Aside0.mk hS
  have HN := Aside0.mk (And.intro F2 (And.intro hs2 hg2))
  clear hS hb1 hb2 hg1 hg2 f2 F2 hg12 hs2 z1
  go_wp2_with (fail)
  refine (catenaryref12_Scan.calls (bytes.length + 32) Av cv bytes rs (n : Int) w2 ((HH.out.1.fr HN.out.1 (fun _ _ h => h)).C (by have := HH.out.2.1; omega)) hcv HH.out.2.2.1).mono ?_
  rintro e w3 ⟨v3, rfl, hS3, hb3⟩
  have hR3 := Kd.R_bound (Kd.S_R hS3)
  obtain ⟨A3, c3, rfl, hc3, hC3⟩ := Kd.S_reads hS3
  have f3 := Fr.of_below hb3 (fun _ => False)
  obtain ⟨k0, k1, k2, k3, k4, k5⟩ := HS.out _ f3
  have H3 := Aside0.mk (And.intro f3 (And.intro hR3 (show w.heap.size + 2 = w2.heap.size by have := HN.out.2.1; omega)))
  clear hS3 hb3 hC3 f3 hR3
  have hcut := cut_to (P := Try.prog) 22 5 .i64 Try.underlying22 hi0 Av bytes.length cv (n : Int) (by omega) (by omega) hcv
  rw [Int.toNat_natCast] at hcut
  have hs3 : w3.cell? ⟨w.heap.size, 0, none⟩ = some (.slice Av bytes.length cv) ∧ w3.cell? ⟨w.heap.size, 1, none⟩ = some (.int .i64 room) ∧ w3.cell? ⟨w.heap.size, 2, none⟩ = some (.bool false) ∧ w3.cell? ⟨w.heap.size, 3, none⟩ = some (.bool breaks) ∧ w3.cell? ⟨w.heap.size, 4, none⟩ = some (.int .i64 writes) ∧ w3.cell? ⟨w.heap.size, 5, none⟩ = some (.int .i64 tear) := ⟨k0, k1, k2, k3, k4, k5⟩
  have HB : ∀ w4, Fr (fun _ => False) w3 w4 → Calls Try.prog 17 #[.agg #[.slice Av bytes.length cv, .int .i64 room, .bool false, .bool breaks, .int .i64 writes, .int .i64 tear], .slice Av n cv, .bool true] w4 fun e w5 => ∃ (A' : Option Addr) (c' : Nat), e = .returned (.tuple #[.agg #[.slice A' r'.bytes.length c', .int .i64 r'.room, .bool r'.dead, .bool r'.breaks, .int .i64 r'.writes, .int .i64 r'.tear], .int .i64 0]) ∧ (w5.cell? ⟨w.heap.size, 0, none⟩ = some (.slice Av bytes.length cv) ∧ w5.cell? ⟨w.heap.size, 1, none⟩ = some (.int .i64 room) ∧ w5.cell? ⟨w.heap.size, 2, none⟩ = some (.bool false) ∧ w5.cell? ⟨w.heap.size, 3, none⟩ = some (.bool breaks) ∧ w5.cell? ⟨w.heap.size, 4, none⟩ = some (.int .i64 writes) ∧ w5.cell? ⟨w.heap.size, 5, none⟩ = some (.int .i64 tear)) ∧ Aside0 (Fr (fun _ => False) w4 w5 ∧ Lies w5 (.slice A' r'.bytes.length c') r'.bytes ∧ Near w4.heap.size w5 (.slice Av bytes.length cv) (.slice A' r'.bytes.length c')) := by
    intro w4 hf4
    have F3 := HN.out.1.trans H3.out.1 (fun _ h => h.elim)
    have F := F3.trans hf4 (fun _ h => h.elim)
    have hln : (bytes.take n).length = n := by rw [List.length_take]; omega
    have hwr := rwrite_all ⟨bytes, room, false, breaks, writes, tear⟩ (.slice Av bytes.length cv) Av cv (bytes.take n) w4 ⟨Av, cv, rfl, hcv, HH.out.1.fr F (fun _ _ h => h)⟩ ((HH.out.1.fr F (fun _ _ h => h)).take n) (by rw [hln]; omega) (by rw [hln]; have := HH.out.2.1; simp only; omega) HH.out.2.2.2.2.1 HH.out.2.2.2.2.2.1
    rw [hln, HH.out.2.2.2.2.2.2] at hwr
    refine hwr.mono ?_
    rintro e w5 ⟨v', rfl, hL, hN, hb⟩
    obtain ⟨A', c', rfl, hc', hr'⟩ := hL
    have f5 := Fr.of_below hb (fun _ => False)
    exact ⟨A', c', rfl, HS.out _ ((H3.out.1.trans hf4 (fun _ h => h.elim)).trans f5 (fun _ h => h.elim)), ⟨f5, ⟨A', c', rfl, hc', hr'⟩, hN⟩⟩
  have HB := Aside0.mk HB
  clear k1 k2 k3 k4 k5
  go_wp2_with (fail)
  clear k0
  refine wp_region_held_drew (S := (fun w' => w'.cell? ⟨w.heap.size, 0, none⟩ = some (.slice Av bytes.length cv) ∧ w'.cell? ⟨w.heap.size, 1, none⟩ = some (.int .i64 room) ∧ w'.cell? ⟨w.heap.size, 2, none⟩ = some (.bool false) ∧ w'.cell? ⟨w.heap.size, 3, none⟩ = some (.bool breaks) ∧ w'.cell? ⟨w.heap.size, 4, none⟩ = some (.int .i64 writes) ∧ w'.cell? ⟨w.heap.size, 5, none⟩ = some (.int .i64 tear))) (by kernel_rfl) hs3 (fun hHeld => ?_)
  refine wpAnyH_take (i := 0) (oi := ⟨some 24, _, _, _, _, _⟩) (v := (.agg #[.slice Av bytes.length cv, .int .i64 room, .bool false, .bool breaks, .int .i64 writes, .int .i64 tear])) rfl (by kernel_rfl) (by kernel_rfl) (by kernel_rfl) (fun _ _ _ h => h) (Or.inl ⟨by rfl, by (intro w' hSw; (try dsimp only at hSw); go_simp)⟩) (by assumption) ?_
  try simp only [Act.put, List.setIfInBounds_toArray, List.set_cons_zero, List.set_cons_succ]
  refine wpAnyH_take (i := 1) (oi := ⟨some 25, _, _, _, _, _⟩) (v := (.pointer (some ⟨w.heap.size, 0, none⟩))) rfl (by kernel_rfl) (by kernel_rfl) (by kernel_rfl) (fun _ _ _ h => h) (Or.inl ⟨by rfl, by (intro w' hSw; (try dsimp only at hSw); go_simp)⟩) (by assumption) ?_
  try simp only [Act.put, List.setIfInBounds_toArray, List.set_cons_zero, List.set_cons_succ]
  refine wpAnyH_take (i := 2) (oi := ⟨some 26, _, _, _, _, _⟩) (v := (.slice Av bytes.length cv)) rfl (by kernel_rfl) (by kernel_rfl) (by kernel_rfl) (fun _ _ _ h => h) (Or.inl ⟨by rfl, by (intro w' hSw; (try dsimp only at hSw); go_simp)⟩) (by assumption) ?_
  try simp only [Act.put, List.setIfInBounds_toArray, List.set_cons_zero, List.set_cons_succ]
  refine wpAnyH_take (i := 3) (oi := ⟨some 27, _, _, _, _, _⟩) (v := (.int .i64 (n : Int))) rfl (by kernel_rfl) (by kernel_rfl) (by kernel_rfl) (fun _ _ _ h => h) (Or.inl ⟨by rfl, by (intro w' hSw; (try dsimp only at hSw); go_simp)⟩) (by assumption) ?_
  try simp only [Act.put, List.setIfInBounds_toArray, List.set_cons_zero, List.set_cons_succ]
  refine wpAnyH_take (i := 4) (oi := ⟨some 28, _, _, _, _, _⟩) (v := (.slice Av n cv)) rfl (by kernel_rfl) (by kernel_rfl) (by kernel_rfl) (fun _ _ _ h => h) (Or.inl ⟨by rfl, by (intro w' hSw; (try dsimp only at hSw); go_simp)⟩) (by assumption) ?_
  try simp only [Act.put, List.setIfInBounds_toArray, List.set_cons_zero, List.set_cons_succ]
  have f3d : Fr (fun _ => False) w3 w3.drew := (Fr.refl _ _).of_drew
  refine wpAnyH_ready (rs := [5, 9]) (by kernel_rfl) (by simp) ?_
  refine AllReadyH.cons (o := ⟨some 29, _, _, _, _, _⟩) rfl (fun K hK => ?_) (AllReadyH.cons (o := ⟨some 7, _, _, _, _, _⟩) rfl (fun K hK => ?_) AllReadyH.nil)
  · go_simp
    go_at_call 17
    refine (HB.out _ f3d).mono ?_
    rintro e w4 ⟨A', c', rfl, hs4, H4⟩
    refine hK.out _ _ hs4 (fun hHeld => ?_)
    try simp only [Act.put, List.setIfInBounds_toArray, List.set_cons_zero, List.set_cons_succ]
    refine wpAnyH_take (i := 6) (oi := ⟨some 23, _, _, _, _, _⟩) (v := (.tuple #[.agg #[.slice A' r'.bytes.length c', .int .i64 r'.room, .bool r'.dead, .bool r'.breaks, .int .i64 r'.writes, .int .i64 r'.tear], .int .i64 0])) rfl (by kernel_rfl) (by kernel_rfl) (by kernel_rfl) (fun _ _ _ h => h) (Or.inl ⟨by rfl, by (intro w' hSw; (try dsimp only at hSw); go_simp)⟩) (by assumption) ?_
    try simp only [Act.put, List.setIfInBounds_toArray, List.set_cons_zero, List.set_cons_succ]
    refine wpAnyH_take (i := 7) (oi := ⟨some 30, _, _, _, _, _⟩) (v := (.agg #[.slice A' r'.bytes.length c', .int .i64 r'.room, .bool r'.dead, .bool r'.breaks, .int .i64 r'.writes, .int .i64 r'.tear])) rfl (by kernel_rfl) (by kernel_rfl) (by kernel_rfl) (fun _ _ _ h => h) (Or.inl ⟨by rfl, by (intro w' hSw; (try dsimp only at hSw); go_simp)⟩) (by assumption) ?_
    try simp only [Act.put, List.setIfInBounds_toArray, List.set_cons_zero, List.set_cons_succ]
    refine wpAnyH_take (i := 8) (oi := ⟨some 31, _, _, _, _, _⟩) (v := (.int .i64 0)) rfl (by kernel_rfl) (by kernel_rfl) (by kernel_rfl) (fun _ _ _ h => h) (Or.inl ⟨by rfl, by (intro w' hSw; (try dsimp only at hSw); go_simp)⟩) (by assumption) ?_
    try simp only [Act.put, List.setIfInBounds_toArray, List.set_cons_zero, List.set_cons_succ]
    refine wpAnyH_ready (rs := [9]) (by kernel_rfl) (by simp) ?_
    refine AllReadyH.cons (o := ⟨some 7, _, _, _, _, _⟩) rfl (fun K hK => ?_) AllReadyH.nil
    rw [if_pos (by rfl)]
    refine wp_alloc_abs 40 (by rfl) (.agg Z6r) (by kernel_rfl) ?_
    intro w8 hb8 hz8 hg7
    have f8 := Fr.of_below hb8 (fun _ => False)
    have hs5 := HS.out w8 (((H3.out.1.trans f3d (fun _ h => h.elim)).trans H4.out.1 (fun _ h => h.elim)).trans f8 (fun _ h => h.elim))
    refine hK.out _ _ hs5 (fun hHeld => ?_)
    try simp only [Act.put, List.setIfInBounds_toArray, List.set_cons_zero, List.set_cons_succ]
    obtain ⟨g7, hgg⟩ : ∃ g, w4.heap.size = g := ⟨_, rfl⟩
    rw [hgg] at hg7
    rw [hgg]
    have FF := Aside0.mk (And.intro (((H3.out.1.trans f3d (fun _ h => h.elim)).trans H4.out.1 (fun _ h => h.elim)).trans f8 (fun _ h => h.elim)) (And.intro ((f3d.trans H4.out.1 (fun _ h => h.elim)).trans f8 (fun _ h => h.elim)) (show w3.heap.size ≤ g7 by have := f3d.size; have := H4.out.1.size; omega)))
    have HLN := Aside0.mk (And.intro (H4.out.2.1.fr f8 (fun _ _ h => h)) (show ∀ k, (Value.slice A' r'.bytes.length c').ownBlock = some k → (Value.slice Av bytes.length cv).ownBlock = some k ∨ (w3.heap.size ≤ k ∧ k < w8.heap.size ∧ k ≠ g7) from fun k hk => (H4.out.2.2 k hk).elim .inl (fun h => .inr ⟨by have := h.1; have := f3d.size; omega, by have := h.2; omega, by have := h.2; omega⟩)))
    clear hs4 H4 f8 hb8 hz8 hgg
    refine wpAnyH_ready (rs := [10]) (by kernel_rfl) (by simp) ?_
    refine AllReadyH.cons (o := ⟨none, _, _, _, _, _⟩) rfl (fun K hK => ?_) AllReadyH.nil
    rw [if_pos (by rfl)]
    refine wp_store_abs 40 _ _ (by rfl) g7 #[.slice A' r'.bytes.length c', .int .i64 r'.room, .bool r'.dead, .bool r'.breaks, .int .i64 r'.writes, .int .i64 r'.tear] (by rfl) (by rfl) 40 Z6r hg7 (by kernel_rfl) (by rfl) (by simp [Value.oneCell']) ?_
    intro w9 hf9 hs9 hg9
    have z7 : w.heap.size + 1 < g7 := by have := FF.out.2.2; have := HN.out.2.1; have := H3.out.1.size; omega
    have hs6 : w9.cell? ⟨w.heap.size, 0, none⟩ = some (.slice Av bytes.length cv) ∧ w9.cell? ⟨w.heap.size, 1, none⟩ = some (.int .i64 room) ∧ w9.cell? ⟨w.heap.size, 2, none⟩ = some (.bool false) ∧ w9.cell? ⟨w.heap.size, 3, none⟩ = some (.bool breaks) ∧ w9.cell? ⟨w.heap.size, 4, none⟩ = some (.int .i64 writes) ∧ w9.cell? ⟨w.heap.size, 5, none⟩ = some (.int .i64 tear) := ⟨hf9.cell hs5.1 (fun e => by simp only at e; omega), hf9.cell hs5.2.1 (fun e => by simp only at e; omega), hf9.cell hs5.2.2.1 (fun e => by simp only at e; omega), hf9.cell hs5.2.2.2.1 (fun e => by simp only at e; omega), hf9.cell hs5.2.2.2.2.1 (fun e => by simp only at e; omega), hf9.cell hs5.2.2.2.2.2 (fun e => by simp only at e; omega)⟩
    refine hK.out _ _ hs6 (fun hHeld => ?_)
    try simp only [Act.put, List.setIfInBounds_toArray, List.set_cons_zero, List.set_cons_succ]
    refine wpAnyH_take (i := 11) (oi := ⟨some 8, _, _, _, _, _⟩) (v := (.int .i64 0)) rfl (by kernel_rfl) (by kernel_rfl) (by kernel_rfl) (fun _ _ _ h => h) (Or.inl ⟨by rfl, by (intro w' hSw; (try dsimp only at hSw); go_simp)⟩) (by assumption) ?_
    try simp only [Act.put, List.setIfInBounds_toArray, List.set_cons_zero, List.set_cons_succ]
    refine wpAnyH_done (by kernel_rfl) ?_ _
    have hgt2 : w9.heap[w.heap.size + 1]? = some (.cells Z6r 40 (0, 0)) := hf9.blk (FF.out.1.blk HN.out.2.2 (fun h => h)) (fun e => by omega)
    have y : w9.cell? ⟨g7, 0, none⟩ = some (.slice A' r'.bytes.length c') ∧ w9.cell? ⟨g7, 1, none⟩ = some (.int .i64 r'.room) ∧ w9.cell? ⟨g7, 2, none⟩ = some (.bool r'.dead) ∧ w9.cell? ⟨g7, 3, none⟩ = some (.bool r'.breaks) ∧ w9.cell? ⟨g7, 4, none⟩ = some (.int .i64 r'.writes) ∧ w9.cell? ⟨g7, 5, none⟩ = some (.int .i64 r'.tear) := by simp [World.cell?, hg9]
    obtain ⟨y0, y1, y2, y3, y4, y5⟩ := y
    clear hHeld hs6 hs5 hs3
    go_wp2_with ((with_reducible refine gate_store (p := 2) rfl ?_); refine Aside0.out ?_)
    refine ⟨?_⟩
    refine wpList_store_abs (by rfl) 40 _ _ (by rfl) (w.heap.size + 1) #[.slice A' r'.bytes.length c', .int .i64 r'.room, .bool r'.dead, .bool r'.breaks, .int .i64 r'.writes, .int .i64 r'.tear] (by rfl) (by rfl) 40 Z6r hgt2 (by kernel_rfl) (by rfl) (by simp [Value.oneCell']) ?_
    intro w10 hf10 hs10 hg10
    clear y0 y1 y2 y3 y4 y5
    go_wp2
    refine bodyPost_ret (results_cell_row_tmps (by rfl) _ _ (w.heap.size + 1) 40 #[.slice A' r'.bytes.length c', .int .i64 r'.room, .bool r'.dead, .bool r'.breaks, .int .i64 r'.writes, .int .i64 r'.tear] (0, 0) _ (by rfl) hg10 Try.underlying40 (by rfl) (by kernel_rfl)) rfl ?_
    have f910 : Fr (fun k => k = g7 ∨ k = w.heap.size + 1) w8 w10 := (hf9.mono (fun k h => .inl h)).trans hf10 (fun k h => .inl (.inr h))
    have F8 := (HN.out.1.trans H3.out.1 (fun _ h => h.elim)).trans FF.out.2.1 (fun _ h => h.elim)
    have z2 := HN.out.2.1
    have z3 := H3.out.1.size
    have z8 := FF.out.2.1.size
    have hfar := HH.out.2.2.2.1
    refine ⟨A3, c3, A', c', rfl, hc3, ?_, ?_, ?_, ?_⟩
    · have f10 : Fr (fun k => k = g7 ∨ k = w.heap.size + 1) w3 w10 := (FF.out.2.1.mono (fun _ h => h.elim)).trans f910 (fun k hk => .inl hk)
      intro w'' hw
      have := Kd.R_step H3.out.2.1 (w1 := w'') (fun k hk hlt => (hw k (by have := hk.2.1; have := H3.out.2.2; omega) (by have := f10.size; omega)).trans (f10.block k hlt (fun e => by have := hk.2.1; have := H3.out.2.2; have := FF.out.2.2; rcases e with e | e <;> omega)))
      exact (Kd.R_reads' this).2.2
    · exact HLN.out.1.fr f910 (fun k hk e => (HLN.out.2 k hk).elim (fun h => by have := hfar k h; omega) (fun h => by have := h.1; have := h.2.2; omega))
    · exact fun k hk => (HLN.out.2 k hk).elim .inl (fun h => .inr ⟨by have := h.1; omega, by have := h.2.1; have := f910.size; omega⟩)
    · exact (F8.trans f910 (fun k hk => .inr (by rcases hk with e | e <;> omega))).below _ (Nat.le_refl _) (fun i h => h.elim)
  · rw [if_pos (by rfl)]
    refine wp_alloc_abs 40 (by rfl) (.agg Z6r) (by kernel_rfl) ?_
    intro w4 hb4 hz4 hg4
    have f4 := f3d.trans (Fr.of_below hb4 (fun _ => False)) (fun _ h => h.elim)
    have hs4 := HS.out w4 (H3.out.1.trans f4 (fun _ h => h.elim))
    refine hK.out _ _ hs4 (fun hHeld => ?_)
    try simp only [Act.put, List.setIfInBounds_toArray, List.set_cons_zero, List.set_cons_succ]
    refine wpAnyH_ready (rs := [5]) (by kernel_rfl) (by simp) ?_
    refine AllReadyH.cons (o := ⟨some 29, _, _, _, _, _⟩) rfl (fun K hK => ?_) AllReadyH.nil
    go_simp
    go_at_call 17
    refine (HB.out _ f4).mono ?_
    rintro e w8 ⟨A', c', rfl, hs5, H8⟩
    refine hK.out _ _ hs5 (fun hHeld => ?_)
    try simp only [Act.put, List.setIfInBounds_toArray, List.set_cons_zero, List.set_cons_succ]
    refine wpAnyH_take (i := 6) (oi := ⟨some 23, _, _, _, _, _⟩) (v := (.tuple #[.agg #[.slice A' r'.bytes.length c', .int .i64 r'.room, .bool r'.dead, .bool r'.breaks, .int .i64 r'.writes, .int .i64 r'.tear], .int .i64 0])) rfl (by kernel_rfl) (by kernel_rfl) (by kernel_rfl) (fun _ _ _ h => h) (Or.inl ⟨by rfl, by (intro w' hSw; (try dsimp only at hSw); go_simp)⟩) (by assumption) ?_
    try simp only [Act.put, List.setIfInBounds_toArray, List.set_cons_zero, List.set_cons_succ]
    refine wpAnyH_take (i := 7) (oi := ⟨some 30, _, _, _, _, _⟩) (v := (.agg #[.slice A' r'.bytes.length c', .int .i64 r'.room, .bool r'.dead, .bool r'.breaks, .int .i64 r'.writes, .int .i64 r'.tear])) rfl (by kernel_rfl) (by kernel_rfl) (by kernel_rfl) (fun _ _ _ h => h) (Or.inl ⟨by rfl, by (intro w' hSw; (try dsimp only at hSw); go_simp)⟩) (by assumption) ?_
    try simp only [Act.put, List.setIfInBounds_toArray, List.set_cons_zero, List.set_cons_succ]
    refine wpAnyH_take (i := 8) (oi := ⟨some 31, _, _, _, _, _⟩) (v := (.int .i64 0)) rfl (by kernel_rfl) (by kernel_rfl) (by kernel_rfl) (fun _ _ _ h => h) (Or.inl ⟨by rfl, by (intro w' hSw; (try dsimp only at hSw); go_simp)⟩) (by assumption) ?_
    try simp only [Act.put, List.setIfInBounds_toArray, List.set_cons_zero, List.set_cons_succ]
    have hg7 := H8.out.1.blk hg4 (fun h => h)
    have hdz : w3.drew.heap.size = w3.heap.size := rfl
    obtain ⟨g7, hgg⟩ : ∃ g, w3.heap.size = g := ⟨_, rfl⟩
    rw [hdz, hgg] at hg7 hz4
    rw [hgg]
    have FF := Aside0.mk (And.intro ((H3.out.1.trans f4 (fun _ h => h.elim)).trans H8.out.1 (fun _ h => h.elim)) (And.intro (f4.trans H8.out.1 (fun _ h => h.elim)) (show w3.heap.size ≤ g7 by have := f3d.size; omega)))
    have HLN := Aside0.mk (And.intro H8.out.2.1 (show ∀ k, (Value.slice A' r'.bytes.length c').ownBlock = some k → (Value.slice Av bytes.length cv).ownBlock = some k ∨ (w3.heap.size ≤ k ∧ k < w8.heap.size ∧ k ≠ g7) from fun k hk => (H8.out.2.2 k hk).elim .inl (fun h => .inr ⟨by have := h.1; have := f4.size; omega, by have := h.2; omega, by have := h.1; omega⟩)))
    clear hs4 H8 f4 hb4 hz4 hg4 hgg
    refine wpAnyH_ready (rs := [10]) (by kernel_rfl) (by simp) ?_
    refine AllReadyH.cons (o := ⟨none, _, _, _, _, _⟩) rfl (fun K hK => ?_) AllReadyH.nil
    rw [if_pos (by rfl)]
    refine wp_store_abs 40 _ _ (by rfl) g7 #[.slice A' r'.bytes.length c', .int .i64 r'.room, .bool r'.dead, .bool r'.breaks, .int .i64 r'.writes, .int .i64 r'.tear] (by rfl) (by rfl) 40 Z6r hg7 (by kernel_rfl) (by rfl) (by simp [Value.oneCell']) ?_
    intro w9 hf9 hs9 hg9
    have z7 : w.heap.size + 1 < g7 := by have := FF.out.2.2; have := HN.out.2.1; have := H3.out.1.size; omega
    have hs6 : w9.cell? ⟨w.heap.size, 0, none⟩ = some (.slice Av bytes.length cv) ∧ w9.cell? ⟨w.heap.size, 1, none⟩ = some (.int .i64 room) ∧ w9.cell? ⟨w.heap.size, 2, none⟩ = some (.bool false) ∧ w9.cell? ⟨w.heap.size, 3, none⟩ = some (.bool breaks) ∧ w9.cell? ⟨w.heap.size, 4, none⟩ = some (.int .i64 writes) ∧ w9.cell? ⟨w.heap.size, 5, none⟩ = some (.int .i64 tear) := ⟨hf9.cell hs5.1 (fun e => by simp only at e; omega), hf9.cell hs5.2.1 (fun e => by simp only at e; omega), hf9.cell hs5.2.2.1 (fun e => by simp only at e; omega), hf9.cell hs5.2.2.2.1 (fun e => by simp only at e; omega), hf9.cell hs5.2.2.2.2.1 (fun e => by simp only at e; omega), hf9.cell hs5.2.2.2.2.2 (fun e => by simp only at e; omega)⟩
    refine hK.out _ _ hs6 (fun hHeld => ?_)
    try simp only [Act.put, List.setIfInBounds_toArray, List.set_cons_zero, List.set_cons_succ]
    refine wpAnyH_take (i := 11) (oi := ⟨some 8, _, _, _, _, _⟩) (v := (.int .i64 0)) rfl (by kernel_rfl) (by kernel_rfl) (by kernel_rfl) (fun _ _ _ h => h) (Or.inl ⟨by rfl, by (intro w' hSw; (try dsimp only at hSw); go_simp)⟩) (by assumption) ?_
    try simp only [Act.put, List.setIfInBounds_toArray, List.set_cons_zero, List.set_cons_succ]
    refine wpAnyH_done (by kernel_rfl) ?_ _
    have hgt2 : w9.heap[w.heap.size + 1]? = some (.cells Z6r 40 (0, 0)) := hf9.blk (FF.out.1.blk HN.out.2.2 (fun h => h)) (fun e => by omega)
    have y : w9.cell? ⟨g7, 0, none⟩ = some (.slice A' r'.bytes.length c') ∧ w9.cell? ⟨g7, 1, none⟩ = some (.int .i64 r'.room) ∧ w9.cell? ⟨g7, 2, none⟩ = some (.bool r'.dead) ∧ w9.cell? ⟨g7, 3, none⟩ = some (.bool r'.breaks) ∧ w9.cell? ⟨g7, 4, none⟩ = some (.int .i64 r'.writes) ∧ w9.cell? ⟨g7, 5, none⟩ = some (.int .i64 r'.tear) := by simp [World.cell?, hg9]
    obtain ⟨y0, y1, y2, y3, y4, y5⟩ := y
    clear hHeld hs6 hs5 hs3
    go_wp2_with ((with_reducible refine gate_store (p := 2) rfl ?_); refine Aside0.out ?_)
    refine ⟨?_⟩
    refine wpList_store_abs (by rfl) 40 _ _ (by rfl) (w.heap.size + 1) #[.slice A' r'.bytes.length c', .int .i64 r'.room, .bool r'.dead, .bool r'.breaks, .int .i64 r'.writes, .int .i64 r'.tear] (by rfl) (by rfl) 40 Z6r hgt2 (by kernel_rfl) (by rfl) (by simp [Value.oneCell']) ?_
    intro w10 hf10 hs10 hg10
    clear y0 y1 y2 y3 y4 y5
    go_wp2
    refine bodyPost_ret (results_cell_row_tmps (by rfl) _ _ (w.heap.size + 1) 40 #[.slice A' r'.bytes.length c', .int .i64 r'.room, .bool r'.dead, .bool r'.breaks, .int .i64 r'.writes, .int .i64 r'.tear] (0, 0) _ (by rfl) hg10 Try.underlying40 (by rfl) (by kernel_rfl)) rfl ?_
    have f910 : Fr (fun k => k = g7 ∨ k = w.heap.size + 1) w8 w10 := (hf9.mono (fun k h => .inl h)).trans hf10 (fun k h => .inl (.inr h))
    have F8 := (HN.out.1.trans H3.out.1 (fun _ h => h.elim)).trans FF.out.2.1 (fun _ h => h.elim)
    have z2 := HN.out.2.1
    have z3 := H3.out.1.size
    have z8 := FF.out.2.1.size
    have hfar := HH.out.2.2.2.1
    refine ⟨A3, c3, A', c', rfl, hc3, ?_, ?_, ?_, ?_⟩
    · have f10 : Fr (fun k => k = g7 ∨ k = w.heap.size + 1) w3 w10 := (FF.out.2.1.mono (fun _ h => h.elim)).trans f910 (fun k hk => .inl hk)
      intro w'' hw
      have := Kd.R_step H3.out.2.1 (w1 := w'') (fun k hk hlt => (hw k (by have := hk.2.1; have := H3.out.2.2; omega) (by have := f10.size; omega)).trans (f10.block k hlt (fun e => by have := hk.2.1; have := H3.out.2.2; have := FF.out.2.2; rcases e with e | e <;> omega)))
      exact (Kd.R_reads' this).2.2
    · exact HLN.out.1.fr f910 (fun k hk e => (HLN.out.2 k hk).elim (fun h => by have := hfar k h; omega) (fun h => by have := h.1; have := h.2.2; omega))
    · exact fun k hk => (HLN.out.2 k hk).elim .inl (fun h => .inr ⟨by have := h.1; omega, by have := h.2.1; have := f910.size; omega⟩)
    · exact (F8.trans f910 (fun k hk => .inr (by rcases hk with e | e <;> omega))).below _ (Nat.le_refl _) (fun i h => h.elim)
set_option maxHeartbeats 8000000 in
set_option maxRecDepth 100000 in
theorem ropen_torn1 (bytes : List Int) (room : Int) (dead breaks : Bool) (writes tear : Int) (Av : Option Addr) (cv : Nat) (w : World) (hrv : Rd w Av bytes) (hcv : bytes.length ≤ cv) (hfar : ∀ k, (Value.slice Av bytes.length cv).ownBlock = some k → k < w.heap.size) (hd : dead = false) (hl : bytes.length ≤ 8388608) (hw : -4611686018427387904 ≤ writes) (hw2 : writes ≤ 9223372036854775807) (rs : List (List Int)) (n : Nat) (hsc : catenaryref12_Scan.f (bytes.length + 32) bytes = some (rs, (n : Int))) (hn : n < bytes.length) (r' : Rdk) (er : Int) (he : Rdk.write ⟨bytes, room, dead, breaks, writes, tear⟩ (bytes.take n) true = (r', er)) (h0 : ¬ er = 0) :
    Calls Try.prog 19 #[.agg #[.slice Av bytes.length cv, .int .i64 room, .bool dead, .bool breaks, .int .i64 writes, .int .i64 tear]] w fun e w' => ∃ A c A' c', e = .returned (.tuple #[.agg #[.slice A' r'.bytes.length c', .int .i64 r'.room, .bool r'.dead, .bool r'.breaks, .int .i64 r'.writes, .int .i64 r'.tear], .slice A ([] : List (List Int)).length c, .int .i64 er]) ∧ ([] : List (List Int)).length ≤ c ∧ St w.heap.size w' A [] ∧ Lies w' (.slice A' r'.bytes.length c') r'.bytes ∧ Near w.heap.size w' (.slice Av bytes.length cv) (.slice A' r'.bytes.length c') ∧ Below w.heap.size w w' := by
  subst hd
  have c2' : decide (er = 0) = false := decide_eq_false h0
  have c3' : (er == 0) = false := by simpa using h0
  have c4' : ¬ er = 0 := h0
  have HH := Aside0.mk (And.intro hrv (And.intro hl (And.intro hsc (And.intro hfar (And.intro hw (And.intro hw2 he))))))
  have c1 : decide ((n : Int) < (bytes.length : Int)) = true := decide_eq_true (by omega)
  clear hrv hl hsc hfar hw hw2 he
  obtain ⟨i0, hi0, _, hsz, _⟩ := info_parts infoB
  go_enter Try.func19, Try.ntmps19
  go_wp2_with (first | ((with_reducible refine gate_dst (N := 2) rfl ?_); refine wpList_alloc_abs (by rfl) 40 (by rfl) (.agg Z6r) (by kernel_rfl) ?_; intro w2 hb2 hs2 hg2; (with_reducible refine Aside0.out ?_)))
  refine ⟨?_⟩
  have hg1 := heap_alloc_new w (.cells #[.slice Av bytes.length cv, .int .i64 room, .bool false, .bool breaks, .int .i64 writes, .int .i64 tear] 40)
  have hb1 := below_alloc (Below.refl w.heap.size w) (.cells #[.slice Av bytes.length cv, .int .i64 room, .bool false, .bool breaks, .int .i64 writes, .int .i64 tear] 40)
  have z1 : (w.alloc (.cells #[.slice Av bytes.length cv, .int .i64 room, .bool false, .bool breaks, .int .i64 writes, .int .i64 tear] 40)).heap.size = w.heap.size + 1 := by rw [World.size_alloc]
  generalize w.alloc (.cells #[.slice Av bytes.length cv, .int .i64 room, .bool false, .bool breaks, .int .i64 writes, .int .i64 tear] 40) = w1 at *
  have f2 := Fr.of_below hb2 (fun _ => False)
  have F2 := (Fr.of_below hb1 (fun _ => False)).trans f2 (fun _ h => h.elim)
  have hg12 := f2.blk hg1 (fun h => h)
  rw [z1] at hg2 hs2
  have hS : ∀ w', Fr (fun _ => False) w2 w' → w'.cell? ⟨w.heap.size, 0, none⟩ = some (.slice Av bytes.length cv) ∧ w'.cell? ⟨w.heap.size, 1, none⟩ = some (.int .i64 room) ∧ w'.cell? ⟨w.heap.size, 2, none⟩ = some (.bool false) ∧ w'.cell? ⟨w.heap.size, 3, none⟩ = some (.bool breaks) ∧ w'.cell? ⟨w.heap.size, 4, none⟩ = some (.int .i64 writes) ∧ w'.cell? ⟨w.heap.size, 5, none⟩ = some (.int .i64 tear) := fun w' hf => by
    have hg := hf.blk hg12 (fun h => h)
    simp [World.cell?, hg]
  obtain ⟨k0, k1, k2, k3, k4, k5⟩ := hS _ (Fr.refl _ _)
  have HS := Aside0.mk hS
  have HN := Aside0.mk (And.intro F2 (And.intro hs2 hg2))
  clear hS hb1 hb2 hg1 hg2 f2 F2 hg12 hs2 z1
  go_wp2_with (fail)
  refine (catenaryref12_Scan.calls (bytes.length + 32) Av cv bytes rs (n : Int) w2 ((HH.out.1.fr HN.out.1 (fun _ _ h => h)).C (by have := HH.out.2.1; omega)) hcv HH.out.2.2.1).mono ?_
  rintro e w3 ⟨v3, rfl, hS3, hb3⟩
  have hR3 := Kd.R_bound (Kd.S_R hS3)
  obtain ⟨A3, c3, rfl, hc3, hC3⟩ := Kd.S_reads hS3
  have f3 := Fr.of_below hb3 (fun _ => False)
  obtain ⟨k0, k1, k2, k3, k4, k5⟩ := HS.out _ f3
  have H3 := Aside0.mk (And.intro f3 (And.intro hR3 (show w.heap.size + 2 = w2.heap.size by have := HN.out.2.1; omega)))
  clear hS3 hb3 hC3 f3 hR3
  have hcut := cut_to (P := Try.prog) 22 5 .i64 Try.underlying22 hi0 Av bytes.length cv (n : Int) (by omega) (by omega) hcv
  rw [Int.toNat_natCast] at hcut
  have hs3 : w3.cell? ⟨w.heap.size, 0, none⟩ = some (.slice Av bytes.length cv) ∧ w3.cell? ⟨w.heap.size, 1, none⟩ = some (.int .i64 room) ∧ w3.cell? ⟨w.heap.size, 2, none⟩ = some (.bool false) ∧ w3.cell? ⟨w.heap.size, 3, none⟩ = some (.bool breaks) ∧ w3.cell? ⟨w.heap.size, 4, none⟩ = some (.int .i64 writes) ∧ w3.cell? ⟨w.heap.size, 5, none⟩ = some (.int .i64 tear) := ⟨k0, k1, k2, k3, k4, k5⟩
  have HB : ∀ w4, Fr (fun _ => False) w3 w4 → Calls Try.prog 17 #[.agg #[.slice Av bytes.length cv, .int .i64 room, .bool false, .bool breaks, .int .i64 writes, .int .i64 tear], .slice Av n cv, .bool true] w4 fun e w5 => ∃ (A' : Option Addr) (c' : Nat), e = .returned (.tuple #[.agg #[.slice A' r'.bytes.length c', .int .i64 r'.room, .bool r'.dead, .bool r'.breaks, .int .i64 r'.writes, .int .i64 r'.tear], .int .i64 er]) ∧ (w5.cell? ⟨w.heap.size, 0, none⟩ = some (.slice Av bytes.length cv) ∧ w5.cell? ⟨w.heap.size, 1, none⟩ = some (.int .i64 room) ∧ w5.cell? ⟨w.heap.size, 2, none⟩ = some (.bool false) ∧ w5.cell? ⟨w.heap.size, 3, none⟩ = some (.bool breaks) ∧ w5.cell? ⟨w.heap.size, 4, none⟩ = some (.int .i64 writes) ∧ w5.cell? ⟨w.heap.size, 5, none⟩ = some (.int .i64 tear)) ∧ Aside0 (Fr (fun _ => False) w4 w5 ∧ Lies w5 (.slice A' r'.bytes.length c') r'.bytes ∧ Near w4.heap.size w5 (.slice Av bytes.length cv) (.slice A' r'.bytes.length c')) := by
    intro w4 hf4
    have F3 := HN.out.1.trans H3.out.1 (fun _ h => h.elim)
    have F := F3.trans hf4 (fun _ h => h.elim)
    have hln : (bytes.take n).length = n := by rw [List.length_take]; omega
    have hwr := rwrite_all ⟨bytes, room, false, breaks, writes, tear⟩ (.slice Av bytes.length cv) Av cv (bytes.take n) w4 ⟨Av, cv, rfl, hcv, HH.out.1.fr F (fun _ _ h => h)⟩ ((HH.out.1.fr F (fun _ _ h => h)).take n) (by rw [hln]; omega) (by rw [hln]; have := HH.out.2.1; simp only; omega) HH.out.2.2.2.2.1 HH.out.2.2.2.2.2.1
    rw [hln, HH.out.2.2.2.2.2.2] at hwr
    refine hwr.mono ?_
    rintro e w5 ⟨v', rfl, hL, hN, hb⟩
    obtain ⟨A', c', rfl, hc', hr'⟩ := hL
    have f5 := Fr.of_below hb (fun _ => False)
    exact ⟨A', c', rfl, HS.out _ ((H3.out.1.trans hf4 (fun _ h => h.elim)).trans f5 (fun _ h => h.elim)), ⟨f5, ⟨A', c', rfl, hc', hr'⟩, hN⟩⟩
  have HB := Aside0.mk HB
  clear k1 k2 k3 k4 k5
  go_wp2_with (fail)
  clear k0
  refine wp_region_held_drew (S := (fun w' => w'.cell? ⟨w.heap.size, 0, none⟩ = some (.slice Av bytes.length cv) ∧ w'.cell? ⟨w.heap.size, 1, none⟩ = some (.int .i64 room) ∧ w'.cell? ⟨w.heap.size, 2, none⟩ = some (.bool false) ∧ w'.cell? ⟨w.heap.size, 3, none⟩ = some (.bool breaks) ∧ w'.cell? ⟨w.heap.size, 4, none⟩ = some (.int .i64 writes) ∧ w'.cell? ⟨w.heap.size, 5, none⟩ = some (.int .i64 tear))) (by kernel_rfl) hs3 (fun hHeld => ?_)
  refine wpAnyH_take (i := 0) (oi := ⟨some 24, _, _, _, _, _⟩) (v := (.agg #[.slice Av bytes.length cv, .int .i64 room, .bool false, .bool breaks, .int .i64 writes, .int .i64 tear])) rfl (by kernel_rfl) (by kernel_rfl) (by kernel_rfl) (fun _ _ _ h => h) (Or.inl ⟨by rfl, by (intro w' hSw; (try dsimp only at hSw); go_simp)⟩) (by assumption) ?_
  try simp only [Act.put, List.setIfInBounds_toArray, List.set_cons_zero, List.set_cons_succ]
  refine wpAnyH_take (i := 1) (oi := ⟨some 25, _, _, _, _, _⟩) (v := (.pointer (some ⟨w.heap.size, 0, none⟩))) rfl (by kernel_rfl) (by kernel_rfl) (by kernel_rfl) (fun _ _ _ h => h) (Or.inl ⟨by rfl, by (intro w' hSw; (try dsimp only at hSw); go_simp)⟩) (by assumption) ?_
  try simp only [Act.put, List.setIfInBounds_toArray, List.set_cons_zero, List.set_cons_succ]
  refine wpAnyH_take (i := 2) (oi := ⟨some 26, _, _, _, _, _⟩) (v := (.slice Av bytes.length cv)) rfl (by kernel_rfl) (by kernel_rfl) (by kernel_rfl) (fun _ _ _ h => h) (Or.inl ⟨by rfl, by (intro w' hSw; (try dsimp only at hSw); go_simp)⟩) (by assumption) ?_
  try simp only [Act.put, List.setIfInBounds_toArray, List.set_cons_zero, List.set_cons_succ]
  refine wpAnyH_take (i := 3) (oi := ⟨some 27, _, _, _, _, _⟩) (v := (.int .i64 (n : Int))) rfl (by kernel_rfl) (by kernel_rfl) (by kernel_rfl) (fun _ _ _ h => h) (Or.inl ⟨by rfl, by (intro w' hSw; (try dsimp only at hSw); go_simp)⟩) (by assumption) ?_
  try simp only [Act.put, List.setIfInBounds_toArray, List.set_cons_zero, List.set_cons_succ]
  refine wpAnyH_take (i := 4) (oi := ⟨some 28, _, _, _, _, _⟩) (v := (.slice Av n cv)) rfl (by kernel_rfl) (by kernel_rfl) (by kernel_rfl) (fun _ _ _ h => h) (Or.inl ⟨by rfl, by (intro w' hSw; (try dsimp only at hSw); go_simp)⟩) (by assumption) ?_
  try simp only [Act.put, List.setIfInBounds_toArray, List.set_cons_zero, List.set_cons_succ]
  have f3d : Fr (fun _ => False) w3 w3.drew := (Fr.refl _ _).of_drew
  refine wpAnyH_ready (rs := [5, 9]) (by kernel_rfl) (by simp) ?_
  refine AllReadyH.cons (o := ⟨some 29, _, _, _, _, _⟩) rfl (fun K hK => ?_) (AllReadyH.cons (o := ⟨some 7, _, _, _, _, _⟩) rfl (fun K hK => ?_) AllReadyH.nil)
  · go_simp
    go_at_call 17
    refine (HB.out _ f3d).mono ?_
    rintro e w4 ⟨A', c', rfl, hs4, H4⟩
    refine hK.out _ _ hs4 (fun hHeld => ?_)
    try simp only [Act.put, List.setIfInBounds_toArray, List.set_cons_zero, List.set_cons_succ]
    refine wpAnyH_take (i := 6) (oi := ⟨some 23, _, _, _, _, _⟩) (v := (.tuple #[.agg #[.slice A' r'.bytes.length c', .int .i64 r'.room, .bool r'.dead, .bool r'.breaks, .int .i64 r'.writes, .int .i64 r'.tear], .int .i64 er])) rfl (by kernel_rfl) (by kernel_rfl) (by kernel_rfl) (fun _ _ _ h => h) (Or.inl ⟨by rfl, by (intro w' hSw; (try dsimp only at hSw); go_simp)⟩) (by assumption) ?_
    try simp only [Act.put, List.setIfInBounds_toArray, List.set_cons_zero, List.set_cons_succ]
    refine wpAnyH_take (i := 7) (oi := ⟨some 30, _, _, _, _, _⟩) (v := (.agg #[.slice A' r'.bytes.length c', .int .i64 r'.room, .bool r'.dead, .bool r'.breaks, .int .i64 r'.writes, .int .i64 r'.tear])) rfl (by kernel_rfl) (by kernel_rfl) (by kernel_rfl) (fun _ _ _ h => h) (Or.inl ⟨by rfl, by (intro w' hSw; (try dsimp only at hSw); go_simp)⟩) (by assumption) ?_
    try simp only [Act.put, List.setIfInBounds_toArray, List.set_cons_zero, List.set_cons_succ]
    refine wpAnyH_take (i := 8) (oi := ⟨some 31, _, _, _, _, _⟩) (v := (.int .i64 er)) rfl (by kernel_rfl) (by kernel_rfl) (by kernel_rfl) (fun _ _ _ h => h) (Or.inl ⟨by rfl, by (intro w' hSw; (try dsimp only at hSw); go_simp)⟩) (by assumption) ?_
    try simp only [Act.put, List.setIfInBounds_toArray, List.set_cons_zero, List.set_cons_succ]
    refine wpAnyH_ready (rs := [9]) (by kernel_rfl) (by simp) ?_
    refine AllReadyH.cons (o := ⟨some 7, _, _, _, _, _⟩) rfl (fun K hK => ?_) AllReadyH.nil
    rw [if_pos (by rfl)]
    refine wp_alloc_abs 40 (by rfl) (.agg Z6r) (by kernel_rfl) ?_
    intro w8 hb8 hz8 hg7
    have f8 := Fr.of_below hb8 (fun _ => False)
    have hs5 := HS.out w8 (((H3.out.1.trans f3d (fun _ h => h.elim)).trans H4.out.1 (fun _ h => h.elim)).trans f8 (fun _ h => h.elim))
    refine hK.out _ _ hs5 (fun hHeld => ?_)
    try simp only [Act.put, List.setIfInBounds_toArray, List.set_cons_zero, List.set_cons_succ]
    obtain ⟨g7, hgg⟩ : ∃ g, w4.heap.size = g := ⟨_, rfl⟩
    rw [hgg] at hg7
    rw [hgg]
    have FF := Aside0.mk (And.intro (((H3.out.1.trans f3d (fun _ h => h.elim)).trans H4.out.1 (fun _ h => h.elim)).trans f8 (fun _ h => h.elim)) (And.intro ((f3d.trans H4.out.1 (fun _ h => h.elim)).trans f8 (fun _ h => h.elim)) (show w3.heap.size ≤ g7 by have := f3d.size; have := H4.out.1.size; omega)))
    have HLN := Aside0.mk (And.intro (H4.out.2.1.fr f8 (fun _ _ h => h)) (show ∀ k, (Value.slice A' r'.bytes.length c').ownBlock = some k → (Value.slice Av bytes.length cv).ownBlock = some k ∨ (w3.heap.size ≤ k ∧ k < w8.heap.size ∧ k ≠ g7) from fun k hk => (H4.out.2.2 k hk).elim .inl (fun h => .inr ⟨by have := h.1; have := f3d.size; omega, by have := h.2; omega, by have := h.2; omega⟩)))
    clear hs4 H4 f8 hb8 hz8 hgg
    refine wpAnyH_ready (rs := [10]) (by kernel_rfl) (by simp) ?_
    refine AllReadyH.cons (o := ⟨none, _, _, _, _, _⟩) rfl (fun K hK => ?_) AllReadyH.nil
    rw [if_pos (by rfl)]
    refine wp_store_abs 40 _ _ (by rfl) g7 #[.slice A' r'.bytes.length c', .int .i64 r'.room, .bool r'.dead, .bool r'.breaks, .int .i64 r'.writes, .int .i64 r'.tear] (by rfl) (by rfl) 40 Z6r hg7 (by kernel_rfl) (by rfl) (by simp [Value.oneCell']) ?_
    intro w9 hf9 hs9 hg9
    have z7 : w.heap.size + 1 < g7 := by have := FF.out.2.2; have := HN.out.2.1; have := H3.out.1.size; omega
    have hs6 : w9.cell? ⟨w.heap.size, 0, none⟩ = some (.slice Av bytes.length cv) ∧ w9.cell? ⟨w.heap.size, 1, none⟩ = some (.int .i64 room) ∧ w9.cell? ⟨w.heap.size, 2, none⟩ = some (.bool false) ∧ w9.cell? ⟨w.heap.size, 3, none⟩ = some (.bool breaks) ∧ w9.cell? ⟨w.heap.size, 4, none⟩ = some (.int .i64 writes) ∧ w9.cell? ⟨w.heap.size, 5, none⟩ = some (.int .i64 tear) := ⟨hf9.cell hs5.1 (fun e => by simp only at e; omega), hf9.cell hs5.2.1 (fun e => by simp only at e; omega), hf9.cell hs5.2.2.1 (fun e => by simp only at e; omega), hf9.cell hs5.2.2.2.1 (fun e => by simp only at e; omega), hf9.cell hs5.2.2.2.2.1 (fun e => by simp only at e; omega), hf9.cell hs5.2.2.2.2.2 (fun e => by simp only at e; omega)⟩
    refine hK.out _ _ hs6 (fun hHeld => ?_)
    try simp only [Act.put, List.setIfInBounds_toArray, List.set_cons_zero, List.set_cons_succ]
    refine wpAnyH_take (i := 11) (oi := ⟨some 8, _, _, _, _, _⟩) (v := (.int .i64 er)) rfl (by kernel_rfl) (by kernel_rfl) (by kernel_rfl) (fun _ _ _ h => h) (Or.inl ⟨by rfl, by (intro w' hSw; (try dsimp only at hSw); go_simp)⟩) (by assumption) ?_
    try simp only [Act.put, List.setIfInBounds_toArray, List.set_cons_zero, List.set_cons_succ]
    refine wpAnyH_done (by kernel_rfl) ?_ _
    have hgt2 : w9.heap[w.heap.size + 1]? = some (.cells Z6r 40 (0, 0)) := hf9.blk (FF.out.1.blk HN.out.2.2 (fun h => h)) (fun e => by omega)
    have y : w9.cell? ⟨g7, 0, none⟩ = some (.slice A' r'.bytes.length c') ∧ w9.cell? ⟨g7, 1, none⟩ = some (.int .i64 r'.room) ∧ w9.cell? ⟨g7, 2, none⟩ = some (.bool r'.dead) ∧ w9.cell? ⟨g7, 3, none⟩ = some (.bool r'.breaks) ∧ w9.cell? ⟨g7, 4, none⟩ = some (.int .i64 r'.writes) ∧ w9.cell? ⟨g7, 5, none⟩ = some (.int .i64 r'.tear) := by simp [World.cell?, hg9]
    obtain ⟨y0, y1, y2, y3, y4, y5⟩ := y
    clear hHeld hs6 hs5 hs3
    go_wp2_with ((with_reducible refine gate_store (p := 2) rfl ?_); refine Aside0.out ?_)
    refine ⟨?_⟩
    refine wpList_store_abs (by rfl) 40 _ _ (by rfl) (w.heap.size + 1) #[.slice A' r'.bytes.length c', .int .i64 r'.room, .bool r'.dead, .bool r'.breaks, .int .i64 r'.writes, .int .i64 r'.tear] (by rfl) (by rfl) 40 Z6r hgt2 (by kernel_rfl) (by rfl) (by simp [Value.oneCell']) ?_
    intro w10 hf10 hs10 hg10
    clear y0 y1 y2 y3 y4 y5
    go_wp2
    refine bodyPost_ret (results_cell_row_tmps (by rfl) _ _ (w.heap.size + 1) 40 #[.slice A' r'.bytes.length c', .int .i64 r'.room, .bool r'.dead, .bool r'.breaks, .int .i64 r'.writes, .int .i64 r'.tear] (0, 0) _ (by rfl) hg10 Try.underlying40 (by rfl) (by kernel_rfl)) rfl ?_
    have f910 : Fr (fun k => k = g7 ∨ k = w.heap.size + 1) w8 w10 := (hf9.mono (fun k h => .inl h)).trans hf10 (fun k h => .inl (.inr h))
    have F8 := (HN.out.1.trans H3.out.1 (fun _ h => h.elim)).trans FF.out.2.1 (fun _ h => h.elim)
    have z2 := HN.out.2.1
    have z3 := H3.out.1.size
    have z8 := FF.out.2.1.size
    have hfar := HH.out.2.2.2.1
    refine ⟨none, 0, A', c', rfl, Nat.le_refl _, (fun _ _ => CC.none0 _), ?_, ?_, ?_⟩
    · exact HLN.out.1.fr f910 (fun k hk e => (HLN.out.2 k hk).elim (fun h => by have := hfar k h; omega) (fun h => by have := h.1; have := h.2.2; omega))
    · exact fun k hk => (HLN.out.2 k hk).elim .inl (fun h => .inr ⟨by have := h.1; omega, by have := h.2.1; have := f910.size; omega⟩)
    · exact (F8.trans f910 (fun k hk => .inr (by rcases hk with e | e <;> omega))).below _ (Nat.le_refl _) (fun i h => h.elim)
  · rw [if_pos (by rfl)]
    refine wp_alloc_abs 40 (by rfl) (.agg Z6r) (by kernel_rfl) ?_
    intro w4 hb4 hz4 hg4
    have f4 := f3d.trans (Fr.of_below hb4 (fun _ => False)) (fun _ h => h.elim)
    have hs4 := HS.out w4 (H3.out.1.trans f4 (fun _ h => h.elim))
    refine hK.out _ _ hs4 (fun hHeld => ?_)
    try simp only [Act.put, List.setIfInBounds_toArray, List.set_cons_zero, List.set_cons_succ]
    refine wpAnyH_ready (rs := [5]) (by kernel_rfl) (by simp) ?_
    refine AllReadyH.cons (o := ⟨some 29, _, _, _, _, _⟩) rfl (fun K hK => ?_) AllReadyH.nil
    go_simp
    go_at_call 17
    refine (HB.out _ f4).mono ?_
    rintro e w8 ⟨A', c', rfl, hs5, H8⟩
    refine hK.out _ _ hs5 (fun hHeld => ?_)
    try simp only [Act.put, List.setIfInBounds_toArray, List.set_cons_zero, List.set_cons_succ]
    refine wpAnyH_take (i := 6) (oi := ⟨some 23, _, _, _, _, _⟩) (v := (.tuple #[.agg #[.slice A' r'.bytes.length c', .int .i64 r'.room, .bool r'.dead, .bool r'.breaks, .int .i64 r'.writes, .int .i64 r'.tear], .int .i64 er])) rfl (by kernel_rfl) (by kernel_rfl) (by kernel_rfl) (fun _ _ _ h => h) (Or.inl ⟨by rfl, by (intro w' hSw; (try dsimp only at hSw); go_simp)⟩) (by assumption) ?_
    try simp only [Act.put, List.setIfInBounds_toArray, List.set_cons_zero, List.set_cons_succ]
    refine wpAnyH_take (i := 7) (oi := ⟨some 30, _, _, _, _, _⟩) (v := (.agg #[.slice A' r'.bytes.length c', .int .i64 r'.room, .bool r'.dead, .bool r'.breaks, .int .i64 r'.writes, .int .i64 r'.tear])) rfl (by kernel_rfl) (by kernel_rfl) (by kernel_rfl) (fun _ _ _ h => h) (Or.inl ⟨by rfl, by (intro w' hSw; (try dsimp only at hSw); go_simp)⟩) (by assumption) ?_
    try simp only [Act.put, List.setIfInBounds_toArray, List.set_cons_zero, List.set_cons_succ]
    refine wpAnyH_take (i := 8) (oi := ⟨some 31, _, _, _, _, _⟩) (v := (.int .i64 er)) rfl (by kernel_rfl) (by kernel_rfl) (by kernel_rfl) (fun _ _ _ h => h) (Or.inl ⟨by rfl, by (intro w' hSw; (try dsimp only at hSw); go_simp)⟩) (by assumption) ?_
    try simp only [Act.put, List.setIfInBounds_toArray, List.set_cons_zero, List.set_cons_succ]
    have hg7 := H8.out.1.blk hg4 (fun h => h)
    have hdz : w3.drew.heap.size = w3.heap.size := rfl
    obtain ⟨g7, hgg⟩ : ∃ g, w3.heap.size = g := ⟨_, rfl⟩
    rw [hdz, hgg] at hg7 hz4
    rw [hgg]
    have FF := Aside0.mk (And.intro ((H3.out.1.trans f4 (fun _ h => h.elim)).trans H8.out.1 (fun _ h => h.elim)) (And.intro (f4.trans H8.out.1 (fun _ h => h.elim)) (show w3.heap.size ≤ g7 by have := f3d.size; omega)))
    have HLN := Aside0.mk (And.intro H8.out.2.1 (show ∀ k, (Value.slice A' r'.bytes.length c').ownBlock = some k → (Value.slice Av bytes.length cv).ownBlock = some k ∨ (w3.heap.size ≤ k ∧ k < w8.heap.size ∧ k ≠ g7) from fun k hk => (H8.out.2.2 k hk).elim .inl (fun h => .inr ⟨by have := h.1; have := f4.size; omega, by have := h.2; omega, by have := h.1; omega⟩)))
    clear hs4 H8 f4 hb4 hz4 hg4 hgg
    refine wpAnyH_ready (rs := [10]) (by kernel_rfl) (by simp) ?_
    refine AllReadyH.cons (o := ⟨none, _, _, _, _, _⟩) rfl (fun K hK => ?_) AllReadyH.nil
    rw [if_pos (by rfl)]
    refine wp_store_abs 40 _ _ (by rfl) g7 #[.slice A' r'.bytes.length c', .int .i64 r'.room, .bool r'.dead, .bool r'.breaks, .int .i64 r'.writes, .int .i64 r'.tear] (by rfl) (by rfl) 40 Z6r hg7 (by kernel_rfl) (by rfl) (by simp [Value.oneCell']) ?_
    intro w9 hf9 hs9 hg9
    have z7 : w.heap.size + 1 < g7 := by have := FF.out.2.2; have := HN.out.2.1; have := H3.out.1.size; omega
    have hs6 : w9.cell? ⟨w.heap.size, 0, none⟩ = some (.slice Av bytes.length cv) ∧ w9.cell? ⟨w.heap.size, 1, none⟩ = some (.int .i64 room) ∧ w9.cell? ⟨w.heap.size, 2, none⟩ = some (.bool false) ∧ w9.cell? ⟨w.heap.size, 3, none⟩ = some (.bool breaks) ∧ w9.cell? ⟨w.heap.size, 4, none⟩ = some (.int .i64 writes) ∧ w9.cell? ⟨w.heap.size, 5, none⟩ = some (.int .i64 tear) := ⟨hf9.cell hs5.1 (fun e => by simp only at e; omega), hf9.cell hs5.2.1 (fun e => by simp only at e; omega), hf9.cell hs5.2.2.1 (fun e => by simp only at e; omega), hf9.cell hs5.2.2.2.1 (fun e => by simp only at e; omega), hf9.cell hs5.2.2.2.2.1 (fun e => by simp only at e; omega), hf9.cell hs5.2.2.2.2.2 (fun e => by simp only at e; omega)⟩
    refine hK.out _ _ hs6 (fun hHeld => ?_)
    try simp only [Act.put, List.setIfInBounds_toArray, List.set_cons_zero, List.set_cons_succ]
    refine wpAnyH_take (i := 11) (oi := ⟨some 8, _, _, _, _, _⟩) (v := (.int .i64 er)) rfl (by kernel_rfl) (by kernel_rfl) (by kernel_rfl) (fun _ _ _ h => h) (Or.inl ⟨by rfl, by (intro w' hSw; (try dsimp only at hSw); go_simp)⟩) (by assumption) ?_
    try simp only [Act.put, List.setIfInBounds_toArray, List.set_cons_zero, List.set_cons_succ]
    refine wpAnyH_done (by kernel_rfl) ?_ _
    have hgt2 : w9.heap[w.heap.size + 1]? = some (.cells Z6r 40 (0, 0)) := hf9.blk (FF.out.1.blk HN.out.2.2 (fun h => h)) (fun e => by omega)
    have y : w9.cell? ⟨g7, 0, none⟩ = some (.slice A' r'.bytes.length c') ∧ w9.cell? ⟨g7, 1, none⟩ = some (.int .i64 r'.room) ∧ w9.cell? ⟨g7, 2, none⟩ = some (.bool r'.dead) ∧ w9.cell? ⟨g7, 3, none⟩ = some (.bool r'.breaks) ∧ w9.cell? ⟨g7, 4, none⟩ = some (.int .i64 r'.writes) ∧ w9.cell? ⟨g7, 5, none⟩ = some (.int .i64 r'.tear) := by simp [World.cell?, hg9]
    obtain ⟨y0, y1, y2, y3, y4, y5⟩ := y
    clear hHeld hs6 hs5 hs3
    go_wp2_with ((with_reducible refine gate_store (p := 2) rfl ?_); refine Aside0.out ?_)
    refine ⟨?_⟩
    refine wpList_store_abs (by rfl) 40 _ _ (by rfl) (w.heap.size + 1) #[.slice A' r'.bytes.length c', .int .i64 r'.room, .bool r'.dead, .bool r'.breaks, .int .i64 r'.writes, .int .i64 r'.tear] (by rfl) (by rfl) 40 Z6r hgt2 (by kernel_rfl) (by rfl) (by simp [Value.oneCell']) ?_
    intro w10 hf10 hs10 hg10
    clear y0 y1 y2 y3 y4 y5
    go_wp2
    refine bodyPost_ret (results_cell_row_tmps (by rfl) _ _ (w.heap.size + 1) 40 #[.slice A' r'.bytes.length c', .int .i64 r'.room, .bool r'.dead, .bool r'.breaks, .int .i64 r'.writes, .int .i64 r'.tear] (0, 0) _ (by rfl) hg10 Try.underlying40 (by rfl) (by kernel_rfl)) rfl ?_
    have f910 : Fr (fun k => k = g7 ∨ k = w.heap.size + 1) w8 w10 := (hf9.mono (fun k h => .inl h)).trans hf10 (fun k h => .inl (.inr h))
    have F8 := (HN.out.1.trans H3.out.1 (fun _ h => h.elim)).trans FF.out.2.1 (fun _ h => h.elim)
    have z2 := HN.out.2.1
    have z3 := H3.out.1.size
    have z8 := FF.out.2.1.size
    have hfar := HH.out.2.2.2.1
    refine ⟨none, 0, A', c', rfl, Nat.le_refl _, (fun _ _ => CC.none0 _), ?_, ?_, ?_⟩
    · exact HLN.out.1.fr f910 (fun k hk e => (HLN.out.2 k hk).elim (fun h => by have := hfar k h; omega) (fun h => by have := h.1; have := h.2.2; omega))
    · exact fun k hk => (HLN.out.2 k hk).elim .inl (fun h => .inr ⟨by have := h.1; omega, by have := h.2.1; have := f910.size; omega⟩)
    · exact (F8.trans f910 (fun k hk => .inr (by rcases hk with e | e <;> omega))).below _ (Nat.le_refl _) (fun i h => h.elim)
end Go.Proofs.Ytkkgjbafncmohaa.Sha
