/-
  A disk: its block, what is done with it.
-/
import Derived.Test.YtkkgjbafncmohaaRow
import Derived.Test.YtkkgjbafncmohaaQx1
set_option linter.unusedVariables false
set_option linter.unusedSimpArgs false
namespace Go.Proofs.Ytkkgjbafncmohaa.Sha
open Go.RowKit Go.Proofs.YtkkgjbafncmohaaW.PrintWords Go.Proofs.YtkkgjbafncmohaaW.PrintLast Go.Proofs.YtkkgjbafncmohaaW.PrintMore Go.Proofs.Ytkkgjbafncmohaa.Q Go.Proofs.Ytkkgjbafncmohaa.Fr Go.Proofs.Ytkkgjbafncmohaa.Oct

structure Dsk where
  bytes : List Int
  room : Int
  dead : Bool
  set : Bool
  writes : Int
  tear : Int
/-- May a write be done that leaves so many bytes: does it break the disk, the error's number, the disk. -/
def Dsk.wr (d : Dsk) (size : Int) : Bool × Int × Dsk :=
  if d.dead = true then (false, 115, d)
  else if d.room < size then (false, 113, d)
  else if d.set = true ∧ d.writes = 0 then (true, 115, { d with dead := true })
  else (false, 0, { d with writes := d.writes - 1 })
/-- How much of n bytes stays. -/
def clampN (t : Int) (n : Nat) : Nat := (max 0 (min t (n : Int))).toNat
def Dsk.app (d : Dsk) (b : List Int) : Int × Dsk :=
  if (d.wr ((d.bytes.length : Int) + (b.length : Int))).1 = true then ((d.wr ((d.bytes.length : Int) + (b.length : Int))).2.1, { (d.wr ((d.bytes.length : Int) + (b.length : Int))).2.2 with bytes := d.bytes ++ b.take (clampN d.tear b.length) })
  else if (d.wr ((d.bytes.length : Int) + (b.length : Int))).2.1 = 0 then (0, { (d.wr ((d.bytes.length : Int) + (b.length : Int))).2.2 with bytes := d.bytes ++ b })
  else ((d.wr ((d.bytes.length : Int) + (b.length : Int))).2.1, (d.wr ((d.bytes.length : Int) + (b.length : Int))).2.2)
def Dsk.rep (d : Dsk) (b : List Int) : Int × Dsk :=
  if (d.wr (b.length : Int)).2.1 = 0 then (0, { (d.wr (b.length : Int)).2.2 with bytes := b }) else ((d.wr (b.length : Int)).2.1, (d.wr (b.length : Int)).2.2)
def Dsk.brk (d : Dsk) (n tear : Int) : Dsk := { d with set := true, writes := max 0 n, tear := tear }
def Dsk.mend (d : Dsk) : Dsk := { d with set := false, writes := 0, tear := 0, dead := false }
def roomI (n : Int) : Int := max 0 (min n 4194304)
def Dsk.rm (d : Dsk) (n : Int) : Dsk := { d with room := roomI n }
def dsk0 (n : Int) : Dsk := ⟨[], roomI n, false, false, 0, 0⟩

/-- A disk's block, and its bytes'. -/
structure DiskAt (w : World) (base g : Nat) (bv : Value) (d : Dsk) : Prop where
  heap : w.heap[g]? = some (.cells #[.bool d.set, .int .i64 d.writes, .int .i64 d.tear, bv, .int .i64 d.room, .bool d.dead] 67 (0, 0))
  row : OB w base bv d.bytes
  ge : base ≤ g
  ne : bv.ownBlock ≠ some g
  rm : 0 ≤ d.room ∧ d.room ≤ 4194304
  ln : d.bytes.length ≤ 4194304
/-- The blocks of a disk. -/
def Fp (g : Nat) (rv : Value) (k : Nat) : Prop := k = g ∨ some k = rv.ownBlock
theorem DiskAt.cells {w : World} {base g : Nat} {bv : Value} {d : Dsk} (h : DiskAt w base g bv d) : w.cell? ⟨g, 0, none⟩ = some (.bool d.set) ∧ w.cell? ⟨g, 1, none⟩ = some (.int .i64 d.writes) ∧ w.cell? ⟨g, 2, none⟩ = some (.int .i64 d.tear) ∧ w.cell? ⟨g, 3, none⟩ = some bv ∧ w.cell? ⟨g, 4, none⟩ = some (.int .i64 d.room) ∧ w.cell? ⟨g, 5, none⟩ = some (.bool d.dead) := by
  simp [World.cell?, h.heap]
theorem DiskAt.fr {w w' : World} {base g : Nat} {bv : Value} {d : Dsk} {F : Nat → Prop} (h : DiskAt w base g bv d) (hf : Fr F w w') (hd : ∀ k, Fp g bv k → ¬ F k) : DiskAt w' base g bv d :=
  ⟨hf.blk h.heap (hd g (.inl rfl)), h.row.fr hf (fun k hk => hd k (.inr hk.symm)), h.ge, h.ne, h.rm, h.ln⟩
theorem DiskAt.lt {w : World} {base g : Nat} {bv : Value} {d : Dsk} (h : DiskAt w base g bv d) : ∀ k, Fp g bv k → k < w.heap.size := fun k hk => by
  rcases hk with rfl | hk
  · exact blk_lt h.heap
  · exact q_lt (q_of_own h.row) k hk.symm
theorem DiskAt.base {w : World} {base g : Nat} {bv : Value} {d : Dsk} (h : DiskAt w base g bv d) : ∀ k, Fp g bv k → base ≤ k := fun k hk => by
  rcases hk with rfl | hk
  · exact h.ge
  · exact h.row.base k hk.symm
/-- What is new lies apart from what was there. -/
theorem Fp.new {g : Nat} {rv rv' : Value} {N : Nat} (h : rv'.ownBlock = rv.ownBlock ∨ ∃ b, rv'.ownBlock = some b ∧ N ≤ b) : ∀ k, Fp g rv' k → Fp g rv k ∨ N ≤ k := fun k hk => by
  rcases hk with rfl | hk
  · exact .inl (.inl rfl)
  · rcases h with h | ⟨b, hb, hn⟩
    · exact .inl (.inr (by rw [← h]; exact hk))
    · rw [hb] at hk
      injection hk with hk
      exact .inr (by omega)
theorem Fr.one (w : World) (g i : Nat) (v : Value) : Fr (fun k => k = g) w (w.setCell ⟨g, i, none⟩ v) := (Fr.refl (fun k => k = g) w).setCell (.inl rfl) _
/-- One of the block's cells is written. -/
theorem set6 {w : World} {g : Nat} {c0 c1 c2 c3 c4 c5 : Value} {t : TypeId} (h : w.heap[g]? = some (.cells #[c0, c1, c2, c3, c4, c5] t (0, 0))) (v : Value) :
    (w.setCell ⟨g, 0, none⟩ v).heap[g]? = some (.cells #[v, c1, c2, c3, c4, c5] t (0, 0)) ∧ (w.setCell ⟨g, 1, none⟩ v).heap[g]? = some (.cells #[c0, v, c2, c3, c4, c5] t (0, 0)) ∧ (w.setCell ⟨g, 2, none⟩ v).heap[g]? = some (.cells #[c0, c1, v, c3, c4, c5] t (0, 0)) ∧
    (w.setCell ⟨g, 3, none⟩ v).heap[g]? = some (.cells #[c0, c1, c2, v, c4, c5] t (0, 0)) ∧ (w.setCell ⟨g, 4, none⟩ v).heap[g]? = some (.cells #[c0, c1, c2, c3, v, c5] t (0, 0)) ∧ (w.setCell ⟨g, 5, none⟩ v).heap[g]? = some (.cells #[c0, c1, c2, c3, c4, v] t (0, 0)) := by
  refine ⟨?_, ?_, ?_, ?_, ?_, ?_⟩ <;> (rw [setCell_eq_setRow w g _ _ _ (0, 0) v h, setRow_heap w g _ _ _ _ h]; rfl)
set_option maxHeartbeats 8000000 in
set_option maxRecDepth 100000 in
theorem write_calls (g base : Nat) (bv : Value) (d : Dsk) (n : Int) (w : World) (h : DiskAt w base g bv d) (hn : 0 ≤ n) (hn2 : n ≤ 4611686018427387904) (hw : -4611686018427387904 ≤ d.writes) (hw2 : d.writes ≤ 9223372036854775807) :
    Calls Try.prog 35 #[.pointer (some ⟨g, 0, none⟩), .int .i64 n] w fun e w' => e = .returned (.tuple #[.bool (d.wr n).1, .int .i64 (d.wr n).2.1]) ∧ Fr (fun k => k = g) w w' ∧ DiskAt w' base g bv (d.wr n).2.2 := by
  obtain ⟨bytes, room, dead, set, writes, tear⟩ := d
  obtain ⟨k0, k1, k2, k3, k4, k5⟩ := h.cells
  simp only at k0 k1 k2 k3 k4 k5 hw hw2
  have HH := Aside0.mk h
  have fz := frozenV h.heap
  unfold Dsk.wr
  simp only
  clear h
  cases dead with
  | true =>
    simp only [if_true]
    go_enter Try.func35, Try.ntmps35
    go_wp2
    go_ret2
    exact ⟨by first | rfl | simp, Fr.refl _ _, HH.out⟩
  | false =>
    simp only [Bool.false_eq_true, if_false]
    by_cases h1 : room < n
    · simp only [h1, if_true]
      have c1 : decide (room < n) = true := decide_eq_true h1
      go_enter Try.func35, Try.ntmps35
      go_wp2
      go_ret2
      exact ⟨by first | rfl | simp, Fr.refl _ _, HH.out⟩
    · simp only [h1, if_false]
      have c1 : decide (room < n) = false := decide_eq_false h1
      have c5 := set6 HH.out.heap
      cases set with
      | true =>
        by_cases h2 : writes = 0
        · subst h2
          simp only [and_self, if_true]
          have f5 := fz 5
          clear fz
          go_enter Try.func35, Try.ntmps35
          go_wp2
          go_ret2
          exact ⟨by first | rfl | simp, Fr.one _ _ _ _, ⟨(c5 _).2.2.2.2.2, HH.out.row.fr (Fr.one w g _ _) (fun k hk e => HH.out.ne (by rw [hk, e])), HH.out.ge, HH.out.ne, HH.out.rm, HH.out.ln⟩⟩
        · simp only [h2, and_false, if_false]
          have f5 := fz 1
          have c2 : decide (writes = 0) = false := decide_eq_false h2
          have c3 : wrap64 (writes - 1) = writes - 1 := by unfold wrap64; omega
          clear fz
          go_enter Try.func35, Try.ntmps35
          go_wp2
          go_ret2
          exact ⟨by first | rfl | simp, Fr.one _ _ _ _, ⟨(c5 _).2.1, HH.out.row.fr (Fr.one w g _ _) (fun k hk e => HH.out.ne (by rw [hk, e])), HH.out.ge, HH.out.ne, HH.out.rm, HH.out.ln⟩⟩
      | false =>
        simp only [Bool.false_eq_true, false_and, if_false]
        have f5 := fz 1
        have c3 : wrap64 (writes - 1) = writes - 1 := by unfold wrap64; omega
        clear fz
        go_enter Try.func35, Try.ntmps35
        go_wp2
        go_ret2
        exact ⟨by first | rfl | simp, Fr.one _ _ _ _, ⟨(c5 _).2.1, HH.out.row.fr (Fr.one w g _ _) (fun k hk e => HH.out.ne (by rw [hk, e])), HH.out.ge, HH.out.ne, HH.out.rm, HH.out.ln⟩⟩
theorem Dsk.wr_writes (d : Dsk) (n : Int) : d.writes - 1 ≤ (d.wr n).2.2.writes ∧ (d.wr n).2.2.writes ≤ d.writes ∧ (d.wr n).2.2.bytes = d.bytes ∧ (d.wr n).2.2.room = d.room ∧ (d.wr n).2.2.tear = d.tear ∧ (d.wr n).2.2.set = d.set := by
  unfold Dsk.wr
  split
  · exact ⟨by simp only; omega, Int.le_refl _, rfl, rfl, rfl, rfl⟩
  split
  · exact ⟨by simp only; omega, Int.le_refl _, rfl, rfl, rfl, rfl⟩
  split
  · exact ⟨by simp only; omega, Int.le_refl _, rfl, rfl, rfl, rfl⟩
  · exact ⟨by simp only; omega, by simp only; omega, rfl, rfl, rfl, rfl⟩
theorem Dsk.wr_ok (d : Dsk) (n : Int) (h : (d.wr n).1 = true ∨ (d.wr n).2.1 = 0) : n ≤ d.room := by
  unfold Dsk.wr at h
  split at h
  · simp at h
  split at h
  · simp at h
  · omega
theorem Dsk.wr_err (d : Dsk) (n : Int) : ((d.wr n).1 = true → (d.wr n).2.1 = 115) := by
  unfold Dsk.wr
  split
  · simp
  split
  · simp
  split <;> simp
theorem Dsk.app_ok (d : Dsk) (b : List Int) (h1 : d.dead = false) (h2 : (d.bytes.length : Int) + (b.length : Int) ≤ d.room) (h3 : ¬ (d.set = true ∧ d.writes = 0)) : d.app b = (0, { d with bytes := d.bytes ++ b, writes := d.writes - 1 }) := by
  have : d.wr ((d.bytes.length : Int) + (b.length : Int)) = (false, 0, { d with writes := d.writes - 1 }) := by
    unfold Dsk.wr
    rw [if_neg (by rw [h1]; decide), if_neg (by omega), if_neg h3]
  unfold Dsk.app
  rw [this]
  rfl
theorem Dsk.app_dead (d : Dsk) (b : List Int) (h1 : d.dead = true) : d.app b = (115, d) := by
  have : ∀ n, d.wr n = (false, 115, d) := fun n => by
    unfold Dsk.wr
    rw [if_pos h1]
  unfold Dsk.app
  rw [this]
  rfl
theorem Dsk.app_full (d : Dsk) (b : List Int) (h1 : d.dead = false) (h2 : d.room < (d.bytes.length : Int) + (b.length : Int)) : d.app b = (113, d) := by
  have : d.wr ((d.bytes.length : Int) + (b.length : Int)) = (false, 113, d) := by
    unfold Dsk.wr
    rw [if_neg (by rw [h1]; decide), if_pos h2]
  unfold Dsk.app
  rw [this]
  rfl
theorem Dsk.app_tear (d : Dsk) (b : List Int) (h1 : d.dead = false) (h2 : (d.bytes.length : Int) + (b.length : Int) ≤ d.room) (h3 : d.set = true ∧ d.writes = 0) : d.app b = (115, { d with bytes := d.bytes ++ b.take (clampN d.tear b.length), dead := true }) := by
  have : d.wr ((d.bytes.length : Int) + (b.length : Int)) = (true, 115, { d with dead := true }) := by
    unfold Dsk.wr
    rw [if_neg (by rw [h1]; decide), if_neg (by omega), if_pos h3]
  unfold Dsk.app
  rw [this]
  rfl
theorem Dsk.rep_ok (d : Dsk) (b : List Int) (h1 : d.dead = false) (h2 : (b.length : Int) ≤ d.room) (h3 : ¬ (d.set = true ∧ d.writes = 0)) : d.rep b = (0, { d with bytes := b, writes := d.writes - 1 }) := by
  have : d.wr (b.length : Int) = (false, 0, { d with writes := d.writes - 1 }) := by
    unfold Dsk.wr
    rw [if_neg (by rw [h1]; decide), if_neg (by omega), if_neg h3]
  unfold Dsk.rep
  rw [this]
  rfl
theorem Dsk.rep_dead (d : Dsk) (b : List Int) (h1 : d.dead = true) : d.rep b = (115, d) := by
  have : ∀ n, d.wr n = (false, 115, d) := fun n => by
    unfold Dsk.wr
    rw [if_pos h1]
  unfold Dsk.rep
  rw [this]
  rfl
theorem Dsk.rep_full (d : Dsk) (b : List Int) (h1 : d.dead = false) (h2 : d.room < (b.length : Int)) : d.rep b = (113, d) := by
  have : d.wr (b.length : Int) = (false, 113, d) := by
    unfold Dsk.wr
    rw [if_neg (by rw [h1]; decide), if_pos h2]
  unfold Dsk.rep
  rw [this]
  rfl
theorem Dsk.rep_break (d : Dsk) (b : List Int) (h1 : d.dead = false) (h2 : (b.length : Int) ≤ d.room) (h3 : d.set = true ∧ d.writes = 0) : d.rep b = (115, { d with dead := true }) := by
  have : d.wr (b.length : Int) = (true, 115, { d with dead := true }) := by
    unfold Dsk.wr
    rw [if_neg (by rw [h1]; decide), if_neg (by omega), if_pos h3]
  unfold Dsk.rep
  rw [this]
  rfl
set_option maxHeartbeats 8000000 in
set_option maxRecDepth 100000 in
theorem app_calls (g base : Nat) (bv : Value) (d : Dsk) (A : Option Addr) (c : Nat) (b : List Int) (w : World) (h : DiskAt w base g bv d) (hb : base ≤ w.heap.size) (hy : Rd w A b) (hc : b.length ≤ c) (hl : b.length ≤ 140737488355328) (hA : ∀ ad, A = some ad → ad.block ≠ g) (hw : -4611686018427387904 ≤ d.writes) (hw2 : d.writes ≤ 9223372036854775807) :
    Calls Try.prog 16 #[.pointer (some ⟨g, 0, none⟩), .slice A b.length c] w fun e w' => e = .returned (.int .i64 (d.app b).1) ∧ Fr (Fp g bv) w w' ∧ ∃ bv', DiskAt w' base g bv' (d.app b).2 ∧ ∀ k, Fp g bv' k → Fp g bv k ∨ w.heap.size ≤ k := by
  obtain ⟨A0, c0, rfl, hc0⟩ := h.row.slice
  have k3 := h.cells.2.2.2.1
  obtain ⟨n, hn⟩ : ∃ n : Int, (d.bytes.length : Int) + (b.length : Int) = n := ⟨_, rfl⟩
  have hln := h.ln
  have c3 : wrap64 ((d.bytes.length : Int) + (b.length : Int)) = n := by unfold wrap64; omega
  have hn0 : 0 ≤ n ∧ n ≤ 4611686018427387904 := by omega
  have hwr := write_calls g base (.slice A0 d.bytes.length c0) d n w h hn0.1 hn0.2 hw hw2
  have hok := d.wr_ok n
  have hfx := d.wr_writes n
  have hwe := d.wr_err n
  unfold Dsk.app
  rw [hn]
  obtain ⟨⟨br, er, d'⟩, hr⟩ : ∃ r, d.wr n = r := ⟨_, rfl⟩
  rw [hr] at hwr hok hfx hwe ⊢
  simp only at hwr hok hfx hwe ⊢
  obtain ⟨_, _, f3, f4, f5, f6⟩ := hfx
  have HH := Aside0.mk (And.intro hwr (And.intro h (And.intro hy (And.intro hok (And.intro hA (And.intro hb (And.intro f3 hl)))))))
  have hN := Aside0.mk hn
  clear hwr h hy hok hA hb hn
  have fin : ∀ (w1 : World) (hf1 : Fr (fun k => k = g) w w1) (hD1 : DiskAt w1 base g (.slice A0 d.bytes.length c0) d') (bs : List Int) (v2 : Value) (w2 : World), bs.length ≤ 4194304 → OB w2 base v2 bs → Fr (fun k => some k = (Value.slice A0 d.bytes.length c0).ownBlock) w1 w2 → (v2.ownBlock = (Value.slice A0 d.bytes.length c0).ownBlock ∨ ∃ q, v2.ownBlock = some q ∧ w1.heap.size ≤ q) →
      w2.frozen? ⟨g, 3, none⟩ = false ∧ w2.cell? ⟨g, 3, none⟩ = some (.slice A0 d.bytes.length c0) ∧ Fr (Fp g (.slice A0 d.bytes.length c0)) w (w2.setCell ⟨g, 3, none⟩ v2) ∧ ∃ bv', DiskAt (w2.setCell ⟨g, 3, none⟩ v2) base g bv' { d' with bytes := bs } ∧ ∀ k, Fp g bv' k → Fp g (.slice A0 d.bytes.length c0) k ∨ w.heap.size ≤ k := by
    intro w1 hf1 hD1 bs v2 w2 hbl hO2 hf2 hat
    have z1 := hf1.size
    have hh2 := hf2.blk hD1.heap (fun e => HH.out.2.1.ne e.symm)
    have hne : v2.ownBlock ≠ some g := fun e => by
      rcases hat with h | ⟨q, h, hq⟩
      · rw [h] at e; exact HH.out.2.1.ne e
      · rw [e] at h
        cases h
        have := blk_lt HH.out.2.1.heap
        omega
    refine ⟨frozenV hh2 3, by simp [World.cell?, hh2], ?_, v2, ⟨(set6 hh2 v2).2.2.2.1, hO2.fr (Fr.one w2 g _ _) (fun k hk e => hne (by rw [hk, e])), HH.out.2.1.ge, hne, hD1.rm, hbl⟩, fun k hk => (Fp.new hat k hk).elim .inl (fun h => .inr (by omega))⟩
    refine Fr.setCell ?_ (.inl (.inl rfl)) _
    exact (hf1.mono (fun i h => .inl h)).trans (hf2.mono (S' := fun k => Fp g (.slice A0 d.bytes.length c0) k) (fun i h => .inr h)) (fun i h => .inl h)
  have FN := Aside0.mk fin
  have HL := Aside0.mk hln
  clear fin hln
  cases br with
  | true =>
    obtain rfl : er = 115 := hwe rfl
    simp only [if_true]
    have hm : ((clampN d.tear b.length : Nat) : Int) = max 0 (min d.tear (b.length : Int)) := by unfold clampN; omega
    have hmle : clampN d.tear b.length ≤ b.length := by unfold clampN; omega
    obtain ⟨m, hmm⟩ : ∃ m, clampN d.tear b.length = m := ⟨_, rfl⟩
    rw [hmm] at hm hmle ⊢
    clear hmm
    obtain ⟨i0, hi0, _, hsz, _⟩ := info_parts infoB
    have hcut := cut_to (P := Try.prog) 22 5 .i64 Try.underlying22 hi0 A b.length c (m : Int) (by omega) (by omega) hc
    rw [Int.toNat_natCast] at hcut
    have hM := Aside0.mk hmle
    obtain ⟨j, hj⟩ : ∃ j : Int, (if (b.length : Int) < d.tear then (b.length : Int) else d.tear) = j := ⟨_, rfl⟩
    have hmm : (if 0 < j then j else 0) = (m : Int) := by rw [← hj, hm]; (repeat' split) <;> omega
    clear hmle hm
    go_enter Try.func16, Try.ntmps16
    go_wp2_with (fail)
    refine HH.out.1.mono ?_
    rintro e w1 ⟨rfl, hf1, hD1⟩
    have hF1 := Aside0.mk (And.intro hf1 hD1)
    have z1 := hf1.size
    have k2 := hD1.cells.2.2.1
    have k3 := hD1.cells.2.2.2.1
    rw [f5] at k2
    clear hf1 hD1
    go_wp2_with (first | ((with_reducible refine gate_builtin (b := .append) (xs := #[.tmp 41, .tmp 42]) rfl ?_); at_builtin; refine Aside0.out ?_))
    refine ⟨?_⟩
    have hO1 : OB w1 base (.slice A0 d.bytes.length c0) d.bytes := by have := hF1.out.2.row; rw [f3] at this; exact this
    have hr1 : Rd w1 A (b.take m) := by have := (HH.out.2.2.1.fr hF1.out.1 (fun ad e h => HH.out.2.2.2.2.1 ad e h)).mid 0 m; rw [List.drop_zero] at this; cases A with | none => exact this | some ad => rw [Option.map_some, show ad.add 0 = ad from by unfold Addr.add; split <;> simp_all] at this; exact this
    have hl2 : (b.take m).length = m := by have := hM.out; rw [List.length_take]; omega
    refine wpList_appe rfl (by rfl) base _ _ (by rfl) infoB _ d.bytes (by rfl) hO1 A m c (b.take m) (by rfl) hl2.symm hr1 (by rw [hl2]; have := hM.out; have := HL.out; have := hN.out; have := HH.out.2.2.2.1 (by simp); have := HH.out.2.1.rm; omega) (by have := HH.out.2.2.2.2.2.1; omega) ?_
    intro v2 w2 hO2 hf2 hat
    obtain ⟨A2, c2, e2, _⟩ := hO2.slice
    generalize (d.bytes ++ b.take m).length = q at e2
    subst e2
    obtain ⟨fz, cz, hff, hfin⟩ := FN.out w1 hF1.out.1 hF1.out.2 (d.bytes ++ b.take m) _ w2 (by rw [List.length_append, hl2]; have := hM.out; have := hN.out; have := HH.out.2.2.2.1 (by simp); have := HH.out.2.1.rm; omega) hO2 hf2 hat
    have RR := Aside0.mk (And.intro hff hfin)
    clear hO1 hr1 hl2 hO2 hf2 hat hff hfin hcut hmm k2 k3 hj
    go_wp2
    go_ret
    exact ⟨rfl, RR.out⟩
  | false =>
    by_cases he : er = 0
    · subst he
      simp only [Bool.false_eq_true, if_false, if_true]
      go_enter Try.func16, Try.ntmps16
      go_wp2_with (fail)
      refine HH.out.1.mono ?_
      rintro e w1 ⟨rfl, hf1, hD1⟩
      have hF1 := Aside0.mk (And.intro hf1 hD1)
      have z1 := hf1.size
      have k3 := hD1.cells.2.2.2.1
      clear hf1 hD1
      go_wp2_with (first | ((with_reducible refine gate_builtin (b := .append) (xs := #[.tmp 41, .tmp 42]) rfl ?_); at_builtin; refine Aside0.out ?_))
      refine ⟨?_⟩
      have hO1 : OB w1 base (.slice A0 d.bytes.length c0) d.bytes := by have := hF1.out.2.row; rw [f3] at this; exact this
      have hr1 : Rd w1 A b := HH.out.2.2.1.fr hF1.out.1 (fun ad e h => HH.out.2.2.2.2.1 ad e h)
      refine wpList_appe rfl (by rfl) base _ _ (by rfl) infoB _ d.bytes (by rfl) hO1 A b.length c b (by rfl) rfl hr1 (by have := HL.out; have := hN.out; have := HH.out.2.2.2.1 (by simp); have := HH.out.2.1.rm; omega) (by have := HH.out.2.2.2.2.2.1; omega) ?_
      intro v2 w2 hO2 hf2 hat
      obtain ⟨A2, c2, e2, _⟩ := hO2.slice
      generalize (d.bytes ++ b).length = q at e2
      subst e2
      obtain ⟨fz, cz, hff, hfin⟩ := FN.out w1 hF1.out.1 hF1.out.2 (d.bytes ++ b) _ w2 (by rw [List.length_append]; have := hN.out; have := HH.out.2.2.2.1 (by simp); have := HH.out.2.1.rm; omega) hO2 hf2 hat
      have RR := Aside0.mk (And.intro hff hfin)
      clear hO1 hr1 hO2 hf2 hat hff hfin k3
      go_wp2
      go_ret
      exact ⟨rfl, RR.out⟩
    · simp only [Bool.false_eq_true, if_false, he]
      have ce : decide (er = 0) = false := decide_eq_false he
      go_enter Try.func16, Try.ntmps16
      go_wp2_with (fail)
      refine HH.out.1.mono ?_
      rintro e w1 ⟨rfl, hf1, hD1⟩
      have RR := Aside0.mk (And.intro hf1 hD1)
      clear hf1 hD1
      go_wp2
      go_ret
      exact ⟨rfl, RR.out.1.mono (fun i h => .inl h), _, RR.out.2, fun k hk => .inl hk⟩
set_option maxHeartbeats 8000000 in
set_option maxRecDepth 100000 in
theorem rep_calls (g base : Nat) (bv : Value) (d : Dsk) (A : Option Addr) (c : Nat) (b : List Int) (w : World) (h : DiskAt w base g bv d) (hb : base ≤ w.heap.size) (hy : Rd w A b) (hc : b.length ≤ c) (hl : b.length ≤ 140737488355327) (hA : ∀ ad, A = some ad → ad.block ≠ g) (hw : -4611686018427387904 ≤ d.writes) (hw2 : d.writes ≤ 9223372036854775807) :
    Calls Try.prog 33 #[.pointer (some ⟨g, 0, none⟩), .slice A b.length c] w fun e w' => e = .returned (.int .i64 (d.rep b).1) ∧ Fr (fun k => k = g) w w' ∧ ∃ bv', DiskAt w' base g bv' (d.rep b).2 ∧ ∀ k, Fp g bv' k → Fp g bv k ∨ w.heap.size ≤ k := by
  have hwr := write_calls g base bv d (b.length : Int) w h (by omega) (by omega) hw hw2
  have hok := d.wr_ok (b.length : Int)
  have hfx := d.wr_writes (b.length : Int)
  unfold Dsk.rep
  obtain ⟨⟨br, er, d'⟩, hr⟩ : ∃ r, d.wr (b.length : Int) = r := ⟨_, rfl⟩
  rw [hr] at hwr hok hfx ⊢
  simp only at hwr hok hfx ⊢
  have HH := Aside0.mk (And.intro hwr (And.intro h (And.intro hy (And.intro hok (And.intro hA (And.intro hb hl))))))
  clear hwr h hy hok hA hb
  by_cases he : er = 0
  · subst he
    simp only [if_true]
    go_enter Try.func33, Try.ntmps33
    go_wp2_with (fail)
    refine HH.out.1.mono ?_
    rintro e w1 ⟨rfl, hf1, hD1⟩
    have hF1 := Aside0.mk (And.intro hf1 hD1)
    clear hf1 hD1
    have hr1 : Rd w1 A b := HH.out.2.2.1.fr hF1.out.1 (fun ad e h => HH.out.2.2.2.2.1 ad e h)
    have hC1 := Aside0.mk (hr1.C (by omega))
    clear hr1
    go_wp2_with (fail)
    refine (slices_Clone_byte_byte.calls A c b b w1 hC1.out hc (by unfold slices_Clone_byte_byte.f; rw [if_pos (by omega)])).mono ?_
    rintro e w2 ⟨v2, rfl, hR2, hb2⟩
    have hO2 : OB w2 w1.heap.size v2 b := Kd.own_of_R hR2
    obtain ⟨A2, c2, rfl, _⟩ := hO2.slice
    have hh2 := (Fr.of_below hb2 (fun _ => False)).blk hF1.out.2.heap (fun h => h)
    have z1 := hF1.out.1.size
    have hne : (Value.slice A2 b.length c2).ownBlock ≠ some g := fun e => by have := hO2.base g e; have := blk_lt hF1.out.2.heap; omega
    have fz := frozenV hh2 3
    have cz : w2.cell? ⟨g, 3, none⟩ = some bv := by simp [World.cell?, hh2]
    have RR := Aside0.mk (And.intro ((hF1.out.1.trans (Fr.of_below hb2 (fun _ => False)) (fun i h => h.elim)).setCell (p := ⟨g, 3, none⟩) (.inl rfl) (.slice A2 b.length c2)) (And.intro (⟨(set6 hh2 _).2.2.2.1, OB.lower (hO2.fr (Fr.one w2 g _ _) (fun k hk e => hne (by rw [hk, e]))) (by have := HH.out.2.2.2.2.2.1; omega), HH.out.2.1.ge, hne, hF1.out.2.rm, by show b.length ≤ 4194304; have := HH.out.2.2.2.1 (by simp); have := HH.out.2.1.rm; omega⟩ : DiskAt (w2.setCell ⟨g, 3, none⟩ (.slice A2 b.length c2)) base g (.slice A2 b.length c2) { d' with bytes := b })
      (fun k (hk : Fp g (.slice A2 b.length c2) k) => (hk.elim (fun h => .inl (.inl h)) (fun h => .inr (by have := hO2.base k h.symm; omega)) : Fp g bv k ∨ w.heap.size ≤ k))))
    clear hR2 hb2 hO2 hh2 hne
    go_wp2
    go_ret
    exact ⟨rfl, RR.out.1, _, RR.out.2.1, RR.out.2.2⟩
  · simp only [he, if_false]
    have ce : decide (er = 0) = false := decide_eq_false he
    go_enter Try.func33, Try.ntmps33
    go_wp2_with (fail)
    refine HH.out.1.mono ?_
    rintro e w1 ⟨rfl, hf1, hD1⟩
    have RR := Aside0.mk (And.intro hf1 hD1)
    clear hf1 hD1
    go_wp2
    go_ret
    exact ⟨rfl, RR.out.1, _, RR.out.2, fun k hk => .inl hk⟩
set_option maxHeartbeats 8000000 in
set_option maxRecDepth 100000 in
theorem bytes_calls (g base : Nat) (bv : Value) (d : Dsk) (w : World) (h : DiskAt w base g bv d) :
    Calls Try.prog 29 #[.pointer (some ⟨g, 0, none⟩)] w fun e w' => ∃ v : Value, e = .returned v ∧ OB w' w.heap.size v d.bytes ∧ Below w.heap.size w w' := by
  obtain ⟨A0, c0, rfl, hc0⟩ := h.row.slice
  have k3 := h.cells.2.2.2.1
  have hl := h.ln
  have hC := Aside0.mk ((QB.rd (q_of_own h.row)).C (by omega))
  clear h
  go_enter Try.func29, Try.ntmps29
  go_wp2_with (fail)
  refine (slices_Clone_byte_byte.calls A0 c0 d.bytes d.bytes w hC.out hc0 (by unfold slices_Clone_byte_byte.f; rw [if_pos (by omega)])).mono ?_
  rintro e w2 ⟨v2, rfl, hR2, hb2⟩
  have RR := Aside0.mk (And.intro (Kd.own_of_R hR2) hb2)
  clear hR2 hb2
  go_wp2
  go_ret
  exact ⟨_, rfl, RR.out.1, RR.out.2⟩
set_option maxHeartbeats 8000000 in
set_option maxRecDepth 100000 in
theorem dead_calls (g base : Nat) (bv : Value) (d : Dsk) (w : World) (h : DiskAt w base g bv d) :
    Calls Try.prog 32 #[.pointer (some ⟨g, 0, none⟩)] w fun e w' => e = .returned (.bool d.dead) ∧ w' = w := by
  have k := h.cells.2.2.2.2.2
  clear h
  go_enter Try.func32, Try.ntmps32
  go_wp2
  go_ret
  exact ⟨rfl, rfl⟩
set_option maxHeartbeats 8000000 in
set_option maxRecDepth 100000 in
theorem room_calls (g base : Nat) (bv : Value) (d : Dsk) (n : Int) (w : World) (h : DiskAt w base g bv d) :
    Calls Try.prog 26 #[.pointer (some ⟨g, 0, none⟩), .int .i64 n] w fun e w' => e = .returned (.tuple #[]) ∧ Fr (fun k => k = g) w w' ∧ DiskAt w' base g bv (d.rm n) := by
  have fz := frozenV h.heap 4
  have k4 := h.cells.2.2.2.2.1
  have HH := Aside0.mk h
  clear h
  obtain ⟨j, hj⟩ : ∃ j : Int, (if 4194304 < n then 4194304 else n) = j := ⟨_, rfl⟩
  obtain ⟨m, hm⟩ : ∃ m : Int, (if 0 < j then j else 0) = m := ⟨_, rfl⟩
  have hr : roomI n = m := by rw [← hm, ← hj]; unfold roomI; (repeat' split) <;> omega
  go_enter Try.func26, Try.ntmps26
  go_wp2
  go_end0
  refine ⟨rfl, Fr.one _ _ _ _, ?_⟩
  unfold Dsk.rm
  rw [hr]
  exact ⟨(set6 HH.out.heap _).2.2.2.2.1, HH.out.row.fr (Fr.one w g _ _) (fun k hk e => HH.out.ne (by rw [hk, e])), HH.out.ge, HH.out.ne, by rw [← hr]; unfold roomI; simp only; omega, HH.out.ln⟩
set_option maxHeartbeats 8000000 in
set_option maxRecDepth 100000 in
theorem break_calls (g base : Nat) (bv : Value) (d : Dsk) (n tear : Int) (w : World) (h : DiskAt w base g bv d) :
    Calls Try.prog 13 #[.pointer (some ⟨g, 0, none⟩), .int .i64 n, .int .i64 tear] w fun e w' => e = .returned (.tuple #[]) ∧ Fr (fun k => k = g) w w' ∧ DiskAt w' base g bv (d.brk n tear) := by
  have HH := Aside0.mk h
  have fz0 := frozenV h.heap 0
  have fz1 := frozenV h.heap 1
  have fz2 := frozenV h.heap 2
  obtain ⟨k0, k1, k2, _⟩ := h.cells
  clear h
  obtain ⟨m, hm⟩ : ∃ m : Int, (if 0 < n then n else 0) = m := ⟨_, rfl⟩
  have hr : max 0 n = m := by rw [← hm]; (repeat' split) <;> omega
  go_enter Try.func13, Try.ntmps13
  go_wp2
  go_end0
  have h1 := (set6 HH.out.heap (.bool true)).1
  have h2 := (set6 h1 (.int .i64 m)).2.1
  have h3 := (set6 h2 (.int .i64 tear)).2.2.1
  have hf : Fr (fun k => k = g) w (((w.setCell ⟨g, 0, none⟩ (.bool true)).setCell ⟨g, 1, none⟩ (.int .i64 m)).setCell ⟨g, 2, none⟩ (.int .i64 tear)) := ((Fr.one w g 0 _).trans (Fr.one _ g 1 _) (fun i h => .inl h)).trans (Fr.one _ g 2 _) (fun i h => .inl h)
  refine ⟨rfl, hf, ?_⟩
  unfold Dsk.brk
  rw [hr]
  exact ⟨h3, HH.out.row.fr hf (fun k hk e => HH.out.ne (by rw [hk, e])), HH.out.ge, HH.out.ne, HH.out.rm, HH.out.ln⟩
set_option maxHeartbeats 8000000 in
set_option maxRecDepth 100000 in
theorem mend_calls (g base : Nat) (bv : Value) (d : Dsk) (w : World) (h : DiskAt w base g bv d) :
    Calls Try.prog 15 #[.pointer (some ⟨g, 0, none⟩)] w fun e w' => e = .returned (.tuple #[]) ∧ Fr (fun k => k = g) w w' ∧ DiskAt w' base g bv d.mend := by
  have h1 := (set6 h.heap (.bool false)).1
  have h2 := (set6 h1 (.int .i64 0)).2.1
  have h3 := (set6 h2 (.int .i64 0)).2.2.1
  have h4 := (set6 h3 (.bool false)).2.2.2.2.2
  have hf : Fr (fun k => k = g) w ((((w.setCell ⟨g, 0, none⟩ (.bool false)).setCell ⟨g, 1, none⟩ (.int .i64 0)).setCell ⟨g, 2, none⟩ (.int .i64 0)).setCell ⟨g, 5, none⟩ (.bool false)) := (((Fr.one w g 0 _).trans (Fr.one _ g 1 _) (fun i h => .inl h)).trans (Fr.one _ g 2 _) (fun i h => .inl h)).trans (Fr.one _ g 5 _) (fun i h => .inl h)
  have HH := Aside0.mk (And.intro h4 (And.intro hf h))
  have fz0 := frozenV h.heap 0
  have fz1 := frozenV h.heap 1
  have fz2 := frozenV h.heap 2
  have fz5 := frozenV h3 5
  have k5 : (((w.setCell ⟨g, 0, none⟩ (.bool false)).setCell ⟨g, 1, none⟩ (.int .i64 0)).setCell ⟨g, 2, none⟩ (.int .i64 0)).cell? ⟨g, 5, none⟩ = some (.bool d.dead) := by simp only [World.cell?, h3]; rfl
  obtain ⟨k0, k1, k2, _⟩ := h.cells
  clear h h1 h2 h3 h4 hf
  go_enter Try.func15, Try.ntmps15
  go_wp2
  go_end0
  exact ⟨rfl, HH.out.2.1, ⟨HH.out.1, HH.out.2.2.row.fr HH.out.2.1 (fun k hk e => HH.out.2.2.ne (by rw [hk, e])), HH.out.2.2.ge, HH.out.2.2.ne, HH.out.2.2.rm, HH.out.2.2.ln⟩⟩
def Z6 : Array Value := #[.bool false, .int .i64 0, .int .i64 0, .slice none 0 0, .int .i64 0, .bool false]
set_option maxHeartbeats 8000000 in
set_option maxRecDepth 100000 in
theorem dnew_calls (n : Int) (w : World) :
    Calls Try.prog 11 #[.int .i64 n] w fun e w' => ∃ g, e = .returned (.pointer (some ⟨g, 0, none⟩)) ∧ DiskAt w' w.heap.size g (.slice none 0 0) (dsk0 n) ∧ Below w.heap.size w w' := by
  go_enter Try.func11, Try.ntmps11
  go_wp2_with (first | ((with_reducible refine gate_dst (N := 4) rfl ?_); refine wpList_build_abs (by rfl) 67 _ (by rfl) Z6 (by kernel_rfl) ?_) | ((with_reducible refine gate_dst (N := 5) rfl ?_); refine wpList_box_abs (by rfl) 67 _ (by rfl) Z6 (by rfl) ?_; intro w1 hb1 hs1 hg1))
  have hg1 := heap_alloc_new w (.cells Z6 67)
  have hb1 := below_alloc (Below.refl w.heap.size w) (.cells Z6 67)
  generalize w.alloc (.cells Z6 67) = w1 at *
  have hD : DiskAt w1 w.heap.size w.heap.size (.slice none 0 0) ⟨[], 0, false, false, 0, 0⟩ := ⟨hg1, OB.nil _ _, Nat.le_refl _, by simp [Value.ownBlock], by decide, by decide⟩
  have HH := Aside0.mk (And.intro hD hb1)
  clear hD hb1 hg1
  refine (room_calls w.heap.size w.heap.size _ _ n w1 HH.out.1).mono ?_
  rintro e w2 ⟨rfl, hf2, hD2⟩
  have RR := Aside0.mk (And.intro hD2 (((Fr.of_below HH.out.2 (fun k => k = w.heap.size)).trans hf2 (fun i h => .inl h)).below w.heap.size (Nat.le_refl _) (fun i h => by omega)))
  clear hf2 hD2
  go_wp2
  go_ret
  exact ⟨_, rfl, RR.out.1, RR.out.2⟩
end Go.Proofs.Ytkkgjbafncmohaa.Sha
