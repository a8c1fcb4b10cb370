/- Parts of the proof of LedgerRunsUptoSaid: laid together and cut down to what LedgerRuns' proof uses (parts: ShaM4, Sd1, Sd2). -/
import Derived.Test.YtnabilhcmplhcaaP3
import Derived.Test.YtnabilhcmplhcaaP1
import Derived.Lib.SmallJoins
import Derived.Laws.IdiomStrings
import Derived.Test.YtnabilhcmplhcaaP2
section
/- Parts of one work, laid together: ShaS2, ShaR, ShaT, ShaU, ShaV. -/
/-
  A part of bytes that can be read.
-/
set_option linter.unusedVariables false
set_option linter.unusedSimpArgs false
namespace Go.Proofs.Ytnabilhcmplhcaa.Sha
open Go.RowKit Go.Proofs.YtnabilhcmplhcaaW.PrintWords Go.Proofs.YtnabilhcmplhcaaW.PrintLast Go.Proofs.YtnabilhcmplhcaaW.PrintMore Go.Proofs.Ytnabilhcmplhcaa.Q Go.Proofs.Ytnabilhcmplhcaa.Fr Go.Proofs.Ytnabilhcmplhcaa.Oct

theorem Rd.mid {w : World} {A : Option Addr} {ys : List Int} (h : Rd w A ys) (lo k : Nat) : Rd w (A.map (·.add lo)) ((ys.drop lo).take k) := fun j u hu => by
  have hu' : (encs (Value.int .u8) ys)[lo + j]? = some u := by
    simp only [encs, List.getElem?_map, List.getElem?_take, List.getElem?_drop] at hu ⊢
    split at hu
    · exact hu
    · simp at hu
  obtain ⟨ad, e, hc⟩ := h (lo + j) u hu'
  refine ⟨ad.add lo, by rw [e]; rfl, ?_⟩
  rw [show (ad.add lo).add j = ad.add (lo + j) from by simp only [Addr.add]; split <;> split <;> (try split) <;> simp_all <;> omega]
  exact hc

end Go.Proofs.Ytnabilhcmplhcaa.Sha

/-
  A hash that goes on: New, Write.
-/
set_option linter.unusedVariables false
set_option linter.unusedSimpArgs false
namespace Go.Proofs.Ytnabilhcmplhcaa.Sha
open Go.RowKit Go.Proofs.YtnabilhcmplhcaaW.PrintWords Go.Proofs.YtnabilhcmplhcaaW.PrintLast Go.Proofs.YtnabilhcmplhcaaW.PrintMore Go.Proofs.Ytnabilhcmplhcaa.Q Go.Proofs.Ytnabilhcmplhcaa.Fr Go.Proofs.Ytnabilhcmplhcaa.Oct

/-- A hash's own block: the words, what is left, the size. -/
structure HashAt (w : World) (g base : Nat) (rv : Value) (S rest : List Int) (n : Int) : Prop where
  heap : w.heap[g]? = some (.cells (encs (Value.int .u32) S ++ [rv, .int .u64 n]).toArray 128 (0, 0))
  len : S.length = 8
  row : QB w base rv rest
  ne : rv.ownBlock ≠ some g
theorem cells_hash {w : World} {g : Nat} {rv : Value} {S : List Int} {n : Int} (hS : S.length = 8) (h : w.heap[g]? = some (.cells (encs (Value.int .u32) S ++ [rv, .int .u64 n]).toArray 128 (0, 0))) : w.cell? ⟨g, 8, none⟩ = some rv ∧ w.cell? ⟨g, 9, none⟩ = some (.int .u64 n) := by
  obtain ⟨va, vb, vc, vd, ve, vf, vg, vh, rfl⟩ := eight hS
  simp [World.cell?, h, encs]
theorem set_hash8 {w : World} {g : Nat} {rv : Value} {S : List Int} {n : Int} (hS : S.length = 8) (h : w.heap[g]? = some (.cells (encs (Value.int .u32) S ++ [rv, .int .u64 n]).toArray 128 (0, 0))) (v : Value) : (w.setCell ⟨g, 8, none⟩ v).heap[g]? = some (.cells (encs (Value.int .u32) S ++ [v, .int .u64 n]).toArray 128 (0, 0)) := by
  obtain ⟨va, vb, vc, vd, ve, vf, vg, vh, rfl⟩ := eight hS
  rw [setCell_eq_setRow w g 8 _ _ (0, 0) v h, setRow_heap w g _ _ _ _ h]
  rfl
theorem set_hash9 {w : World} {g : Nat} {rv : Value} {S : List Int} {n : Int} (hS : S.length = 8) (h : w.heap[g]? = some (.cells (encs (Value.int .u32) S ++ [rv, .int .u64 n]).toArray 128 (0, 0))) (v : Value) : (w.setCell ⟨g, 9, none⟩ v).heap[g]? = some (.cells (encs (Value.int .u32) S ++ [rv, v]).toArray 128 (0, 0)) := by
  obtain ⟨va, vb, vc, vd, ve, vf, vg, vh, rfl⟩ := eight hS
  rw [setCell_eq_setRow w g 9 _ _ (0, 0) v h, setRow_heap w g _ _ _ _ h]
  rfl

def S0T : Array Value := (encs (Value.int .u32) S0).toArray
def H0T : Array Value := (encs (Value.int .u32) S0 ++ [Value.slice none 0 0, Value.int .u64 0]).toArray
set_option maxHeartbeats 8000000 in
set_option maxRecDepth 100000 in
theorem start_calls (w : World) : Calls Try.prog 71 #[] w fun e w' => e = .returned (.agg S0T) ∧ Below w.heap.size w w' := by
  go_enter Try.func71, Try.ntmps71
  go_wp2_with (first | ((with_reducible refine gate_dst (N := 0) rfl ?_); refine wpList_alloc_abs (by rfl) 125 (by rfl) (.agg Z8) (by kernel_rfl) ?_; intro w1 hb1 hs1 hg1) | ((with_reducible refine gate_dst (N := 1) rfl ?_); refine wpList_build_abs (by rfl) 125 _ (by rfl) S0T (by kernel_rfl) ?_) | ((with_reducible refine gate_store (p := 0) rfl ?_); refine wpList_store_abs (by rfl) 125 _ _ (by rfl) w.heap.size S0T (by rfl) (by rfl) 125 Z8 hg1 (by kernel_rfl) (by decide +kernel) (by decide +kernel) ?_; intro w2 hf2 hs2 hg2))
  refine bodyPost_ret (results_cell_row (by rfl) _ _ w.heap.size 125 S0T (0, 0) _ (by rfl) hg2 Try.underlying125 (by rfl) (by kernel_rfl)) rfl ?_
  exact ⟨rfl, (Fr.of_below hb1 (fun _ => False)).trans hf2 (fun i h => .inr (by omega)) |>.below _ (Nat.le_refl _) (fun i h => h.elim)⟩
set_option maxHeartbeats 8000000 in
set_option maxRecDepth 100000 in
theorem New_calls (w : World) : Calls Try.prog 64 #[] w fun e w' => ∃ g, e = .returned (.pointer (some ⟨g, 0, none⟩)) ∧ w.heap.size ≤ g ∧ HashAt w' g w.heap.size (.slice none 0 0) S0 [] 0 ∧ Below w.heap.size w w' := by
  go_enter Try.func64, Try.ntmps64
  go_wp2_with (fail)
  refine (start_calls w).mono ?_
  rintro e w1 ⟨rfl, hb1⟩
  go_wp2_with (first | ((with_reducible refine gate_dst (N := 2) rfl ?_); refine wpList_build_abs (by rfl) 128 _ (by rfl) H0T (by kernel_rfl) ?_) | ((with_reducible refine gate_dst (N := 3) rfl ?_); refine wpList_box_abs (by rfl) 128 _ (by rfl) H0T (by rfl) ?_; intro w2 hb2 hs2 hg2))
  go_ret
  have := hb1.size
  exact ⟨_, rfl, hb1.size, ⟨hg2, rfl, QB.nil _ _, by simp [Value.ownBlock]⟩, ((Fr.of_below hb1 (fun _ => False)).trans (Fr.of_below hb2 (fun _ => False)) (fun i h => h.elim)).below _ (Nat.le_refl _) (fun i h => h.elim)⟩
end Go.Proofs.Ytnabilhcmplhcaa.Sha

/-
  Write: the blocks of what is there.
-/
set_option linter.unusedVariables false
set_option linter.unusedSimpArgs false
namespace Go.Proofs.Ytnabilhcmplhcaa.Sha
open Go.RowKit Go.Proofs.YtnabilhcmplhcaaW.PrintWords Go.Proofs.YtnabilhcmplhcaaW.PrintLast Go.Proofs.YtnabilhcmplhcaaW.PrintMore Go.Proofs.Ytnabilhcmplhcaa.Q Go.Proofs.Ytnabilhcmplhcaa.Fr Go.Proofs.Ytnabilhcmplhcaa.Oct

theorem own_cut (A : Option Addr) (n c k : Nat) (n' c' : Nat) : (Value.slice (if c = k then A else A.map (·.add k)) n' c').ownBlock = (Value.slice A n c).ownBlock := by
  cases A with
  | none => split <;> rfl
  | some ad => split <;> simp [Value.ownBlock, addr_block]
theorem Rd.cells {w : World} {ad : Addr} {ys : List Int} (h : Rd w (some ad) ys) (i : Int) (h0 : 0 ≤ i) (h1 : i < ys.length) : w.cell? (ad.add i.toNat) = some (.int .u8 (ys.getD i.toNat 0)) := by
  have hl : i.toNat < ys.length := by omega
  obtain ⟨ad', e, hc⟩ := h i.toNat (.int .u8 (ys.getD i.toNat 0)) (by simp [encs, List.getD_eq_getElem?_getD, List.getElem?_eq_getElem hl])
  cases e
  exact hc

set_option maxHeartbeats 8000000 in
set_option maxRecDepth 100000 in
theorem roundW (u : Nat → Value) (g base : Nat) (rv : Value) (S rest : List Int) (n : Int) (w0 w : World) (h : HashAt w g base rv S rest n) (h64 : 64 ≤ rest.length) (hm : rest.length ≤ 140737488355328) (hf : Fr (fun k => k = g) w0 w)
    (Q : Exit → Act → World → Prop) (hQ : ∀ a' w' rv', Fm 55 a' → sl a' 0 = .pointer (some ⟨g, 0, none⟩) → sl a' 6 = u 6 → sl a' 7 = u 7 → sl a' 8 = u 8 → Fr (fun k => k = g) w0 w' → rv'.ownBlock = rv.ownBlock → HashAt w' g base rv' (compress S (rest.take 64)) (rest.drop 64) n → Q .normal a' w') :
    Code.wp Try.prog (bodyIn Try.f65 0 0) Q ⟨#[.pointer (some ⟨g, 0, none⟩), u 1, u 2, u 3, u 4, u 5, u 6, u 7, u 8, u 9, u 10, u 11, u 12, u 13, u 14, u 15, u 16, u 17, u 18, u 19, u 20, u 21, u 22, u 23, u 24, u 25, u 26, u 27, u 28, u 29, u 30, u 31, u 32, u 33, u 34, u 35, u 36, u 37, u 38, u 39, u 40, u 41, u 42, u 43, u 44, u 45, u 46, u 47, u 48, u 49, u 50, u 51, u 52, u 53, u 54], []⟩ w := by
  obtain ⟨A, c, rfl, hc⟩ := h.row.slice
  obtain ⟨x, r', hr'⟩ := List.exists_cons_of_ne_nil (show rest ≠ [] by intro e; rw [e] at h64; simp at h64)
  obtain ⟨ad, rfl, _⟩ := h.row.rd 0 (.int .u8 x) (by rw [hr']; rfl)
  clear hr'
  have hcell := (cells_hash h.len h.heap).1
  obtain ⟨i0, hi0, _, hsz, _⟩ := info_parts info5
  have hcut := cut_to (P := Try.prog) 29 5 .i64 Try.underlying29 hi0 (some ad) rest.length c 64 (by decide) (by omega) hc
  rw [show (64 : Int).toNat = 64 from rfl] at hcut
  have hcut2 := cut_from (P := Try.prog) 29 5 .i64 Try.underlying29 hi0 1 hsz (some ad) rest.length c 64 (by decide) (by omega)
  rw [show (64 : Int).toNat = 64 from rfl, Nat.mul_one] at hcut2
  have hown : (Value.slice (if c = 64 then some ad else (some ad).map (·.add 64)) (rest.length - 64) (c - 64)).ownBlock = (Value.slice (some ad) rest.length c).ownBlock := own_cut _ _ _ _ _ _
  have hdrop : ∀ w', QB w' base (.slice (some ad) rest.length c) rest → QB w' base (Value.slice (if c = 64 then some ad else (some ad).map (·.add 64)) (rest.length - 64) (c - 64)) (rest.drop 64) := fun w' hq => hq.drop 64 h64
  obtain ⟨A2, hv2⟩ : ∃ v, (if c = 64 then some ad else (some ad).map (·.add 64)) = v := ⟨_, rfl⟩
  rw [hv2] at hcut2 hown hdrop
  clear hv2
  have HH := Aside0.mk (And.intro h (And.intro hf (And.intro hown hdrop)))
  clear h hf hown hdrop
  have c0 : decide (64 ≤ (rest.length : Int)) = true := decide_eq_true (by omega)
  conv => arg 2; whnf
  go_wp2
  refine region_tail 8 (by kernel_rfl) (by kernel_rfl) ?_
  intro w3 e3
  have hc3 : w3.cell? ⟨g, 8, none⟩ = some (.slice (some ad) rest.length c) := by rw [e3]; simpa using hcell
  have h3 : HashAt w3 g base (.slice (some ad) rest.length c) S rest n := by rw [e3]; exact ⟨HH.out.1.heap, HH.out.1.len, q_move HH.out.1.row (fun _ _ => rfl), HH.out.1.ne⟩
  have hf3 : Fr (fun k => k = g) w0 w3 := by rw [e3]; exact HH.out.2.1.of_drew
  have HK := Aside0.mk HH.out.2.2
  clear HH hcell e3
  have HH := Aside0.mk (And.intro h3 hf3)
  clear h3 hf3
  simp only [List.take_succ_cons, List.take_zero, List.drop_succ_cons, List.drop_zero]
  repeat still_step
  refine wpStill_nil ?_
  go_wp2_with (fail)
  refine (block_calls g S HH.out.1.len [.slice (some ad) rest.length c, .int .u64 n] 128 ad c (rest.take 64) w3 HH.out.1.heap (fun i i0 i1 => ?_)).mono ?_
  · have := (HH.out.1.row.rd.mid 0 64).cells i i0 (by rw [List.length_take, List.drop_zero]; omega)
    rw [List.drop_zero] at this
    exact this
  rintro e w4 ⟨rfl, hf4, hg4⟩
  have hl4 : (compress S (rest.take 64)).length = 8 := (compress_len _ _).trans HH.out.1.len
  have hq4 : QB w4 base (.slice (some ad) rest.length c) rest := HH.out.1.row.fr hf4 (fun k hk e => HH.out.1.ne (by rw [hk, e]))
  have hc4 := (cells_hash hl4 hg4).1
  have fz := frozenV hg4 8
  have HN := Aside0.mk (And.intro hg4 (And.intro hl4 (And.intro hq4 (And.intro (HH.out.2.trans hf4 (fun i h => .inl h)) HH.out.1.ne))))
  clear HH hf4 hg4 hl4 hq4 hc3 hcut
  go_wp2
  refine hQ _ _ (.slice A2 (rest.length - 64) (c - 64)) ⟨rfl, rfl⟩ rfl rfl rfl rfl ?_ HK.out.1 ⟨?_, HN.out.2.1, ?_, ?_⟩
  · exact HN.out.2.2.2.1.setCell (.inl rfl) _
  · exact set_hash8 HN.out.2.1 HN.out.1 _
  · refine QB.fr (HK.out.2 w4 HN.out.2.2.1) ((Fr.refl (fun k => k = g) w4).setCell (.inl rfl) _) (fun k hk e => ?_)
    rw [HK.out.1] at hk
    exact HN.out.2.2.2.2 (by rw [hk, e])
  · rw [HK.out.1]
    exact HN.out.2.2.2.2
set_option maxHeartbeats 8000000 in
set_option maxRecDepth 100000 in
theorem exitW (u : Nat → Value) (g : Nat) (A : Option Addr) (c k : Nat) (hk : k < 64) (w : World) (hc : w.cell? ⟨g, 8, none⟩ = some (.slice A k c)) (Q : Exit → Act → World → Prop) (hQ : ∀ a', Fm 55 a' → sl a' 0 = .pointer (some ⟨g, 0, none⟩) → sl a' 6 = u 6 → sl a' 7 = u 7 → sl a' 8 = u 8 → Q (.exit 2) a' w) :
    Code.wp Try.prog (bodyIn Try.f65 0 0) Q ⟨#[.pointer (some ⟨g, 0, none⟩), u 1, u 2, u 3, u 4, u 5, u 6, u 7, u 8, u 9, u 10, u 11, u 12, u 13, u 14, u 15, u 16, u 17, u 18, u 19, u 20, u 21, u 22, u 23, u 24, u 25, u 26, u 27, u 28, u 29, u 30, u 31, u 32, u 33, u 34, u 35, u 36, u 37, u 38, u 39, u 40, u 41, u 42, u 43, u 44, u 45, u 46, u 47, u 48, u 49, u 50, u 51, u 52, u 53, u 54], []⟩ w := by
  have c0 : decide (64 ≤ (k : Int)) = false := decide_eq_false (by omega)
  conv => arg 2; whnf
  go_wp2
  exact hQ _ ⟨rfl, rfl⟩ rfl rfl rfl rfl
def JW (s6 s7 s8 : Value) (g base : Nat) (own : Option Nat) (S r : List Int) (n : Int) (w0 : World) (t : Nat) (a : Act) (w : World) : Prop :=
  Fm 55 a ∧ sl a 0 = .pointer (some ⟨g, 0, none⟩) ∧ sl a 6 = s6 ∧ sl a 7 = s7 ∧ sl a 8 = s8 ∧ Fr (fun k => k = g) w0 w ∧ ∃ rv, rv.ownBlock = own ∧ HashAt w g base rv (run t S r) (r.drop (64 * t)) n
theorem loopW (s6 s7 s8 : Value) (g base : Nat) (own : Option Nat) (S r : List Int) (n : Int) (hm : r.length ≤ 140737488355328) (w0 : World)
    (Q : Exit → Act → World → Prop) (hQ : ∀ a' w' rv', Fm 55 a' → sl a' 0 = .pointer (some ⟨g, 0, none⟩) → sl a' 6 = s6 → sl a' 7 = s7 → sl a' 8 = s8 → Fr (fun k => k = g) w0 w' → rv'.ownBlock = own → HashAt w' g base rv' (run (r.length / 64) S r) (r.drop (64 * (r.length / 64))) n → Q (.exit 2) a' w')
    (a : Act) (w : World) (h : JW s6 s7 s8 g base own S r n w0 0 a w) : (Code.loop (bodyIn Try.f65 0 0)).wp Try.prog Q a w := by
  refine wp_loop_up (r.length / 64) (JW s6 s7 s8 g base own S r n w0) h ?_
  rintro t a w ht ⟨hF, h0, h6, h7, h8, hf, rv, ho, hH⟩
  have ha := fm55 hF
  rw [h0] at ha
  by_cases h64 : t = r.length / 64
  · subst h64
    obtain ⟨A, c, rfl, hc⟩ := hH.row.slice
    rw [ha]
    exact exitW (sl a) g A c _ (by rw [List.length_drop]; omega) w (cells_hash hH.len hH.heap).1 _ fun a' b0 b1 b2 b3 b4 => hQ _ _ _ b0 b1 (b2.trans h6) (b3.trans h7) (b4.trans h8) hf ho hH
  · rw [ha]
    refine roundW (sl a) g base rv _ _ n w0 w hH (by rw [List.length_drop]; omega) (by rw [List.length_drop]; omega) hf _ ?_
    intro a' w' rv' b0 b1 b2 b3 b4 b5 b6 b7
    refine ⟨by omega, b0, b1, b2.trans h6, b3.trans h7, b4.trans h8, b5, rv', b6.trans ho, ?_⟩
    rw [run_succ, show 64 * (t + 1) = 64 * t + 64 by omega, ← List.drop_drop]
    exact b7
end Go.Proofs.Ytnabilhcmplhcaa.Sha

/-
  Write, whole.
-/
set_option linter.unusedVariables false
set_option linter.unusedSimpArgs false
namespace Go.Proofs.Ytnabilhcmplhcaa.Sha
open Go.RowKit Go.Proofs.YtnabilhcmplhcaaW.PrintWords Go.Proofs.YtnabilhcmplhcaaW.PrintLast Go.Proofs.YtnabilhcmplhcaaW.PrintMore Go.Proofs.Ytnabilhcmplhcaa.Q Go.Proofs.Ytnabilhcmplhcaa.Fr Go.Proofs.Ytnabilhcmplhcaa.Oct

theorem Fr.set1 (w : World) (g i : Nat) (v : Value) : Fr (fun k => k = g) w (w.setCell ⟨g, i, none⟩ v) := (Fr.refl (fun k => k = g) w).setCell (p := ⟨g, i, none⟩) (.inl rfl) v
/-- Lists of bytes that can be read, none of it in S. -/
def Parts (w : World) (A : Option Addr) (PS : List (List Int)) (S : Nat → Prop) : Prop := ∀ (i : Nat) (p : List Int), PS[i]? = some p → ∃ ad A0 c0, A = some ad ∧ w.cell? (ad.add i) = some (.slice A0 p.length c0) ∧ p.length ≤ c0 ∧ ¬ S ad.block ∧
  ∀ (j : Nat) (u : Value), (encs (Value.int .u8) p)[j]? = some u → ∃ ad0, A0 = some ad0 ∧ ¬ S ad0.block ∧ w.cell? (ad0.add j) = some u
theorem Parts.fr {w w' : World} {A : Option Addr} {PS : List (List Int)} {S S' : Nat → Prop} (h : Parts w A PS S) (hf : Fr S' w w') (hS : ∀ k, S' k → S k) : Parts w' A PS S := fun i p hp => by
  obtain ⟨ad, A0, c0, e, hc, hl, hn, hr⟩ := h i p hp
  refine ⟨ad, A0, c0, e, hf.cell hc (by rw [addr_block]; exact fun h => hn (hS _ h)), hl, hn, fun j u hu => ?_⟩
  obtain ⟨ad0, e0, hn0, hc0⟩ := hr j u hu
  exact ⟨ad0, e0, hn0, hf.cell hc0 (by rw [addr_block]; exact fun h => hn0 (hS _ h))⟩
theorem Parts.wide {w : World} {A : Option Addr} {PS : List (List Int)} {S : Nat → Prop} (h : Parts w A PS S) : Parts w A PS (fun k => S k ∨ w.heap.size ≤ k) := fun i p hp => by
  obtain ⟨ad, A0, c0, e, hc, hl, hn, hr⟩ := h i p hp
  have h1 := World.block_lt_of_cell? w _ hc
  rw [addr_block] at h1
  refine ⟨ad, A0, c0, e, hc, hl, fun h => h.elim hn (fun h2 => by omega), fun j u hu => ?_⟩
  obtain ⟨ad0, e0, hn0, hc0⟩ := hr j u hu
  have h2 := World.block_lt_of_cell? w _ hc0
  rw [addr_block] at h2
  exact ⟨ad0, e0, fun h => h.elim hn0 (fun h3 => by omega), hc0⟩

/-- A piece is fed to a hash. -/
def feed (s : List Int × List Int × Int) (p : List Int) : List Int × List Int × Int :=
  (run ((s.2.1 ++ p).length / 64) s.1 (s.2.1 ++ p), (s.2.1 ++ p).drop (64 * ((s.2.1 ++ p).length / 64)), IntKind.u64.wrap (s.2.2 + (p.length : Int)))

set_option maxHeartbeats 8000000 in
set_option maxRecDepth 100000 in
theorem roundX (u : Nat → Value) (g base : Nat) (rv : Value) (S rest : List Int) (n : Int) (A : Option Addr) (c k i : Nat) (hi : i < k) (hk : k ≤ 9223372036854775807) (p : List Int) (NS : Nat → Prop) (w0 w : World) (h : HashAt w g base rv S rest n) (hb : base ≤ w.heap.size) (hm : rest.length + p.length ≤ 140737488355328) (hp8 : p.length ≤ 9223372036854775807) (hf : Fr NS w0 w) (hgN : NS g) (hoN : ∀ j, rv.ownBlock = some j → NS j) (hnew : ∀ j, w.heap.size ≤ j → NS j)
    (ad : Addr) (A0 : Option Addr) (c0 : Nat) (hA : A = some ad) (hcell : w.cell? (ad.add i) = some (.slice A0 p.length c0)) (hc0 : p.length ≤ c0) (hadN : ¬ NS ad.block)
    (hr : ∀ (j : Nat) (u : Value), (encs (Value.int .u8) p)[j]? = some u → ∃ ad0, A0 = some ad0 ∧ ¬ NS ad0.block ∧ w.cell? (ad0.add j) = some u)
    (Q : Exit → Act → World → Prop) (hQ : ∀ a' w' rv', Fm 55 a' → sl a' 0 = .pointer (some ⟨g, 0, none⟩) → sl a' 6 = .slice A k c → sl a' 7 = .int .i64 (k : Int) → sl a' 8 = .int .i64 ((i : Int) + 1) → Fr NS w0 w' → (rv'.ownBlock = rv.ownBlock ∨ ∃ b, rv'.ownBlock = some b ∧ w.heap.size ≤ b) → w.heap.size ≤ w'.heap.size →
      HashAt w' g base rv' (feed (S, rest, n) p).1 (feed (S, rest, n) p).2.1 (feed (S, rest, n) p).2.2 → Q .normal a' w') :
    Code.wp Try.prog (bodyN Try.f65 0) Q ⟨#[.pointer (some ⟨g, 0, none⟩), u 1, u 2, u 3, u 4, u 5, .slice A k c, .int .i64 (k : Int), .int .i64 (i : Int), u 9, u 10, u 11, u 12, u 13, u 14, u 15, u 16, u 17, u 18, u 19, u 20, u 21, u 22, u 23, u 24, u 25, u 26, u 27, u 28, u 29, u 30, u 31, u 32, u 33, u 34, u 35, u 36, u 37, u 38, u 39, u 40, u 41, u 42, u 43, u 44, u 45, u 46, u 47, u 48, u 49, u 50, u 51, u 52, u 53, u 54], []⟩ w := by
  subst hA
  have k8 := (cells_hash h.len h.heap).1
  have k9 := (cells_hash h.len h.heap).2
  have z8 := frozenV h.heap 8
  have z9 := frozenV h.heap 9
  obtain ⟨Ar, cr, rfl, hcr⟩ := h.row.slice
  have HH := Aside0.mk (And.intro h (And.intro hf hr))
  clear h hf hr
  have b0 : decide ((i : Int) < (k : Int)) = true := decide_eq_true (by omega)
  have b1 : (0 : Int) ≤ (i : Int) := by omega
  have b2 : (i : Int) < (k : Int) := by omega
  conv => arg 2; whnf
  go_wp2_with (first | ((with_reducible refine gate_builtin (b := .append) (xs := #[.tmp 26, .tmp 27]) rfl ?_); at_builtin; refine Aside0.out ?_))
  refine ⟨?_⟩
  obtain ⟨n', en⟩ : ∃ n', IntKind.u64.wrap (n + (p.length : Int)) = n' := ⟨_, rfl⟩
  rw [en]
  obtain ⟨r, er⟩ : ∃ r, rest ++ p = r := ⟨_, rfl⟩
  have elen : r.length ≤ 140737488355328 := by rw [← er, List.length_append]; exact hm
  have efeed : feed (S, rest, n) p = (run (r.length / 64) S r, r.drop (64 * (r.length / 64)), n') := by simp only [feed, er, en]
  rw [efeed] at hQ
  have hS := HH.out.1.len
  have hg1 := set_hash9 hS HH.out.1.heap (.int .u64 n')
  have hf1 : Fr (fun k => k = g) w (w.setCell ⟨g, 9, none⟩ (.int .u64 n')) := Fr.set1 _ _ _ _
  have hq1 := HH.out.1.row.fr hf1 (fun k hk e => HH.out.1.ne (by rw [hk, e]))
  have hr1 : Rd (w.setCell ⟨g, 9, none⟩ (.int .u64 n')) A0 p := fun j u hu => by
    obtain ⟨ad0, e0, hn0, hc⟩ := HH.out.2.2 j u hu
    exact ⟨ad0, e0, hf1.cell hc (by rw [addr_block]; exact fun e => hn0 (by rw [e]; exact hgN))⟩
  have F1 := HH.out.2.1.trans hf1 (S := NS) (fun i h => .inl (by rw [h]; exact hgN))
  have lt1 : (w.setCell ⟨g, 9, none⟩ (.int .u64 n')).heap.size = w.heap.size := by simp [World.setCell]
  have hne := HH.out.1.ne
  generalize w.setCell ⟨g, 9, none⟩ (.int .u64 n') = w1 at *
  refine wpList_appq rfl (by rfl) base _ _ (by rfl) info5 (.slice Ar rest.length cr) rest (by rfl) hq1 A0 p.length c0 p (by rfl) rfl hr1 hm (by omega) ?_
  intro v2 w2 hq2 hf2 hat2
  rw [er] at hq2
  have hg2 := hf2.blk hg1 (fun e => hne e.symm)
  have lt2 := hf2.size
  have F2 := F1.trans hf2 (S := NS) (fun i h => .inl (hoN i h.symm))
  have hglt : g < w.heap.size := blk_lt HH.out.1.heap
  have hne2 : v2.ownBlock ≠ some g := by
    rcases hat2 with e | ⟨b, e, hb⟩
    · rw [e]; exact hne
    · rw [e]; intro e2; injection e2 with e2; omega
  have hat3 : v2.ownBlock = (Value.slice Ar rest.length cr).ownBlock ∨ ∃ b, v2.ownBlock = some b ∧ w.heap.size ≤ b := by
    rcases hat2 with e | ⟨b, e, hb⟩
    · exact .inl e
    · exact .inr ⟨b, e, by omega⟩
  obtain ⟨A2, c2, rfl, hc2⟩ := hq2.slice
  have y8 := (cells_hash hS hg2).1
  have x8 := frozenV hg2 8
  have HK := Aside0.mk (And.intro hg2 (And.intro hq2 (And.intro F2 (And.intro hat3 (And.intro hne2 hS)))))
  clear HH hg1 hf1 hq1 hr1 F1 hg2 hf2 hat2 hq2 F2 hat3 hne2 hne hS z8 z9 k8 k9 hcell
  go_wp2
  have hf3 : Fr (fun k => k = g) w2 (w2.setCell ⟨g, 8, none⟩ (.slice A2 r.length c2)) := Fr.set1 _ _ _ _
  have hg3 := set_hash8 HK.out.2.2.2.2.2 HK.out.1 (.slice A2 r.length c2)
  have hq3 := QB.fr HK.out.2.1 hf3 (fun k hk e => HK.out.2.2.2.2.1 (by rw [hk, e]))
  clear er efeed en hcr
  refine loopW (.slice (some ad) k c) (.int .i64 (k : Int)) (.int .i64 (i : Int)) g base (Value.slice A2 r.length c2).ownBlock S r n' elen (w2.setCell ⟨g, 8, none⟩ (.slice A2 r.length c2)) _ ?_ _ _ ⟨⟨rfl, rfl⟩, rfl, rfl, rfl, rfl, Fr.refl _ _, _, rfl, ⟨hg3, HK.out.2.2.2.2.2, hq3, HK.out.2.2.2.2.1⟩⟩
  intro a' w4 rv' hFm j0 j6 j7 j8 jf jo jH
  rw [fm55 hFm, j0, j6, j7, j8]
  have lt4 := jf.size
  have lt3 := hf3.size
  have F4 := (HK.out.2.2.1.trans hf3 (S := NS) (fun i h => .inl (by rw [h]; exact hgN))).trans jf (S := NS) (fun i h => .inl (by rw [h]; exact hgN))
  have HJ := Aside0.mk (And.intro F4 (And.intro jH (And.intro jo HK.out.2.2.2.1)))
  clear F4 jH jo HK hg3 hq3 hf3 hFm j0 j6 j7 j8 jf y8 x8
  go_wp2
  exact hQ _ _ rv' ⟨rfl, rfl⟩ rfl rfl rfl rfl HJ.out.1 (by rw [HJ.out.2.2.1]; exact HJ.out.2.2.2) (by omega) HJ.out.2.1

set_option maxHeartbeats 8000000 in
set_option maxRecDepth 100000 in
theorem exitX (u : Nat → Value) (k : Nat) (w : World) (Q : Exit → Act → World → Prop) (hQ : ∀ a', Fm 55 a' → Q (.exit 0) a' w) :
    Code.wp Try.prog (bodyN Try.f65 0) Q ⟨#[u 0, u 1, u 2, u 3, u 4, u 5, u 6, .int .i64 (k : Int), .int .i64 (k : Int), u 9, u 10, u 11, u 12, u 13, u 14, u 15, u 16, u 17, u 18, u 19, u 20, u 21, u 22, u 23, u 24, u 25, u 26, u 27, u 28, u 29, u 30, u 31, u 32, u 33, u 34, u 35, u 36, u 37, u 38, u 39, u 40, u 41, u 42, u 43, u 44, u 45, u 46, u 47, u 48, u 49, u 50, u 51, u 52, u 53, u 54], []⟩ w := by
  have c0 : decide ((k : Int) < (k : Int)) = false := by simp
  conv => arg 2; whnf
  go_wp2
  exact ⟨rfl, rfl⟩
/-- The blocks that a hash may write: its own, its row's, and new ones. -/
def Foot (g : Nat) (own : Option Nat) (N : Nat) (k : Nat) : Prop := (k = g ∨ some k = own) ∨ N ≤ k
theorem Fr.narrow {g : Nat} {own : Option Nat} {w w' : World} (h : Fr (Foot g own w.heap.size) w w') : Fr (fun k => k = g ∨ some k = own) w w' :=
  ⟨h.os, h.tape, h.output, h.size, fun k hk hn => h.block k hk (fun hN => hN.elim hn (fun h2 => by omega))⟩
theorem feed_len (s : List Int × List Int × Int) (p : List Int) : (feed s p).2.1.length < 64 := by
  simp only [feed, List.length_drop]
  omega
def JX (g base : Nat) (own : Option Nat) (A : Option Addr) (c : Nat) (PS : List (List Int)) (s : List Int × List Int × Int) (w0 : World) (t : Nat) (a : Act) (w : World) : Prop :=
  Fm 55 a ∧ sl a 0 = .pointer (some ⟨g, 0, none⟩) ∧ sl a 6 = .slice A PS.length c ∧ sl a 7 = .int .i64 (PS.length : Int) ∧ sl a 8 = .int .i64 (t : Int) ∧ Fr (Foot g own w0.heap.size) w0 w ∧ ((PS.take t).foldl feed s).2.1.length < 64 ∧
    ∃ rv : Value, (rv.ownBlock = own ∨ ∃ b, rv.ownBlock = some b ∧ w0.heap.size ≤ b) ∧ HashAt w g base rv ((PS.take t).foldl feed s).1 ((PS.take t).foldl feed s).2.1 ((PS.take t).foldl feed s).2.2
theorem loopX (g base : Nat) (own : Option Nat) (A : Option Addr) (c : Nat) (PS : List (List Int)) (hk : PS.length ≤ 9223372036854775807) (hlen : ∀ p ∈ PS, p.length + 64 ≤ 140737488355328) (s : List Int × List Int × Int) (w0 : World) (hb : base ≤ w0.heap.size)
    (hp : Parts w0 A PS (fun k => k = g ∨ some k = own))
    (Q : Exit → Act → World → Prop) (hQ : ∀ a' w' rv', Fm 55 a' → Fr (Foot g own w0.heap.size) w0 w' → (PS.foldl feed s).2.1.length < 64 → (rv'.ownBlock = own ∨ ∃ b, rv'.ownBlock = some b ∧ w0.heap.size ≤ b) → HashAt w' g base rv' (PS.foldl feed s).1 (PS.foldl feed s).2.1 (PS.foldl feed s).2.2 → Q (.exit 0) a' w')
    (a : Act) (w : World) (h : JX g base own A c PS s w0 0 a w) : (Code.loop (bodyN Try.f65 0)).wp Try.prog Q a w := by
  refine wp_loop_up PS.length (JX g base own A c PS s w0) h ?_
  rintro t a w ht ⟨hF, h0, h6, h7, h8, hf, hl, rv, ho, hH⟩
  have ha := fm55 hF
  by_cases h64 : t = PS.length
  · subst h64
    rw [h7, h8] at ha
    rw [ha]
    rw [List.take_length] at hH hl
    exact exitX (sl a) _ w _ fun a' b0 => hQ _ _ rv b0 hf hl ho hH
  · have hlt : t < PS.length := by omega
    obtain ⟨p, hpt⟩ : ∃ p, PS[t]? = some p := ⟨_, List.getElem?_eq_getElem hlt⟩
    have hpm : p ∈ PS := List.mem_of_getElem? hpt
    have hPw : Parts w A PS (Foot g own w0.heap.size) := (hp.wide).fr hf (fun k h => h)
    obtain ⟨ad, A0, c0, e, hc, hl0, hn, hr⟩ := hPw t p hpt
    have hsz := hf.size
    rw [h0, h6, h7, h8] at ha
    rw [ha]
    refine roundX (sl a) g base rv _ _ _ A c PS.length t hlt hk p (Foot g own w0.heap.size) w0 w hH (by omega) (by have := hlen p hpm; omega) (by have := hlen p hpm; omega) hf (.inl (.inl rfl)) (fun j hj => ?_) (fun j hj => .inr (by omega)) ad A0 c0 e hc hl0 hn hr _ ?_
    · rcases ho with ho | ⟨b, hb, hb2⟩
      · exact .inl (.inr (by rw [← hj, ho]))
      · rw [hb] at hj; injection hj with hj; exact .inr (by omega)
    · intro a' w' rv' b0 b1 b2 b3 b4 b5 b6 b7 b8
      have ef : (PS.take (t + 1)).foldl feed s = feed ((PS.take t).foldl feed s) p := by
        rw [List.take_succ_eq_append_getElem hlt, List.foldl_append]
        have : PS[t] = p := by rw [List.getElem?_eq_getElem hlt] at hpt; exact Option.some.inj hpt
        rw [this]; rfl
      refine ⟨hlt, b0, b1, b2, b3, by rw [b4]; congr 1, b5, by rw [ef]; exact feed_len _ _, rv', ?_, by rw [ef]; exact b8⟩
      rcases b6 with b6 | ⟨b, hb6, hb7⟩
      · rw [b6]; exact ho
      · exact .inr ⟨b, hb6, by omega⟩

set_option maxHeartbeats 8000000 in
set_option maxRecDepth 100000 in
/-- Write: the pieces are fed one by one. -/
theorem Write_calls (g base : Nat) (rv : Value) (S rest : List Int) (n : Int) (A : Option Addr) (c : Nat) (PS : List (List Int)) (hk : PS.length ≤ 9223372036854775807) (hlen : ∀ p ∈ PS, p.length + 64 ≤ 140737488355328) (w : World) (h : HashAt w g base rv S rest n) (hrest : rest.length < 64) (hb : base ≤ w.heap.size)
    (hp : Parts w A PS (fun k => k = g ∨ some k = rv.ownBlock)) :
    Calls Try.prog 65 #[.pointer (some ⟨g, 0, none⟩), .slice A PS.length c] w fun e w' => e = .returned (.tuple #[]) ∧ Fr (fun k => k = g ∨ some k = rv.ownBlock) w w' ∧ (PS.foldl feed (S, rest, n)).2.1.length < 64 ∧
      ∃ rv' : Value, (rv'.ownBlock = rv.ownBlock ∨ ∃ b, rv'.ownBlock = some b ∧ w.heap.size ≤ b) ∧ HashAt w' g base rv' (PS.foldl feed (S, rest, n)).1 (PS.foldl feed (S, rest, n)).2.1 (PS.foldl feed (S, rest, n)).2.2 := by
  have HH := Aside0.mk (And.intro h (And.intro hlen hp))
  clear h hlen hp
  go_enter Try.func65, Try.ntmps65
  go_wp2
  refine loopX g base rv.ownBlock A c PS hk HH.out.2.1 (S, rest, n) w hb HH.out.2.2 _ ?_ _ _ ⟨⟨rfl, rfl⟩, rfl, rfl, rfl, rfl, Fr.refl _ _, hrest, rv, .inl rfl, HH.out.1⟩
  intro a' w' rv' hFm jf jl jo jH
  rw [fm55 hFm]
  have HJ := Aside0.mk (And.intro jf (And.intro jl (And.intro jo jH)))
  clear jf jl jo jH hFm HH
  go_wp2
  refine bodyPost_end (results_none rfl _ _ _) rfl ?_
  exact ⟨rfl, Sha.Fr.narrow HJ.out.1, HJ.out.2.1, rv', HJ.out.2.2.1, HJ.out.2.2.2⟩
end Go.Proofs.Ytnabilhcmplhcaa.Sha

/-
  Sum: the loops.
-/
set_option linter.unusedVariables false
set_option linter.unusedSimpArgs false
namespace Go.Proofs.Ytnabilhcmplhcaa.Sha
open Go.RowKit Go.Proofs.YtnabilhcmplhcaaW.PrintWords Go.Proofs.YtnabilhcmplhcaaW.PrintLast Go.Proofs.YtnabilhcmplhcaaW.PrintMore Go.Proofs.Ytnabilhcmplhcaa.Q Go.Proofs.Ytnabilhcmplhcaa.Fr Go.Proofs.Ytnabilhcmplhcaa.Oct

set_option maxHeartbeats 8000000 in
set_option maxRecDepth 100000 in
theorem roundZ (u : Nat → Value) (v : Value) (xs : List Int) (base : Nat) (w0 w : World) (hb0 : w0.heap.size ≤ base) (hb : base ≤ w.heap.size) (hl : xs.length < 140737488355000) (hne : xs.length % 64 ≠ 56) (hq : QB w base v xs) (hf : Fr (fun _ => False) w0 w)
    (Q : Exit → Act → World → Prop) (hQ : ∀ a' w', Fm 72 a' → sl a' 0 = u 0 → sl a' 3 = u 3 → QB w' base (sl a' 4) (xs ++ [0]) → Fr (fun _ => False) w0 w' → base ≤ w'.heap.size → Q .normal a' w') :
    Code.wp Try.prog (bodyN Try.f66 0) Q ⟨#[u 0, u 1, u 2, u 3, v, u 5, u 6, u 7, u 8, u 9, u 10, u 11, u 12, u 13, u 14, u 15, u 16, u 17, u 18, u 19, u 20, u 21, u 22, u 23, u 24, u 25, u 26, u 27, u 28, u 29, u 30, u 31, u 32, u 33, u 34, u 35, u 36, u 37, u 38, u 39, u 40, u 41, u 42, u 43, u 44, u 45, u 46, u 47, u 48, u 49, u 50, u 51, u 52, u 53, u 54, u 55, u 56, u 57, u 58, u 59, u 60, u 61, u 62, u 63, u 64, u 65, u 66, u 67, u 68, u 69, u 70, u 71], []⟩ w := by
  have HQ := Aside0.mk hq
  have HF := Aside0.mk hf
  obtain ⟨A, c, rfl, _⟩ := hq.slice
  clear hq hf
  have c8 : ¬ ((xs.length : Int) % 64) = 56 := by omega
  have c8b0 : (((xs.length : Int) % 64) == 56) = false := beq_eq_false_iff_ne.mpr c8
  have c8b1 : (((xs.length : Int) % 64) != 56) = true := bne_iff_ne.mpr c8
  conv => arg 2; whnf
  go_wp2_with (first | ((with_reducible refine gate_builtin (b := .append) (xs := #[.tmp 26, .tmp 27]) rfl ?_); at_builtin; refine Aside0.out ?_))
  refine ⟨?_⟩
  refine wpList_appq rfl (by rfl) base _ _ (by rfl) info5 (.slice A xs.length c) xs (by rfl) (HQ.out.fr ((Fr.refl (fun _ => False) w).alloc _) (fun k hk h => h)) _ _ _ [0] (by rfl) (by rfl) (Rd.blk (heap_alloc_new _ _)) (by simp only [List.length_cons, List.length_nil]; omega) (by rw [World.size_alloc]; omega) ?_
  intro v1 w1 hq1 hf1 hat1
  have hF1 := (HF.out.alloc (.cells #[Value.int .u8 0] 5)).trans hf1 (S := fun _ => False) (fun k hk => .inr (by have := HQ.out.base k hk.symm; omega))
  have hs1 := hf1.size
  rw [World.size_alloc] at hs1
  clear hf1 HF HQ
  go_wp2
  exact hQ _ _ ⟨rfl, rfl⟩ rfl rfl hq1 hF1 (by omega)
set_option maxHeartbeats 8000000 in
set_option maxRecDepth 100000 in
theorem exitZ (u : Nat → Value) (A : Option Addr) (c k : Nat) (hk : k % 64 = 56) (w : World) (Q : Exit → Act → World → Prop) (hQ : ∀ a', Fm 72 a' → sl a' 0 = u 0 → sl a' 3 = u 3 → sl a' 4 = .slice A k c → Q (.exit 0) a' w) :
    Code.wp Try.prog (bodyN Try.f66 0) Q ⟨#[u 0, u 1, u 2, u 3, .slice A k c, u 5, u 6, u 7, u 8, u 9, u 10, u 11, u 12, u 13, u 14, u 15, u 16, u 17, u 18, u 19, u 20, u 21, u 22, u 23, u 24, u 25, u 26, u 27, u 28, u 29, u 30, u 31, u 32, u 33, u 34, u 35, u 36, u 37, u 38, u 39, u 40, u 41, u 42, u 43, u 44, u 45, u 46, u 47, u 48, u 49, u 50, u 51, u 52, u 53, u 54, u 55, u 56, u 57, u 58, u 59, u 60, u 61, u 62, u 63, u 64, u 65, u 66, u 67, u 68, u 69, u 70, u 71], []⟩ w := by
  have c8 : ((k : Int) % 64) = 56 := by omega
  have c8b0 : (((k : Int) % 64) == 56) = true := beq_iff_eq.mpr c8
  have c8b1 : (((k : Int) % 64) != 56) = false := bne_eq_false_iff_eq.mpr c8
  conv => arg 2; whnf
  go_wp2
  exact hQ _ ⟨rfl, rfl⟩ rfl rfl rfl
theorem loopZ (s0 s3 : Value) (xs : List Int) (z : Nat) (hz : (xs.length + z) % 64 = 56) (hz64 : z < 64) (hl : xs.length < 140737488354000) (base : Nat) (w0 : World) (hb0 : w0.heap.size ≤ base)
    (Q : Exit → Act → World → Prop) (hQ : ∀ a' w', Fm 72 a' → sl a' 0 = s0 → sl a' 3 = s3 → QB w' base (sl a' 4) (xs ++ List.replicate z 0) → Fr (fun _ => False) w0 w' → base ≤ w'.heap.size → Q (.exit 0) a' w')
    (a : Act) (w : World) (h : Fm 72 a ∧ sl a 0 = s0 ∧ sl a 3 = s3 ∧ QB w base (sl a 4) xs ∧ Fr (fun _ => False) w0 w ∧ base ≤ w.heap.size) : (Code.loop (bodyN Try.f66 0)).wp Try.prog Q a w := by
  refine wp_loop_up z (fun t a w => Fm 72 a ∧ sl a 0 = s0 ∧ sl a 3 = s3 ∧ QB w base (sl a 4) (xs ++ List.replicate t 0) ∧ Fr (fun _ => False) w0 w ∧ base ≤ w.heap.size) (by rw [List.replicate_zero, List.append_nil]; exact h) ?_
  rintro t a w ht ⟨hF, h0, h3, hq, hf, hb⟩
  have ha := fm72 hF
  have hlen : (xs ++ List.replicate t (0 : Int)).length = xs.length + t := by rw [List.length_append, List.length_replicate]
  by_cases h64 : t = z
  · subst h64
    obtain ⟨A, c, e, hc⟩ := hq.slice
    rw [e] at ha
    rw [ha]
    exact exitZ (sl a) A c _ (by rw [hlen]; exact hz) w _ fun a' b0 b1 b2 b3 => hQ _ _ b0 (b1.trans h0) (b2.trans h3) (by rw [b3, ← e]; exact hq) hf hb
  · rw [ha]
    refine roundZ (sl a) (sl a 4) _ base w0 w hb0 hb (by omega) (by rw [hlen]; omega) hq hf _ ?_
    intro a' w' b0 b1 b2 b3 b4 b5
    refine ⟨by omega, b0, b1.trans h0, b2.trans h3, ?_, b4, b5⟩
    rw [List.append_assoc, show List.replicate t (0 : Int) ++ [0] = List.replicate (t + 1) 0 from (List.replicate_succ' ..).symm] at b3
    exact b3

/-! ### eight bytes -/
def byteAt8 (n : Int) (i : Nat) : Int := n / 2 ^ (8 * i) % 256
theorem be8_at (n : Int) : be8 n = [byteAt8 n 7, byteAt8 n 6, byteAt8 n 5, byteAt8 n 4, byteAt8 n 3, byteAt8 n 2, byteAt8 n 1, byteAt8 n 0] := by
  simp [be8, byteAt8]
set_option maxHeartbeats 8000000 in
set_option maxRecDepth 100000 in
theorem roundL (u : Nat → Value) (g : Nat) (v : Value) (n : Int) (i : Nat) (hi : i = 7 ∨ i = 6 ∨ i = 5 ∨ i = 4 ∨ i = 3 ∨ i = 2 ∨ i = 1 ∨ i = 0) (hn0 : 0 ≤ n) (hn : n < 140737488355328) (xs : List Int) (base : Nat) (w0 w : World) (hcell : w.cell? ⟨g, 9, none⟩ = some (.int .u64 n)) (hb0 : w0.heap.size ≤ base) (hb : base ≤ w.heap.size) (hl : xs.length < 140737488355000) (hq : QB w base v xs) (hf : Fr (fun _ => False) w0 w)
    (Q : Exit → Act → World → Prop) (hQ : ∀ a' w', Fm 72 a' → sl a' 0 = .pointer (some ⟨g, 0, none⟩) → sl a' 3 = u 3 → sl a' 5 = .int .i64 (8 * (i : Int) - 8) → QB w' base (sl a' 4) (xs ++ [byteAt8 (n * 8) i]) → Fr (fun _ => False) w0 w' → base ≤ w'.heap.size → Q .normal a' w') :
    Code.wp Try.prog (bodyN Try.f66 1) Q ⟨#[.pointer (some ⟨g, 0, none⟩), u 1, u 2, u 3, v, .int .i64 (8 * (i : Int)), u 6, u 7, u 8, u 9, u 10, u 11, u 12, u 13, u 14, u 15, u 16, u 17, u 18, u 19, u 20, u 21, u 22, u 23, u 24, u 25, u 26, u 27, u 28, u 29, u 30, u 31, u 32, u 33, u 34, u 35, u 36, u 37, u 38, u 39, u 40, u 41, u 42, u 43, u 44, u 45, u 46, u 47, u 48, u 49, u 50, u 51, u 52, u 53, u 54, u 55, u 56, u 57, u 58, u 59, u 60, u 61, u 62, u 63, u 64, u 65, u 66, u 67, u 68, u 69, u 70, u 71], []⟩ w := by
  have HQ := Aside0.mk hq
  have HF := Aside0.mk hf
  obtain ⟨A, c, rfl, _⟩ := hq.slice
  clear hq hf
  rcases hi with rfl | rfl | rfl | rfl | rfl | rfl | rfl | rfl
  · have hbt : byteAt8 (n * 8) 7 = 8 * n / 72057594037927936 := by simp [byteAt8] <;> omega
    rw [hbt] at hQ
    clear hbt
    conv => arg 2; whnf
    go_wp2_with (first | ((with_reducible refine gate_builtin (b := .append) (xs := #[.tmp 33, .tmp 42]) rfl ?_); at_builtin; refine Aside0.out ?_))
    refine ⟨?_⟩
    refine wpList_appq rfl (by rfl) base _ _ (by rfl) info5 (.slice A xs.length c) xs (by rfl) (HQ.out.fr ((Fr.refl (fun _ => False) w).alloc _) (fun k hk h => h)) _ _ _ [8 * n / 72057594037927936] (by rfl) (by rfl) (Rd.blk (heap_alloc_new _ _)) (by simp only [List.length_cons, List.length_nil]; omega) (by rw [World.size_alloc]; omega) ?_
    intro v1 w1 hq1 hf1 hat1
    have hF1 := (HF.out.alloc (.cells #[Value.int .u8 (8 * n / 72057594037927936)] 5)).trans hf1 (S := fun _ => False) (fun k hk => .inr (by have := HQ.out.base k hk.symm; omega))
    have hs1 := hf1.size
    rw [World.size_alloc] at hs1
    clear hf1 HF HQ hcell
    go_wp2
    exact hQ _ _ ⟨rfl, rfl⟩ rfl rfl rfl hq1 hF1 (by omega)
  · have hbt : byteAt8 (n * 8) 6 = 8 * n / 281474976710656 := by simp [byteAt8] <;> omega
    rw [hbt] at hQ
    clear hbt
    conv => arg 2; whnf
    go_wp2_with (first | ((with_reducible refine gate_builtin (b := .append) (xs := #[.tmp 33, .tmp 42]) rfl ?_); at_builtin; refine Aside0.out ?_))
    refine ⟨?_⟩
    refine wpList_appq rfl (by rfl) base _ _ (by rfl) info5 (.slice A xs.length c) xs (by rfl) (HQ.out.fr ((Fr.refl (fun _ => False) w).alloc _) (fun k hk h => h)) _ _ _ [8 * n / 281474976710656] (by rfl) (by rfl) (Rd.blk (heap_alloc_new _ _)) (by simp only [List.length_cons, List.length_nil]; omega) (by rw [World.size_alloc]; omega) ?_
    intro v1 w1 hq1 hf1 hat1
    have hF1 := (HF.out.alloc (.cells #[Value.int .u8 (8 * n / 281474976710656)] 5)).trans hf1 (S := fun _ => False) (fun k hk => .inr (by have := HQ.out.base k hk.symm; omega))
    have hs1 := hf1.size
    rw [World.size_alloc] at hs1
    clear hf1 HF HQ hcell
    go_wp2
    exact hQ _ _ ⟨rfl, rfl⟩ rfl rfl rfl hq1 hF1 (by omega)
  · have hbt : byteAt8 (n * 8) 5 = 8 * n / 1099511627776 % 256 := by simp [byteAt8] <;> omega
    rw [hbt] at hQ
    clear hbt
    conv => arg 2; whnf
    go_wp2_with (first | ((with_reducible refine gate_builtin (b := .append) (xs := #[.tmp 33, .tmp 42]) rfl ?_); at_builtin; refine Aside0.out ?_))
    refine ⟨?_⟩
    refine wpList_appq rfl (by rfl) base _ _ (by rfl) info5 (.slice A xs.length c) xs (by rfl) (HQ.out.fr ((Fr.refl (fun _ => False) w).alloc _) (fun k hk h => h)) _ _ _ [8 * n / 1099511627776 % 256] (by rfl) (by rfl) (Rd.blk (heap_alloc_new _ _)) (by simp only [List.length_cons, List.length_nil]; omega) (by rw [World.size_alloc]; omega) ?_
    intro v1 w1 hq1 hf1 hat1
    have hF1 := (HF.out.alloc (.cells #[Value.int .u8 (8 * n / 1099511627776 % 256)] 5)).trans hf1 (S := fun _ => False) (fun k hk => .inr (by have := HQ.out.base k hk.symm; omega))
    have hs1 := hf1.size
    rw [World.size_alloc] at hs1
    clear hf1 HF HQ hcell
    go_wp2
    exact hQ _ _ ⟨rfl, rfl⟩ rfl rfl rfl hq1 hF1 (by omega)
  · have hbt : byteAt8 (n * 8) 4 = 8 * n / 4294967296 % 256 := by simp [byteAt8] <;> omega
    rw [hbt] at hQ
    clear hbt
    conv => arg 2; whnf
    go_wp2_with (first | ((with_reducible refine gate_builtin (b := .append) (xs := #[.tmp 33, .tmp 42]) rfl ?_); at_builtin; refine Aside0.out ?_))
    refine ⟨?_⟩
    refine wpList_appq rfl (by rfl) base _ _ (by rfl) info5 (.slice A xs.length c) xs (by rfl) (HQ.out.fr ((Fr.refl (fun _ => False) w).alloc _) (fun k hk h => h)) _ _ _ [8 * n / 4294967296 % 256] (by rfl) (by rfl) (Rd.blk (heap_alloc_new _ _)) (by simp only [List.length_cons, List.length_nil]; omega) (by rw [World.size_alloc]; omega) ?_
    intro v1 w1 hq1 hf1 hat1
    have hF1 := (HF.out.alloc (.cells #[Value.int .u8 (8 * n / 4294967296 % 256)] 5)).trans hf1 (S := fun _ => False) (fun k hk => .inr (by have := HQ.out.base k hk.symm; omega))
    have hs1 := hf1.size
    rw [World.size_alloc] at hs1
    clear hf1 HF HQ hcell
    go_wp2
    exact hQ _ _ ⟨rfl, rfl⟩ rfl rfl rfl hq1 hF1 (by omega)
  · have hbt : byteAt8 (n * 8) 3 = 8 * n / 16777216 % 256 := by simp [byteAt8] <;> omega
    rw [hbt] at hQ
    clear hbt
    conv => arg 2; whnf
    go_wp2_with (first | ((with_reducible refine gate_builtin (b := .append) (xs := #[.tmp 33, .tmp 42]) rfl ?_); at_builtin; refine Aside0.out ?_))
    refine ⟨?_⟩
    refine wpList_appq rfl (by rfl) base _ _ (by rfl) info5 (.slice A xs.length c) xs (by rfl) (HQ.out.fr ((Fr.refl (fun _ => False) w).alloc _) (fun k hk h => h)) _ _ _ [8 * n / 16777216 % 256] (by rfl) (by rfl) (Rd.blk (heap_alloc_new _ _)) (by simp only [List.length_cons, List.length_nil]; omega) (by rw [World.size_alloc]; omega) ?_
    intro v1 w1 hq1 hf1 hat1
    have hF1 := (HF.out.alloc (.cells #[Value.int .u8 (8 * n / 16777216 % 256)] 5)).trans hf1 (S := fun _ => False) (fun k hk => .inr (by have := HQ.out.base k hk.symm; omega))
    have hs1 := hf1.size
    rw [World.size_alloc] at hs1
    clear hf1 HF HQ hcell
    go_wp2
    exact hQ _ _ ⟨rfl, rfl⟩ rfl rfl rfl hq1 hF1 (by omega)
  · have hbt : byteAt8 (n * 8) 2 = 8 * n / 65536 % 256 := by simp [byteAt8] <;> omega
    rw [hbt] at hQ
    clear hbt
    conv => arg 2; whnf
    go_wp2_with (first | ((with_reducible refine gate_builtin (b := .append) (xs := #[.tmp 33, .tmp 42]) rfl ?_); at_builtin; refine Aside0.out ?_))
    refine ⟨?_⟩
    refine wpList_appq rfl (by rfl) base _ _ (by rfl) info5 (.slice A xs.length c) xs (by rfl) (HQ.out.fr ((Fr.refl (fun _ => False) w).alloc _) (fun k hk h => h)) _ _ _ [8 * n / 65536 % 256] (by rfl) (by rfl) (Rd.blk (heap_alloc_new _ _)) (by simp only [List.length_cons, List.length_nil]; omega) (by rw [World.size_alloc]; omega) ?_
    intro v1 w1 hq1 hf1 hat1
    have hF1 := (HF.out.alloc (.cells #[Value.int .u8 (8 * n / 65536 % 256)] 5)).trans hf1 (S := fun _ => False) (fun k hk => .inr (by have := HQ.out.base k hk.symm; omega))
    have hs1 := hf1.size
    rw [World.size_alloc] at hs1
    clear hf1 HF HQ hcell
    go_wp2
    exact hQ _ _ ⟨rfl, rfl⟩ rfl rfl rfl hq1 hF1 (by omega)
  · have hbt : byteAt8 (n * 8) 1 = 8 * n / 256 % 256 := by simp [byteAt8] <;> omega
    rw [hbt] at hQ
    clear hbt
    conv => arg 2; whnf
    go_wp2_with (first | ((with_reducible refine gate_builtin (b := .append) (xs := #[.tmp 33, .tmp 42]) rfl ?_); at_builtin; refine Aside0.out ?_))
    refine ⟨?_⟩
    refine wpList_appq rfl (by rfl) base _ _ (by rfl) info5 (.slice A xs.length c) xs (by rfl) (HQ.out.fr ((Fr.refl (fun _ => False) w).alloc _) (fun k hk h => h)) _ _ _ [8 * n / 256 % 256] (by rfl) (by rfl) (Rd.blk (heap_alloc_new _ _)) (by simp only [List.length_cons, List.length_nil]; omega) (by rw [World.size_alloc]; omega) ?_
    intro v1 w1 hq1 hf1 hat1
    have hF1 := (HF.out.alloc (.cells #[Value.int .u8 (8 * n / 256 % 256)] 5)).trans hf1 (S := fun _ => False) (fun k hk => .inr (by have := HQ.out.base k hk.symm; omega))
    have hs1 := hf1.size
    rw [World.size_alloc] at hs1
    clear hf1 HF HQ hcell
    go_wp2
    exact hQ _ _ ⟨rfl, rfl⟩ rfl rfl rfl hq1 hF1 (by omega)
  · have hbt : byteAt8 (n * 8) 0 = 8 * n % 256 := by simp [byteAt8] <;> omega
    rw [hbt] at hQ
    clear hbt
    conv => arg 2; whnf
    go_wp2_with (first | ((with_reducible refine gate_builtin (b := .append) (xs := #[.tmp 33, .tmp 42]) rfl ?_); at_builtin; refine Aside0.out ?_))
    refine ⟨?_⟩
    refine wpList_appq rfl (by rfl) base _ _ (by rfl) info5 (.slice A xs.length c) xs (by rfl) (HQ.out.fr ((Fr.refl (fun _ => False) w).alloc _) (fun k hk h => h)) _ _ _ [8 * n % 256] (by rfl) (by rfl) (Rd.blk (heap_alloc_new _ _)) (by simp only [List.length_cons, List.length_nil]; omega) (by rw [World.size_alloc]; omega) ?_
    intro v1 w1 hq1 hf1 hat1
    have hF1 := (HF.out.alloc (.cells #[Value.int .u8 (8 * n % 256)] 5)).trans hf1 (S := fun _ => False) (fun k hk => .inr (by have := HQ.out.base k hk.symm; omega))
    have hs1 := hf1.size
    rw [World.size_alloc] at hs1
    clear hf1 HF HQ hcell
    go_wp2
    exact hQ _ _ ⟨rfl, rfl⟩ rfl rfl rfl hq1 hF1 (by omega)
set_option maxHeartbeats 8000000 in
set_option maxRecDepth 100000 in
theorem exitL (u : Nat → Value) (w : World) (Q : Exit → Act → World → Prop) (hQ : ∀ a', Fm 72 a' → sl a' 0 = u 0 → sl a' 3 = u 3 → sl a' 4 = u 4 → Q (.exit 2) a' w) :
    Code.wp Try.prog (bodyN Try.f66 1) Q ⟨#[u 0, u 1, u 2, u 3, u 4, .int .i64 (-8), u 6, u 7, u 8, u 9, u 10, u 11, u 12, u 13, u 14, u 15, u 16, u 17, u 18, u 19, u 20, u 21, u 22, u 23, u 24, u 25, u 26, u 27, u 28, u 29, u 30, u 31, u 32, u 33, u 34, u 35, u 36, u 37, u 38, u 39, u 40, u 41, u 42, u 43, u 44, u 45, u 46, u 47, u 48, u 49, u 50, u 51, u 52, u 53, u 54, u 55, u 56, u 57, u 58, u 59, u 60, u 61, u 62, u 63, u 64, u 65, u 66, u 67, u 68, u 69, u 70, u 71], []⟩ w := by
  conv => arg 2; whnf
  go_wp2
  exact hQ _ ⟨rfl, rfl⟩ rfl rfl rfl
theorem loopL (s3 : Value) (g : Nat) (n : Int) (hn0 : 0 ≤ n) (hn : n < 140737488355328) (xs : List Int) (hl : xs.length < 140737488354500) (base : Nat) (w0 : World) (hcell : w0.cell? ⟨g, 9, none⟩ = some (.int .u64 n)) (hb0 : w0.heap.size ≤ base)
    (Q : Exit → Act → World → Prop) (hQ : ∀ a' w', Fm 72 a' → sl a' 3 = s3 → QB w' base (sl a' 4) (xs ++ be8 (n * 8)) → Fr (fun _ => False) w0 w' → base ≤ w'.heap.size → Q (.exit 2) a' w')
    (a : Act) (w : World) (h : Fm 72 a ∧ sl a 0 = .pointer (some ⟨g, 0, none⟩) ∧ sl a 3 = s3 ∧ sl a 5 = .int .i64 56 ∧ QB w base (sl a 4) xs ∧ Fr (fun _ => False) w0 w ∧ base ≤ w.heap.size) : (Code.loop (bodyN Try.f66 1)).wp Try.prog Q a w := by
  refine wp_loop_up 8 (fun t a w => Fm 72 a ∧ sl a 0 = .pointer (some ⟨g, 0, none⟩) ∧ sl a 3 = s3 ∧ sl a 5 = .int .i64 (56 - 8 * (t : Int)) ∧ QB w base (sl a 4) (xs ++ (be8 (n * 8)).take t) ∧ Fr (fun _ => False) w0 w ∧ base ≤ w.heap.size) (by rw [List.take_zero, List.append_nil]; exact h) ?_
  rintro t a w ht ⟨hF, h0, h3, h5, hq, hf, hb⟩
  have ha := fm72 hF
  by_cases h64 : t = 8
  · subst h64
    rw [h5] at ha
    rw [ha]
    exact exitL (sl a) w _ fun a' b0 b1 b2 b3 => hQ _ _ b0 (b2.trans h3) (by rw [b3]; exact hq) hf hb
  · have e1 : (56 - 8 * (t : Int)) = 8 * ((7 - t : Nat) : Int) := by omega
    rw [h0, h5, e1] at ha
    rw [ha]
    have hx : (xs ++ (be8 (n * 8)).take t) ++ [byteAt8 (n * 8) (7 - t)] = xs ++ (be8 (n * 8)).take (t + 1) := by
      rw [be8_at, List.append_assoc]
      congr 1
      rcases (show t = 0 ∨ t = 1 ∨ t = 2 ∨ t = 3 ∨ t = 4 ∨ t = 5 ∨ t = 6 ∨ t = 7 by omega) with rfl|rfl|rfl|rfl|rfl|rfl|rfl|rfl <;> rfl
    have hlt : (xs ++ (be8 (n * 8)).take t).length < 140737488355000 := by rw [List.length_append, List.length_take, be8]; simp only [List.length_cons, List.length_nil]; omega
    refine roundL (sl a) g (sl a 4) n (7 - t) (by omega) hn0 hn _ base w0 w (hf.cell hcell (fun h => h)) hb0 hb hlt hq hf _ ?_
    intro a' w' b0 b1 b2 b3 b4 b5 b6
    refine ⟨by omega, b0, b1, b2.trans h3, by rw [b3]; congr 1; omega, ?_, b5, b6⟩
    rw [← hx]
    exact b4
end Go.Proofs.Ytnabilhcmplhcaa.Sha
end
section
/-
  Hashes, whole; rows of bytes of one's own.
-/
set_option linter.unusedVariables false
set_option linter.unusedSimpArgs false
namespace Go.Proofs.Ytnabilhcmplhcaa.Sha
open Go.RowKit Go.Proofs.YtnabilhcmplhcaaW.PrintWords Go.Proofs.YtnabilhcmplhcaaW.PrintLast Go.Proofs.YtnabilhcmplhcaaW.PrintMore Go.Proofs.Ytnabilhcmplhcaa.Q Go.Proofs.Ytnabilhcmplhcaa.Fr Go.Proofs.Ytnabilhcmplhcaa.Oct

set_option maxHeartbeats 8000000 in
set_option maxRecDepth 100000 in
theorem roundB3 (u : Nat → Value) (gs base : Nat) (v : Value) (S rest : List Int) (hS : S.length = 8) (w0 w : World) (hs : w.heap[gs]? = some (.cells (encs (Value.int .u32) S).toArray 125 (0, 0))) (hq : QB w base v rest) (hne : v.ownBlock ≠ some gs) (h64 : 64 ≤ rest.length) (hm : rest.length ≤ 140737488355328) (hf : Fr (fun k => k = gs) w0 w)
    (Q : Exit → Act → World → Prop) (hQ : ∀ a' w' v', Fm 72 a' → sl a' 3 = .pointer (some ⟨gs, 0, none⟩) → sl a' 4 = v' → Fr (fun k => k = gs) w0 w' → v'.ownBlock = v.ownBlock → QB w' base v' (rest.drop 64) → w'.heap[gs]? = some (.cells (encs (Value.int .u32) (compress S (rest.take 64))).toArray 125 (0, 0)) → Q .normal a' w') :
    Code.wp Try.prog (bodyN Try.f66 2) Q ⟨#[u 0, u 1, u 2, .pointer (some ⟨gs, 0, none⟩), v, u 5, u 6, u 7, u 8, u 9, u 10, u 11, u 12, u 13, u 14, u 15, u 16, u 17, u 18, u 19, u 20, u 21, u 22, u 23, u 24, u 25, u 26, u 27, u 28, u 29, u 30, u 31, u 32, u 33, u 34, u 35, u 36, u 37, u 38, u 39, u 40, u 41, u 42, u 43, u 44, u 45, u 46, u 47, u 48, u 49, u 50, u 51, u 52, u 53, u 54, u 55, u 56, u 57, u 58, u 59, u 60, u 61, u 62, u 63, u 64, u 65, u 66, u 67, u 68, u 69, u 70, u 71], []⟩ w := by
  obtain ⟨A, c, rfl, hc⟩ := hq.slice
  obtain ⟨x, r', hr'⟩ := List.exists_cons_of_ne_nil (show rest ≠ [] by intro e; rw [e] at h64; simp at h64)
  obtain ⟨ad, rfl, _⟩ := hq.rd 0 (.int .u8 x) (by rw [hr']; rfl)
  clear hr'
  obtain ⟨i0, hi0, _, hsz, _⟩ := info_parts info5
  have hcut := cut_to (P := Try.prog) 29 5 .i64 Try.underlying29 hi0 (some ad) rest.length c 64 (by decide) (by omega) hc
  rw [show (64 : Int).toNat = 64 from rfl] at hcut
  have hcut2 := cut_from (P := Try.prog) 29 5 .i64 Try.underlying29 hi0 1 hsz (some ad) rest.length c 64 (by decide) (by omega)
  rw [show (64 : Int).toNat = 64 from rfl, Nat.mul_one] at hcut2
  have hown : (Value.slice (if c = 64 then some ad else (some ad).map (·.add 64)) (rest.length - 64) (c - 64)).ownBlock = (Value.slice (some ad) rest.length c).ownBlock := own_cut _ _ _ _ _ _
  have hdrop : ∀ w', QB w' base (.slice (some ad) rest.length c) rest → QB w' base (Value.slice (if c = 64 then some ad else (some ad).map (·.add 64)) (rest.length - 64) (c - 64)) (rest.drop 64) := fun w' hq => hq.drop 64 h64
  obtain ⟨A2, hv2⟩ : ∃ v, (if c = 64 then some ad else (some ad).map (·.add 64)) = v := ⟨_, rfl⟩
  rw [hv2] at hcut2 hown hdrop
  clear hv2
  have HH := Aside0.mk (And.intro hs (And.intro hq (And.intro hf (And.intro hown (And.intro hdrop hne)))))
  clear hs hq hf hown hdrop hne
  have c0 : decide (0 < (rest.length : Int)) = true := decide_eq_true (by omega)
  conv => arg 2; whnf
  go_wp2_with (fail)
  refine (block_calls gs S hS [] 125 ad c (rest.take 64) w (by rw [List.append_nil]; exact HH.out.1) (fun i i0 i1 => ?_)).mono ?_
  · have := (HH.out.2.1.rd.mid 0 64).cells i i0 (by rw [List.length_take, List.drop_zero]; omega)
    rw [List.drop_zero] at this
    exact this
  rintro e w4 ⟨rfl, hf4, hg4⟩
  rw [List.append_nil] at hg4
  have hq4 : QB w4 base (.slice (some ad) rest.length c) rest := HH.out.2.1.fr hf4 (fun k hk e => HH.out.2.2.2.2.2 (by rw [hk, e]))
  have HN := Aside0.mk (And.intro hg4 (And.intro (HH.out.2.2.2.2.1 w4 hq4) (And.intro (HH.out.2.2.1.trans hf4 (fun i h => .inl h)) HH.out.2.2.2.1)))
  clear HH hf4 hg4 hq4 hcut
  go_wp2
  exact hQ _ _ (.slice A2 (rest.length - 64) (c - 64)) ⟨rfl, rfl⟩ rfl rfl HN.out.2.2.1 HN.out.2.2.2 HN.out.2.1 HN.out.1
set_option maxHeartbeats 8000000 in
set_option maxRecDepth 100000 in
theorem exitB3 (u : Nat → Value) (A : Option Addr) (c : Nat) (w : World) (Q : Exit → Act → World → Prop) (hQ : ∀ a', Fm 72 a' → sl a' 3 = u 3 → Q (.exit 4) a' w) :
    Code.wp Try.prog (bodyN Try.f66 2) Q ⟨#[u 0, u 1, u 2, u 3, .slice A 0 c, u 5, u 6, u 7, u 8, u 9, u 10, u 11, u 12, u 13, u 14, u 15, u 16, u 17, u 18, u 19, u 20, u 21, u 22, u 23, u 24, u 25, u 26, u 27, u 28, u 29, u 30, u 31, u 32, u 33, u 34, u 35, u 36, u 37, u 38, u 39, u 40, u 41, u 42, u 43, u 44, u 45, u 46, u 47, u 48, u 49, u 50, u 51, u 52, u 53, u 54, u 55, u 56, u 57, u 58, u 59, u 60, u 61, u 62, u 63, u 64, u 65, u 66, u 67, u 68, u 69, u 70, u 71], []⟩ w := by
  conv => arg 2; whnf
  go_wp2
  exact hQ _ ⟨rfl, rfl⟩ rfl
theorem loopB3 (gs base : Nat) (S m : List Int) (hS : S.length = 8) (N : Nat) (hN : m.length = 64 * N) (hm : m.length ≤ 140737488355328) (w0 : World)
    (Q : Exit → Act → World → Prop) (hQ : ∀ a' w', Fm 72 a' → sl a' 3 = .pointer (some ⟨gs, 0, none⟩) → Fr (fun k => k = gs) w0 w' → w'.heap[gs]? = some (.cells (encs (Value.int .u32) (run N S m)).toArray 125 (0, 0)) → Q (.exit 4) a' w')
    (a : Act) (w : World) (h : Fm 72 a ∧ sl a 3 = .pointer (some ⟨gs, 0, none⟩) ∧ Fr (fun k => k = gs) w0 w ∧ (sl a 4).ownBlock ≠ some gs ∧ QB w base (sl a 4) m ∧ w.heap[gs]? = some (.cells (encs (Value.int .u32) S).toArray 125 (0, 0))) : (Code.loop (bodyN Try.f66 2)).wp Try.prog Q a w := by
  refine wp_loop_up N (fun t a w => Fm 72 a ∧ sl a 3 = .pointer (some ⟨gs, 0, none⟩) ∧ Fr (fun k => k = gs) w0 w ∧ (sl a 4).ownBlock ≠ some gs ∧ QB w base (sl a 4) (m.drop (64 * t)) ∧ w.heap[gs]? = some (.cells (encs (Value.int .u32) (run t S m)).toArray 125 (0, 0))) h ?_
  rintro t a w ht ⟨hF, h3, hf, hne, hq, hs⟩
  have ha := fm72 hF
  by_cases h64 : t = N
  · subst h64
    obtain ⟨A, c, e, hc⟩ := hq.slice
    rw [List.length_drop, hN, Nat.sub_self] at e
    rw [e] at ha
    rw [ha]
    exact exitB3 (sl a) A c w _ fun a' b0 b1 => hQ _ _ b0 (b1.trans h3) hf hs
  · rw [h3] at ha
    rw [ha]
    refine roundB3 (sl a) gs base (sl a 4) _ (m.drop (64 * t)) ((run_len t S m).trans hS) w0 w hs hq hne (by rw [List.length_drop]; omega) (by rw [List.length_drop]; omega) hf _ ?_
    intro a' w' v' b0 b1 b2 b3 b4 b5 b6
    refine ⟨by omega, b0, b1, b3, by rw [b2, b4]; exact hne, ?_, ?_⟩
    · rw [b2, show 64 * (t + 1) = 64 * t + 64 by omega, ← List.drop_drop]
      exact b5
    · rw [run_succ]
      exact b6

/-! ### the words written out -/
theorem idx8s (S : List Int) (hS : S.length = 8) (t : Nat) (ht : t < 8) (w : World) : (Instr.index 125 (.agg (encs (Value.int .u32) S).toArray) (.int .i64 (t : Int))).run Try.prog w = .ok (.int .u32 (S.getD t 0)) w := by
  obtain ⟨va, vb, vc, vd, ve, vf, vg, vh, rfl⟩ := eight hS
  rcases (show t = 0 ∨ t = 1 ∨ t = 2 ∨ t = 3 ∨ t = 4 ∨ t = 5 ∨ t = 6 ∨ t = 7 by omega) with rfl|rfl|rfl|rfl|rfl|rfl|rfl|rfl <;> kernel_rfl
set_option maxHeartbeats 8000000 in
set_option maxRecDepth 100000 in
theorem roundO4 (u : Nat → Value) (v : Value) (S : List Int) (hS : S.length = 8) (t : Nat) (ht : t < 8) (xs : List Int) (base : Nat) (w0 w : World) (hb0 : w0.heap.size ≤ base) (hb : base ≤ w.heap.size) (hl : xs.length < 900) (hq : OB w base v xs) (hf : Fr (fun _ => False) w0 w)
    (Q : Exit → Act → World → Prop) (hQ : ∀ a' w', Fm 72 a' → sl a' 52 = .agg (encs (Value.int .u32) S).toArray → sl a' 53 = .int .i64 ((t : Int) + 1) → OB w' base (sl a' 6) (xs ++ bytes4 (S.getD t 0)) → Fr (fun _ => False) w0 w' → base ≤ w'.heap.size → Q .normal a' w') :
    Code.wp Try.prog (bodyN Try.f66 3) Q ⟨#[u 0, u 1, u 2, u 3, u 4, u 5, v, u 7, u 8, u 9, u 10, u 11, u 12, u 13, u 14, u 15, u 16, u 17, u 18, u 19, u 20, u 21, u 22, u 23, u 24, u 25, u 26, u 27, u 28, u 29, u 30, u 31, u 32, u 33, u 34, u 35, u 36, u 37, u 38, u 39, u 40, u 41, u 42, u 43, u 44, u 45, u 46, u 47, u 48, u 49, u 50, u 51, .agg (encs (Value.int .u32) S).toArray, .int .i64 (t : Int), u 54, u 55, u 56, u 57, u 58, u 59, u 60, u 61, u 62, u 63, u 64, u 65, u 66, u 67, u 68, u 69, u 70, u 71], []⟩ w := by
  have hix := idx8s S hS t ht
  obtain ⟨c1, e1⟩ : ∃ cs, (encs (Value.int .u32) S).toArray = cs := ⟨_, rfl⟩
  rw [e1] at hix hQ
  rw [e1]
  obtain ⟨x, hx⟩ : ∃ x, S.getD t 0 = x := ⟨_, rfl⟩
  rw [hx] at hix hQ
  have HQ := Aside0.mk hq
  have HF := Aside0.mk hf
  obtain ⟨A, c, rfl, _⟩ := hq.slice
  clear hq hf e1 hx
  have c0 : decide ((t : Int) < 8) = true := decide_eq_true (by omega)
  conv => arg 2; whnf
  go_wp2_with (first | ((with_reducible refine gate_builtin (b := .append) (xs := #[.tmp 56, .tmp 68]) rfl ?_); at_builtin; refine Aside0.out ?_))
  refine ⟨?_⟩
  refine wpList_appo rfl (by rfl) base _ _ (by rfl) info5 (.slice A xs.length c) xs (by rfl) (HQ.out.fr ((Fr.refl (fun _ => False) w).alloc _) (fun k hk h => h)) _ _ _ (bytes4 x) (by rfl) (by rfl) (Rd.blk (heap_alloc_new _ _)) (by simp [bytes4]) (by simp only [bytes4, List.length_cons, List.length_nil]; omega) (by rw [World.size_alloc]; omega) ?_
  intro v1 w1 hq1 hf1 hat1
  have hF1 := (HF.out.alloc (.cells #[Value.int .u8 (x / 16777216 % 256), Value.int .u8 (x / 65536 % 256), Value.int .u8 (x / 256 % 256), Value.int .u8 (x % 256)] 5)).trans hf1 (S := fun _ => False) (fun k hk => .inr (by have := HQ.out.base k hk.symm; omega))
  have hs1 := hf1.size
  rw [World.size_alloc] at hs1
  clear hf1 HF HQ hix
  go_wp2
  exact hQ _ _ ⟨rfl, rfl⟩ rfl rfl hq1 hF1 (by omega)
set_option maxHeartbeats 8000000 in
set_option maxRecDepth 100000 in
theorem exitO4 (u : Nat → Value) (w : World) (Q : Exit → Act → World → Prop) (hQ : ∀ a', Fm 72 a' → sl a' 6 = u 6 → Q (.exit 6) a' w) :
    Code.wp Try.prog (bodyN Try.f66 3) Q ⟨#[u 0, u 1, u 2, u 3, u 4, u 5, u 6, u 7, u 8, u 9, u 10, u 11, u 12, u 13, u 14, u 15, u 16, u 17, u 18, u 19, u 20, u 21, u 22, u 23, u 24, u 25, u 26, u 27, u 28, u 29, u 30, u 31, u 32, u 33, u 34, u 35, u 36, u 37, u 38, u 39, u 40, u 41, u 42, u 43, u 44, u 45, u 46, u 47, u 48, u 49, u 50, u 51, u 52, .int .i64 8, u 54, u 55, u 56, u 57, u 58, u 59, u 60, u 61, u 62, u 63, u 64, u 65, u 66, u 67, u 68, u 69, u 70, u 71], []⟩ w := by
  conv => arg 2; whnf
  go_wp2
  exact hQ _ ⟨rfl, rfl⟩ rfl
theorem loopO4 (S : List Int) (hS : S.length = 8) (base : Nat) (w0 : World) (hb0 : w0.heap.size ≤ base)
    (Q : Exit → Act → World → Prop) (hQ : ∀ a' w', Fm 72 a' → OB w' base (sl a' 6) (outB S) → Fr (fun _ => False) w0 w' → Q (.exit 6) a' w')
    (a : Act) (w : World) (h : Fm 72 a ∧ sl a 52 = .agg (encs (Value.int .u32) S).toArray ∧ sl a 53 = .int .i64 0 ∧ OB w base (sl a 6) [] ∧ Fr (fun _ => False) w0 w ∧ base ≤ w.heap.size) : (Code.loop (bodyN Try.f66 3)).wp Try.prog Q a w := by
  refine wp_loop_up 8 (fun t a w => Fm 72 a ∧ sl a 52 = .agg (encs (Value.int .u32) S).toArray ∧ sl a 53 = .int .i64 (t : Int) ∧ OB w base (sl a 6) (outB (S.take t)) ∧ Fr (fun _ => False) w0 w ∧ base ≤ w.heap.size) h ?_
  rintro t a w ht ⟨hF, h27, h28, hq, hf, hb⟩
  have ha := fm72 hF
  by_cases h64 : t = 8
  · subst h64
    rw [h28] at ha
    rw [List.take_of_length_le (by omega)] at hq
    rw [ha]
    exact exitO4 (sl a) w _ fun a' b0 b1 => hQ _ _ b0 (by rw [b1]; exact hq) hf
  · rw [h27, h28] at ha
    rw [ha]
    refine roundO4 (sl a) (sl a 6) S hS t (by omega) _ base w0 w hb0 hb (by rw [outB_len, List.length_take]; omega) hq hf _ ?_
    intro a' w' b0 b1 b2 b3 b4 b5
    refine ⟨by omega, b0, b1, by rw [b2]; congr 1, ?_, b4, b5⟩
    rw [outB_take S t (by omega)]
    exact b3

/-- What a hash with these words, this rest and this size tells. -/
def fin (S rest : List Int) (n : Int) : List Int := outB (run ((rest ++ 128 :: (List.replicate (zpad rest.length) 0 ++ be8 (n * 8))).length / 64) S (rest ++ 128 :: (List.replicate (zpad rest.length) 0 ++ be8 (n * 8))))
set_option maxHeartbeats 8000000 in
set_option maxRecDepth 100000 in
theorem HSum_calls (g base : Nat) (rv : Value) (S rest : List Int) (n : Int) (hn0 : 0 ≤ n) (hn : n < 140737488355328) (hl : rest.length < 140737488350000) (w : World) (h : HashAt w g base rv S rest n) :
    Calls Try.prog 66 #[.pointer (some ⟨g, 0, none⟩)] w fun e w' => ∃ v : Value, e = .returned v ∧ OB w' w.heap.size v (fin S rest n) ∧ Below w.heap.size w w' := by
  have hS := h.len
  have k8 := (cells_hash hS h.heap).1
  have k9 := (cells_hash hS h.heap).2
  obtain ⟨Ar, cr, rfl, hcr⟩ := h.row.slice
  have hrg := rangeS h.heap
  have hi8 : (Try.prog.info? 125).map (·.size) = some 8 := by kernel_rfl
  have e8 : (encs (Value.int .u32) S).length = 8 := by rw [encs_len, hS]
  have hsz : (encs (Value.int .u32) S).toArray.size = 8 := by simp [encs, hS]
  have hone : (encs (Value.int .u32) S).toArray.all (·.oneCell') = true := by simp [encs, Value.oneCell']
  have HH := Aside0.mk (And.intro h (And.intro hrg (And.intro hi8 (And.intro e8 (And.intro hsz (And.intro hone (And.intro k8 k9)))))))
  clear h hrg hi8 e8 hsz hone k8 k9
  go_enter Try.func66, Try.ntmps66
  go_wp2_with (first | ((with_reducible refine gate_dst (N := 12) rfl ?_); refine wpList_load_mid (by rfl) 125 _ (by rfl) g 0 (by rfl) (encs (Value.int .u32) S) _ HH.out.2.1 Try.underlying125 (by rfl) (by rw [HH.out.2.2.2.1]; exact HH.out.2.2.1) ?_) | ((with_reducible refine gate_dst (N := 3) rfl ?_); refine wpList_alloc_abs (by rfl) 125 (by rfl) (.agg Z8) (by kernel_rfl) ?_; intro w1 hb1 hs1 hg1) | ((with_reducible refine gate_store (p := 3) rfl ?_); refine wpList_store_abs (by rfl) 125 _ _ (by rfl) w.heap.size (encs (Value.int .u32) S).toArray (by rfl) (by rfl) 125 Z8 hg1 (by rw [HH.out.2.2.2.2.1]; exact HH.out.2.2.1) (by rw [HH.out.2.2.2.2.1]; exact Z8_size) HH.out.2.2.2.2.2.1 ?_; intro w2 hf2 hs2 hg2; have F2 : Fr (fun _ => False) w w2 := (Fr.of_below hb1 _).trans hf2 (fun i h => .inr (by omega)); have k8 := F2.cell HH.out.2.2.2.2.2.2.1 (fun h => h)) | ((with_reducible refine gate_dst (N := 13) rfl ?_); refine Kd.R_lit (Kd.int .u8) _ 5 (by rfl) (N := 13) (by rfl) (xs := ([] : List Int)) (inner := []) (ok := fun _ => True) (okp := fun _ => True) (by first | (go_simp; done) | (go_simp; rfl)) (Reps.none _ _) (fun _ hk => hk) trivial (Below.refl _ _) (Nat.le_refl _) (by simp) ?_; intro v5 w5 ho5 hb5 hg5 hn5; have k8 := (Fr.of_below hb5 (fun _ => False)).cell k8 (fun h => h)) | ((with_reducible refine gate_builtin (b := .append) (xs := #[.tmp 13, .tmp 17]) rfl ?_); at_builtin; refine Aside0.out ?_))
  refine ⟨?_⟩
  have lt2 : w.heap.size < w2.heap.size := by omega
  have f5 := Fr.of_below hb5 (fun _ => False)
  have hq5 : QB w5 w2.heap.size v5 [] := q_of_own (Kd.own_of_R ho5)
  have hr5 : Rd w5 Ar rest := HH.out.1.row.rd.fr (F2.trans f5 (fun i h => h.elim)) (fun ad e h => h)
  have lt5 := hb5.size
  refine wpList_appq rfl (by rfl) w2.heap.size _ _ (by rfl) info5 v5 [] (by rfl) hq5 Ar rest.length cr rest (by rfl) rfl hr5 (by simp only [List.length_nil]; omega) (by omega) ?_
  intro v6 w6 hq6 hf6 hat6
  rw [List.nil_append] at hq6
  have F6 : Fr (fun _ => False) w2 w6 := f5.trans hf6 (fun k hk => .inr (by have := hq5.base k hk.symm; omega))
  have lt6 := hf6.size
  obtain ⟨A6, c6, rfl, _⟩ := hq6.slice
  have k9 := F2.cell HH.out.2.2.2.2.2.2.2 (fun h => h)
  have HK := Aside0.mk (And.intro hq6 (And.intro F6 (And.intro F2 (And.intro hg2 k9))))
  clear hq6 F6 F2 hg2 k9 hb1 hg1 hf2 f5 hq5 hr5 ho5 hb5 hg5 hn5 hf6 hat6 k8
  go_wp2_with (first | ((with_reducible refine gate_builtin (b := .append) (xs := #[.tmp 19, .tmp 20]) rfl ?_); at_builtin; refine Aside0.out ?_))
  refine ⟨?_⟩
  refine wpList_appq rfl (by rfl) w2.heap.size _ _ (by rfl) info5 (.slice A6 rest.length c6) rest (by rfl) (HK.out.1.fr ((Fr.refl (fun _ => False) w6).alloc _) (fun k hk h => h)) _ _ _ [128] (by rfl) (by rfl) (Rd.blk (heap_alloc_new _ _)) (by simp only [List.length_cons, List.length_nil]; omega) (by rw [World.size_alloc]; omega) ?_
  intro v7 w7 hq7 hf7 hat7
  have F7 := (HK.out.2.1.alloc (.cells #[Value.int .u8 128] 5)).trans hf7 (S := fun _ => False) (fun k hk => .inr (by have := HK.out.1.base k hk.symm; omega))
  have lt7 := hf7.size
  rw [World.size_alloc] at lt7
  clear hf7 hat7
  have HK2 := Aside0.mk HK.out.2.2
  clear HK
  go_wp2
  refine loopZ (.pointer (some ⟨g, 0, none⟩)) (.pointer (some ⟨w.heap.size, 0, none⟩)) (rest ++ [128]) (zpad rest.length) (by rw [List.length_append, List.length_singleton, zpad]; omega) (by rw [zpad]; omega) (by rw [List.length_append, List.length_singleton]; omega) w2.heap.size w2 (Nat.le_refl _) _ ?_ _ _ ⟨⟨rfl, rfl⟩, rfl, rfl, hq7, F7, by omega⟩
  clear hq7 F7
  intro a' w8 hFm j0 j3 jq jf jb
  obtain ⟨v8, ev⟩ : ∃ v, sl a' 4 = v := ⟨_, rfl⟩
  rw [ev] at jq
  rw [fm72 hFm, j0, j3, ev]
  have HJ := Aside0.mk (And.intro jq jf)
  clear jq jf hFm j0 j3 ev
  go_wp2
  refine loopL (.pointer (some ⟨w.heap.size, 0, none⟩)) g n hn0 hn _ (by rw [List.length_append, List.length_append, List.length_replicate, List.length_singleton, zpad]; omega) w2.heap.size w2 HK2.out.2.2 (Nat.le_refl _) _ ?_ _ _ ⟨⟨rfl, rfl⟩, rfl, rfl, rfl, HJ.out.1, HJ.out.2, jb⟩
  clear HJ
  intro a'' w9 hFm j3 jq jf jb9
  have em : (rest ++ [128] ++ List.replicate (zpad rest.length) 0) ++ be8 (n * 8) = rest ++ 128 :: (List.replicate (zpad rest.length) 0 ++ be8 (n * 8)) := by simp [List.append_assoc]
  rw [em] at jq
  have hml : (rest ++ 128 :: (List.replicate (zpad rest.length) 0 ++ be8 (n * 8))).length = rest.length + (zpad rest.length + 9) := by simp only [List.length_append, List.length_cons, List.length_replicate, be8, List.length_nil]
  obtain ⟨m, hm⟩ : ∃ m, rest ++ 128 :: (List.replicate (zpad rest.length) 0 ++ be8 (n * 8)) = m := ⟨_, rfl⟩
  have efin : fin S rest n = outB (run (m.length / 64) S m) := by rw [fin, hm]
  rw [hm] at jq hml
  have hm64 : m.length = 64 * (m.length / 64) ∧ m.length ≤ 140737488355328 := by rw [zpad] at hml; omega
  obtain ⟨v9, ev⟩ : ∃ v, sl a'' 4 = v := ⟨_, rfl⟩
  rw [ev] at jq
  rw [fm72 hFm, j3, ev]
  have hg9 := jf.blk HK2.out.2.1 (fun h => h)
  have hne9 : v9.ownBlock ≠ some w.heap.size := fun e => by have := jq.base _ e; omega
  have HJ := Aside0.mk (And.intro jq (And.intro (HK2.out.1.trans jf (fun i h => h.elim)) (And.intro hg9 (And.intro hne9 (And.intro hm64 efin)))))
  clear jq jf hFm j3 ev em hm hml hm64 hg9 hne9 efin
  go_wp2
  refine loopB3 w.heap.size w2.heap.size S m hS (m.length / 64) HJ.out.2.2.2.2.1.1 HJ.out.2.2.2.2.1.2 w9 _ ?_ _ _ ⟨⟨rfl, rfl⟩, rfl, Fr.refl _ _, HJ.out.2.2.2.1, HJ.out.1, HJ.out.2.2.1⟩
  intro a3 w10 hFm j3 jf js
  rw [fm72 hFm, j3]
  obtain ⟨T, eT⟩ : ∃ T, run (m.length / 64) S m = T := ⟨_, rfl⟩
  have hT : T.length = 8 := by rw [← eT]; exact (run_len _ _ _).trans hS
  rw [eT] at js
  have F10 : Fr (fun _ => False) w w10 := HJ.out.2.1.trans jf (fun i h => .inr (by omega))
  have efin : fin S rest n = outB T := by rw [HJ.out.2.2.2.2.2, eT]
  have hszT : (encs (Value.int .u32) T).toArray.size = 8 := by simp [encs, hT]
  have lt10 := jf.size
  have HL := Aside0.mk (And.intro js (And.intro F10 (And.intro efin (And.intro hszT HH.out.2.2.1))))
  clear js F10 efin jf hFm j3 hszT eT HJ HK2 HH
  go_wp2_with (first | ((with_reducible refine gate_dst (N := 52) rfl ?_); refine wpList_load_row (by rfl) 125 _ (by rfl) w.heap.size (by rfl) _ (encs (Value.int .u32) T).toArray _ _ HL.out.1 Try.underlying125 (by rfl) (by rw [HL.out.2.2.2.1]; exact HL.out.2.2.2.2) ?_) | fail)
  refine loopO4 T hT w.heap.size w (Nat.le_refl _) _ ?_ _ _ ⟨⟨rfl, rfl⟩, rfl, rfl, OB.nil _ _, HL.out.2.1, by omega⟩
  intro a4 w11 hFm jq jf
  obtain ⟨v11, ev⟩ : ∃ v, sl a4 6 = v := ⟨_, rfl⟩
  rw [ev] at jq
  rw [fm72 hFm, ev]
  have HR := Aside0.mk (And.intro jq (And.intro jf HL.out.2.2.1))
  clear jq jf hFm ev HL
  go_wp2
  go_ret
  exact ⟨_, rfl, by rw [HR.out.2.2]; exact HR.out.1, HR.out.2.1.below _ (Nat.le_refl _) (fun i h => h.elim)⟩
end Go.Proofs.Ytnabilhcmplhcaa.Sha

namespace Go.Proofs.Ytnabilhcmplhcaa.Sha
open Go.RowKit Go.Proofs.YtnabilhcmplhcaaW.PrintWords Go.Proofs.YtnabilhcmplhcaaW.PrintLast Go.Proofs.YtnabilhcmplhcaaW.PrintMore Go.Proofs.Ytnabilhcmplhcaa.Q Go.Proofs.Ytnabilhcmplhcaa.Fr Go.Proofs.Ytnabilhcmplhcaa.Oct

theorem run_app (q : Nat) : ∀ (S b p : List Int), 64 * q ≤ b.length → run q S (b ++ p) = run q S b := by
  induction q with
  | zero => intros; rfl
  | succ q ih =>
    intro S b p h
    rw [run, run, List.take_append_of_le_length (by omega), List.drop_append_of_le_length (by omega)]
    exact ih _ _ _ (by rw [List.length_drop]; omega)
theorem run_add (a b : Nat) : ∀ (S m : List Int), run (a + b) S m = run b (run a S m) (m.drop (64 * a)) := by
  induction a with
  | zero => intro S m; rw [Nat.zero_add, Nat.mul_zero, List.drop_zero]; rfl
  | succ a ih =>
    intro S m
    rw [show a + 1 + b = (a + b) + 1 by omega, run, ih, run, List.drop_drop, show 64 + 64 * a = 64 * (a + 1) by omega]
/-- What a hash holds to which b was fed. -/
def held (b : List Int) : List Int × List Int × Int := (run (b.length / 64) S0 b, b.drop (64 * (b.length / 64)), (b.length : Int))
theorem run_held (b p : List Int) : run ((b.drop (64 * (b.length / 64)) ++ p).length / 64) (run (b.length / 64) S0 b) (b.drop (64 * (b.length / 64)) ++ p) = run ((b ++ p).length / 64) S0 (b ++ p) := by
  have h1 : (b ++ p).length / 64 = b.length / 64 + (b.drop (64 * (b.length / 64)) ++ p).length / 64 := by
    rw [List.length_append, List.length_append, List.length_drop]; omega
  rw [h1, run_add, run_app _ S0 b p (by omega), List.drop_append_of_le_length (by omega)]
theorem feed_held (b p : List Int) (h : (b ++ p).length < 18446744073709551616) : feed (held b) p = held (b ++ p) := by
  have hl : (b.drop (64 * (b.length / 64)) ++ p).length = b.length - 64 * (b.length / 64) + p.length := by rw [List.length_append, List.length_drop]
  simp only [feed, held]
  rw [run_held]
  refine Prod.ext rfl (Prod.ext ?_ ?_)
  · show (b.drop _ ++ p).drop (64 * ((b.drop (64 * (b.length / 64)) ++ p).length / 64)) = (b ++ p).drop (64 * ((b ++ p).length / 64))
    rw [← List.drop_append_of_le_length (by omega : 64 * (b.length / 64) ≤ b.length), List.drop_drop]
    congr 1
    rw [List.drop_append_of_le_length (by omega), hl, List.length_append]
    omega
  · show IntKind.u64.wrap ((b.length : Int) + (p.length : Int)) = (((b ++ p).length : Nat) : Int)
    rw [List.length_append] at h ⊢
    rw [IntKind.wrap_u64]
    omega
theorem feeds_held (PS : List (List Int)) : ∀ (b : List Int), (b ++ PS.flatten).length < 18446744073709551616 → PS.foldl feed (held b) = held (b ++ PS.flatten) := by
  induction PS with
  | nil => intro b h; rw [List.flatten_nil, List.append_nil]; rfl
  | cons p PS ih =>
    intro b h
    rw [List.flatten_cons, ← List.append_assoc] at h ⊢
    rw [List.foldl_cons, feed_held b p (by rw [List.length_append] at h; omega), ih _ h]
theorem fin_held (b : List Int) : fin (held b).1 (held b).2.1 (held b).2.2 = sha b := by
  have hz : zpad (b.drop (64 * (b.length / 64))).length = zpad b.length := by rw [List.length_drop]; simp only [zpad]; omega
  simp only [fin, held, sha, padded, tailB]
  rw [hz]
  congr 1
  exact run_held b _

theorem held_nil : held [] = (S0, [], 0) := rfl

/-- One list of bytes in a slice of its own. -/
theorem parts_one {w : World} {g : Nat} {A : Option Addr} {c : Nat} {l : List Int} {t : TypeId} {S : Nat → Prop} (hg : w.heap[g]? = some (.cells #[.slice A l.length c] t (0, 0))) (hc : l.length ≤ c) (hr : Rd w A l) (hgS : ¬ S g) (hA : ∀ ad, A = some ad → l ≠ [] → ¬ S ad.block) : Parts w (some ⟨g, 0, none⟩) [l] S := fun i p hp => by
  have hi : i = 0 := by
    have := (List.getElem?_eq_some_iff.1 hp).1
    simpa using this
  subst hi
  obtain rfl : l = p := by simpa using hp
  refine ⟨_, A, c, rfl, ?_, hc, hgS, fun j u hu => ?_⟩
  · rw [add_at, cell_of_row w g _ _ t (0, 0) hg]; rfl
  · obtain ⟨ad, e, h⟩ := hr j u hu
    exact ⟨ad, e, hA ad e (by intro e2; rw [e2] at hu; simp [encs] at hu), h⟩

set_option maxHeartbeats 8000000 in
set_option maxRecDepth 100000 in
theorem ssum_calls (A : Option Addr) (c : Nat) (l : List Int) (w : World) (hr : Rd w A l) (hc : l.length ≤ c) (hl : l.length < 140737488355000) :
    Calls Try.prog 59 #[.slice A l.length c] w fun e w' => ∃ v : Value, e = .returned v ∧ OB w' w.heap.size v (sha l) ∧ Below w.heap.size w w' := by
  have HH := Aside0.mk (And.intro hr hc)
  clear hr hc
  go_enter Try.func59, Try.ntmps59
  go_wp2_with (fail)
  refine (New_calls w).mono ?_
  rintro e w1 ⟨g, rfl, hg, hH, hb1⟩
  have lt1 : g < w1.heap.size := blk_lt hH.heap
  have HN := Aside0.mk (And.intro hH hb1)
  clear hH hb1
  go_wp2_with (fail)
  have hal : Fr (fun _ => False) w1 (w1.alloc (.cells #[Value.slice A l.length c] 29)) := (Fr.refl _ _).alloc _
  have hg2 := heap_alloc_new w1 (.cells #[Value.slice A l.length c] 29)
  have hH2 : HashAt (w1.alloc (.cells #[Value.slice A l.length c] 29)) g w.heap.size (.slice none 0 0) S0 [] 0 := ⟨hal.blk HN.out.1.heap (fun h => h), rfl, QB.nil _ _, by simp [Value.ownBlock]⟩
  have F2 : Fr (fun _ => False) w (w1.alloc (.cells #[Value.slice A l.length c] 29)) := (Fr.of_below HN.out.2 _).trans hal (fun i h => h.elim)
  have hr2 : Rd (w1.alloc (.cells #[Value.slice A l.length c] 29)) A l := HH.out.1.fr F2 (fun ad e h => h)
  have lt2 : (w1.alloc (.cells #[Value.slice A l.length c] 29)).heap.size = w1.heap.size + 1 := by rw [World.size_alloc]
  have hp2 : Parts (w1.alloc (.cells #[Value.slice A l.length c] 29)) (some ⟨w1.heap.size, 0, none⟩) [l] (fun k => k = g ∨ some k = (Value.slice none 0 0).ownBlock) := by
    refine parts_one hg2 HH.out.2 hr2 (fun h => ?_) (fun ad e hne h => ?_)
    · rcases h with h | h
      · omega
      · simp [Value.ownBlock] at h
    · rcases h with h | h
      · obtain ⟨x, r', hr'⟩ := List.exists_cons_of_ne_nil hne
        obtain ⟨ad', e', hc'⟩ := HH.out.1 0 (.int .u8 x) (by rw [hr']; rfl)
        rw [e] at e'
        cases e'
        have := World.block_lt_of_cell? w _ hc'
        rw [addr_block] at this
        omega
      · simp [Value.ownBlock] at h
  generalize w1.alloc (.cells #[Value.slice A l.length c] 29) = w2 at *
  refine (Write_calls g w.heap.size (.slice none 0 0) S0 [] 0 (some ⟨w1.heap.size, 0, none⟩) 1 [l] (by simp) (fun p hp => by have : p = l := (by simpa using hp); rw [this]; omega) w2 hH2 (by simp) (by omega) hp2).mono ?_
  rintro e w3 ⟨rfl, hf3, _, rv', _, hH3⟩
  have ef : [l].foldl feed (S0, [], 0) = held l := by
    have := feeds_held [l] [] (by simp; omega)
    rw [held_nil] at this
    rw [this]; simp
  rw [ef] at hH3
  have F3 : Fr (fun _ => False) w w3 := F2.trans hf3 (fun i h => by
    rcases h with h | h
    · exact .inr (by omega)
    · simp [Value.ownBlock] at h)
  have lt3 := F3.size
  have HK := Aside0.mk (And.intro hH3 F3)
  clear hal hg2 hH2 F2 hr2 hp2 HN hf3 hH3 F3
  go_wp2_with (fail)
  refine (HSum_calls g w.heap.size rv' (held l).1 (held l).2.1 (held l).2.2 (by simp only [held]; omega) (by simp only [held]; omega) (by simp only [held, List.length_drop]; omega) w3 HK.out.1).mono ?_
  rintro e w4 ⟨v, rfl, hq4, hb4⟩
  rw [fin_held] at hq4
  have HR := Aside0.mk (And.intro (OB.lower hq4 lt3) (HK.out.2.trans (Fr.of_below hb4 (fun _ => False)) (fun i h => h.elim)))
  clear hq4 hb4 HK
  go_wp2
  go_ret
  exact ⟨_, rfl, HR.out.1, HR.out.2.below _ (Nat.le_refl _) (fun i h => h.elim)⟩
end Go.Proofs.Ytnabilhcmplhcaa.Sha

namespace Go.Proofs.Ytnabilhcmplhcaa.Sha
open Go.RowKit Go.Proofs.YtnabilhcmplhcaaW.PrintWords Go.Proofs.YtnabilhcmplhcaaW.PrintLast Go.Proofs.YtnabilhcmplhcaaW.PrintMore Go.Proofs.Ytnabilhcmplhcaa.Q Go.Proofs.Ytnabilhcmplhcaa.Fr Go.Proofs.Ytnabilhcmplhcaa.Oct
theorem Rd.mark {w : World} {g : Nat} {ys : List Int} {t : TypeId} {fr : Nat × Nat} (h : w.heap[g]? = some (.cells (encs (Value.int .u8) ys).toArray t fr)) : Rd w (some ⟨g, 0, none⟩) ys := fun j u hu => ⟨_, rfl, by
  rw [add_at]
  simp [World.cell?, h, hu]⟩
end Go.Proofs.Ytnabilhcmplhcaa.Sha

namespace Go.Proofs.Ytnabilhcmplhcaa.Sha
open Go.RowKit Go.Proofs.YtnabilhcmplhcaaW.PrintWords Go.Proofs.YtnabilhcmplhcaaW.PrintLast Go.Proofs.YtnabilhcmplhcaaW.PrintMore Go.Proofs.Ytnabilhcmplhcaa.Q Go.Proofs.Ytnabilhcmplhcaa.Fr Go.Proofs.Ytnabilhcmplhcaa.Oct

end Go.Proofs.Ytnabilhcmplhcaa.Sha

namespace Go.Proofs.Ytnabilhcmplhcaa.Sha
open Go.RowKit Go.Proofs.YtnabilhcmplhcaaW.PrintWords Go.Proofs.YtnabilhcmplhcaaW.PrintLast Go.Proofs.YtnabilhcmplhcaaW.PrintMore Go.Proofs.Ytnabilhcmplhcaa.Q Go.Proofs.Ytnabilhcmplhcaa.Fr Go.Proofs.Ytnabilhcmplhcaa.Oct

section
variable {ops : Array Oper} {rest : List Oper} {o : Oper} {a : Act} {Q : Exit → Act → World → Prop} {w : World}
/-- append(v, ys...), whatever ys. -/
theorem wpList_appe {P : Program} (hP : P = Try.prog) (hgd : o.guard = none) (base : Nat) (s x : Operand) (ho : o.op = .call { callee := .builtin .append, args := #[s, x], argTypes := #[29, 29] })
    (hi : (Try.prog.info? 5).map (fun i => (i.zero, i.size, i.bytes)) = some (some (.int .u8 0), 1, 1)) (v : Value) (xs : List Int) (hs : a.eval s = v) (hq : OB w base v xs) (A : Option Addr) (m c : Nat) (ys : List Int) (hx : a.eval x = .slice A m c) (hm : m = ys.length) (hy : Rd w A ys) (hl : xs.length + ys.length ≤ 140737488355328) (hb : base ≤ w.heap.size)
    (h : ∀ v1 w1, OB w1 base v1 (xs ++ ys) → Fr (fun k => some k = v.ownBlock) w w1 → (v1.ownBlock = v.ownBlock ∨ ∃ b, v1.ownBlock = some b ∧ w.heap.size ≤ b) → wpList P ops Q rest (a.put o.dst v1) w1) : wpList P ops Q (o :: rest) a w := by
  by_cases hne : ys = []
  · subst hP hm hne
    obtain ⟨i0, hi0, h0, h1, h2⟩ := info_parts hi
    obtain ⟨A', c', rfl, hc'⟩ := hq.slice
    have hr : (Builtin.append_ #[29, 29] o.type #[.slice A' xs.length c', .slice A ([] : List Int).length c]).run Try.prog w = .ok (.slice A' xs.length c') w := by
      cases A <;> cases A' <;> simp [Builtin.append_, run_underlying Try.underlying29, sizeOf, typeInfo, hi0, Builtin.lenOf, Builtin.firstCells, hc', storeCells, loadCells, loadCellsFrom, Result.andThen]
    refine wpList_plain hgd fun K hK => ?_
    unfold Oper.wp execOp
    simp only [ho, resolve, invoke, builtin, Sem.run_bind, Sem.run_pure, Result.andThen_ok, List.map_toArray, List.map_cons, List.map_nil, hs, hx, hr]
    exact hK _ _ (h _ w (by rw [List.append_nil]; exact hq) (Fr.refl _ _) (.inl rfl))
  · exact wpList_appo hP hgd base s x ho hi v xs hs hq A m c ys hx hm hy hne hl hb h
end
end Go.Proofs.Ytnabilhcmplhcaa.Sha
end
section
/-
  Keys: Text, Sign, Verify.
-/
set_option linter.unusedVariables false
set_option linter.unusedSimpArgs false
namespace Go.Proofs.Ytnabilhcmplhcaa.Sha
open Go.RowKit Go.Proofs.YtnabilhcmplhcaaW.PrintWords Go.Proofs.YtnabilhcmplhcaaW.PrintLast Go.Proofs.YtnabilhcmplhcaaW.PrintMore Go.Proofs.Ytnabilhcmplhcaa.Q Go.Proofs.Ytnabilhcmplhcaa.Fr Go.Proofs.Ytnabilhcmplhcaa.Oct

theorem infoB : (Try.prog.info? 5).map (fun i => (i.zero, i.size, i.bytes)) = some (some (.int .u8 0), 1, 1) := by kernel_rfl
/-- A string's bytes. -/
def strI (s : ByteArray) : List Int := s.data.toList.map (fun x => (x.toNat : Int))
theorem strI_len (s : ByteArray) : (strI s).length = s.size := by simp [strI]
theorem strI_bys (s : ByteArray) : Bys (strI s) := fun x hx => by
  obtain ⟨y, _, rfl⟩ := List.mem_map.1 hx
  have := y.toNat_lt
  exact ⟨by omega, by omega⟩
section
variable {P : Program} {ops : Array Oper} {rest : List Oper} {o o1 o2 : Oper} {a : Act} {Q : Exit → Act → World → Prop} {w : World}
/-- '[]byte("..")' of a constant: two operations. -/
theorem wpList_constb (hP : P = Try.prog) (xs : List Int) (g1 : Region.wanted o1 (yielded ops a.tmps) = true) (g2 : ∀ v, Region.wanted o2 (yielded ops (a.put o1.dst v).tmps) = true)
    (hrun : (execOp a.eval o1).run P w = .ok (.value (.slice (some ⟨w.heap.size, 0, none⟩) xs.length xs.length)) (w.alloc (.cells (encs (Value.int .u8) xs).toArray 5)))
    (x : Operand) (ho2 : o2.op = .convert 29 29 x) (hx : ∀ v, (a.put o1.dst v).eval x = v)
    (h : ∀ g v w1, Rd w1 (some ⟨g, 0, none⟩) xs → Below w.heap.size w w1 → w.heap.size ≤ g → g < w1.heap.size → wpList P ops Q rest ((a.put o1.dst v).put o2.dst (.slice (some ⟨g, 0, none⟩) xs.length xs.length)) w1) : wpList P ops Q (o1 :: o2 :: rest) a w := by
  subst hP
  refine gate_guard g1 (Kd.event_run (o := { o1 with guard := none }) rfl hrun (gate_guard (g2 _) ?_))
  have kc := Go.Joins.run_convert_bytes_const_at (P := Try.prog) w 29 5 (encs (Value.int .u8) xs).toArray xs.length xs.length w.heap.size rfl Try.underlying29 Try.underlying5
  refine Kd.event_run (o := { o2 with guard := none }) (w1 := w.alloc (.cells (encs (Value.int .u8) xs).toArray 5 ((encs (Value.int .u8) xs).toArray.size, (encs (Value.int .u8) xs).toArray.size + 1))) (v := .slice (some ⟨w.heap.size, 0, none⟩) xs.length xs.length) rfl ?_ (h w.heap.size _ _ (Rd.mark (heap_alloc_new _ _)) (below_alloc (Below.refl _ _) _) (Nat.le_refl _) (by rw [World.size_alloc]; omega))
  simp only [execOp, ho2, hx, Sem.run_bind, kc, Result.andThen_ok, Sem.run_pure]
/-- '[]byte(s)' of a string. -/
theorem wpList_strb (hP : P = Try.prog) (g1 : Region.wanted o (yielded ops a.tmps) = true) (s : ByteArray) (x : Operand) (ho : o.op = .convert 9 29 x) (hx : a.eval x = .string s)
    (h : ∀ g c w1, Rd w1 (some ⟨g, 0, none⟩) (strI s) → s.size ≤ c → Below w.heap.size w w1 → w.heap.size ≤ g → g < w1.heap.size → wpList P ops Q rest (a.put o.dst (.slice (some ⟨g, 0, none⟩) s.size c)) w1) : wpList P ops Q (o :: rest) a w := by
  subst hP
  have kr := run_bytes_of_string (P := Try.prog) w 9 29 5 s Try.underlying9 Try.underlying29 Try.underlying5
  refine gate_guard g1 (Kd.event_run (o := { o with guard := none }) (w1 := w.drew.alloc (.cells (bytesRow s (grownCap w s.size 0 5)) 5 ((bytesRow s (grownCap w s.size 0 5)).size, (bytesRow s (grownCap w s.size 0 5)).size + 1))) (v := .slice (some ⟨w.heap.size, 0, none⟩) s.size (grownCap w s.size 0 5)) rfl (by simp only [execOp, ho, hx, Sem.run_bind, kr, Result.andThen_ok, Sem.run_pure]) (h w.heap.size _ _ (fun j u hu => ⟨_, rfl, ?_⟩) (grownCap_ge w _ _ _) (below_alloc (below_drew (Below.refl _ _)) _) (Nat.le_refl _) (by rw [World.size_alloc]; show w.heap.size < w.heap.size + 1; omega)))
  have hj : j < s.size := by rw [← strI_len]; simpa [encs] using (List.getElem?_eq_some_iff.1 hu).1
  rw [add_at, Nat.zero_add]
  have hb : (w.drew.alloc (.cells (bytesRow s (grownCap w s.size 0 5)) 5 ((bytesRow s (grownCap w s.size 0 5)).size, (bytesRow s (grownCap w s.size 0 5)).size + 1))).heap[w.heap.size]? = some (.cells (bytesRow s (grownCap w s.size 0 5)) 5 ((bytesRow s (grownCap w s.size 0 5)).size, (bytesRow s (grownCap w s.size 0 5)).size + 1)) := heap_alloc_new w.drew _
  simp only [World.cell?, hb]
  rw [← hu]
  have hj2 : j < s.data.size := hj
  simp [bytesRow, strI, encs, Array.getElem?_append, hj2]
  rw [if_pos hj]
  rfl
end
/-- A list of byte lists that can be read. -/
abbrev CC (w : World) (A : Option Addr) (L : List (List Int)) : Prop := Kd.C (Kd.slice 5 (Kd.int .u8)) w A L.length L
theorem CC.fr {w w' : World} {A : Option Addr} {L : List (List Int)} (h : CC w A L) (hf : Fr (fun _ => False) w w') : CC w' A L := Kd.C_below h (hf.below _ (Nat.le_refl _) (fun i h => h.elim))
/-- The cells of a list of byte lists. -/
def Vals (w : World) (us : List Value) (L : List (List Int)) : Prop := us.length = L.length ∧ ∀ (j : Nat) (l : List Int), L[j]? = some l → ∃ A0 c0, us[j]? = some (.slice A0 l.length c0) ∧ l.length ≤ c0 ∧ Rd w A0 l ∧ l.length ≤ 9223372036854775807
theorem Vals.nil (w : World) : Vals w [] [] := ⟨rfl, fun j l h => by simp at h⟩
theorem Vals.cons {w : World} {us : List Value} {L : List (List Int)} {A : Option Addr} {n c : Nat} {l : List Int} (hn : n = l.length) (hc : n ≤ c) (hm : n ≤ 9223372036854775807) (hr : Rd w A l) (h : Vals w us L) : Vals w (.slice A n c :: us) (l :: L) := by
  subst hn
  refine ⟨by rw [List.length_cons, List.length_cons, h.1], fun j x hx => ?_⟩
  cases j with
  | zero =>
    simp only [List.getElem?_cons_zero, Option.some.injEq] at hx
    subst hx
    exact ⟨A, c, rfl, hc, hr, hm⟩
  | succ j => exact h.2 j x hx
theorem Vals.append {w : World} {us vs : List Value} {L M : List (List Int)} (h : Vals w us L) (k : Vals w vs M) : Vals w (us ++ vs) (L ++ M) := by
  refine ⟨by rw [List.length_append, List.length_append, h.1, k.1], fun j x hx => ?_⟩
  rcases Nat.lt_or_ge j L.length with hj | hj
  · rw [List.getElem?_append_left hj] at hx
    obtain ⟨A, c, e, r⟩ := h.2 j x hx
    exact ⟨A, c, by rw [List.getElem?_append_left (by rw [h.1]; exact hj)]; exact e, r⟩
  · rw [List.getElem?_append_right hj] at hx
    obtain ⟨A, c, e, r⟩ := k.2 _ x hx
    exact ⟨A, c, by rw [List.getElem?_append_right (by rw [h.1]; exact hj), h.1]; exact e, r⟩
theorem Vals.fr {w w' : World} {us : List Value} {L : List (List Int)} (h : Vals w us L) (hf : Fr (fun _ => False) w w') : Vals w' us L := ⟨h.1, fun j l hl => by
  obtain ⟨A, c, e, hc, hr, hm⟩ := h.2 j l hl
  exact ⟨A, c, e, hc, hr.fr hf (fun _ _ h => h), hm⟩⟩
theorem Vals.one {w : World} {us : List Value} {L : List (List Int)} (h : Vals w us L) : ∀ u ∈ us, u.oneCell' = true := fun u hu => by
  obtain ⟨j, hj, rfl⟩ := List.mem_iff_getElem.1 hu
  obtain ⟨A, c, e, _⟩ := h.2 j (L[j]'(by rw [← h.1]; exact hj)) (List.getElem?_eq_getElem _)
  rw [List.getElem?_eq_getElem hj] at e
  injection e with e
  rw [e]
  rfl
/-- Cells that can be read hold a list of byte lists. -/
theorem Vals.CC {w : World} {us : List Value} {L : List (List Int)} {ad : Addr} (h : Vals w us L) (hl : L.length ≤ 9223372036854775807) (hc : ∀ (j : Nat) (u : Value), us[j]? = some u → w.cell? (ad.add j) = some u) : CC w (some ad) L := by
  refine ⟨rfl, hl, fun _ => ⟨ad, rfl, fun j p hp => ?_⟩⟩
  obtain ⟨A, c, e, hcap, hr, hpl⟩ := h.2 j p hp
  have hj : j < L.length := (List.getElem?_eq_some_iff.1 hp).1
  refine ⟨[.slice A p.length c], rfl, ⟨A, c, rfl, hcap, hr.C hpl⟩, fun i u hu => ?_⟩
  cases i with
  | zero =>
    simp only [List.getElem?_cons_zero, Option.some.injEq] at hu
    subst hu
    show w.cell? (ad.add (j * 1 + 0)) = _
    rw [Nat.mul_one, Nat.add_zero]
    exact hc j _ e
  | succ i => simp at hu
theorem CC.vals {w : World} {A : Option Addr} {L : List (List Int)} (h : CC w A L) : ∃ us, Vals w us L ∧ ∀ (j : Nat) (u : Value), us[j]? = some u → ∃ ad, A = some ad ∧ w.cell? (ad.add j) = some u := by
  by_cases h0 : L = []
  · subst h0
    exact ⟨[], Vals.nil w, fun j u h => by simp at h⟩
  obtain ⟨ad, e, hc⟩ := h.2.2 (List.length_pos_iff.2 h0)
  have hget : ∀ (j : Nat) (l : List Int), L[j]? = some l → ∃ A0 c0, w.cell? (ad.add j) = some (.slice A0 l.length c0) ∧ l.length ≤ c0 ∧ Rd w A0 l ∧ l.length ≤ 9223372036854775807 := fun j l hl => by
    obtain ⟨c, hs, ⟨A0, c0, rfl, hle, hr⟩, hcell⟩ := hc j l hl
    have := hcell 0 _ rfl
    rw [show j * (Kd.slice 5 (Kd.int .u8)).sz + 0 = j from by show j * 1 + 0 = j; omega] at this
    exact ⟨A0, c0, this, hle, Rd.of_C hr, hr.2.1⟩
  refine ⟨(List.range L.length).map (fun j => (w.cell? (ad.add j)).getD undef), ⟨by simp, fun j l hl => ?_⟩, fun j u hu => ⟨ad, e, ?_⟩⟩
  · obtain ⟨A0, c0, hcell, hle, hr⟩ := hget j l hl
    have hj : j < L.length := (List.getElem?_eq_some_iff.1 hl).1
    exact ⟨A0, c0, by simp [hj, hcell], hle, hr⟩
  · have hj : j < L.length := by simpa using (List.getElem?_eq_some_iff.1 hu).1
    obtain ⟨A0, c0, hcell, _⟩ := hget j (L[j]) (List.getElem?_eq_getElem hj)
    simp [hj, hcell] at hu
    rw [← hu]
    exact hcell
section
variable {P : Program} {ops : Array Oper} {rest : List Oper} {o o1 o2 : Oper} {a : Act} {Q : Exit → Act → World → Prop} {w : World}
theorem infoL : (Try.prog.info? 29).map (fun i => (i.zero, i.size, i.bytes)) = some (some (.slice none 0 0), 1, 24) := by kernel_rfl
/-- append(v, ys...) of lists of byte lists. -/
theorem wpList_apps (hP : P = Try.prog) (hgd : o.guard = none) (base : Nat) (s x : Operand) (ho : o.op = .call { callee := .builtin .append, args := #[s, x], argTypes := #[86, 86] })
    (v : Value) (us : List Value) (hs : a.eval s = v) (hq : w.ownsRow base 29 1 v us.length us) (A : Option Addr) (m c : Nat) (vs : List Value) (hx : a.eval x = .slice A m c) (hm : m = vs.length) (hy : ∀ (j : Nat) (u : Value), vs[j]? = some u → ∃ ad, A = some ad ∧ w.cell? (ad.add j) = some u) (h1 : ∀ u ∈ vs, u.oneCell' = true) (hl : us.length + vs.length ≤ 5864062014805) (hb : base ≤ w.heap.size)
    (h : ∀ v1 w1, w1.ownsRow base 29 1 v1 (us ++ vs).length (us ++ vs) → Fr (fun k => some k = v.ownBlock) w w1 → wpList P ops Q rest (a.put o.dst v1) w1) : wpList P ops Q (o :: rest) a w := by
  subst hP hm
  obtain ⟨i0, hi0, h0, h2, h3⟩ := info_parts infoL
  by_cases hne : vs = []
  · subst hne
    obtain ⟨A', c', rfl, hc'⟩ := q_slice (q_of_own hq)
    have hr : (Builtin.append_ #[86, 86] o.type #[.slice A' us.length c', .slice A ([] : List Value).length c]).run Try.prog w = .ok (.slice A' us.length c') w := by
      cases A <;> cases A' <;> simp [Builtin.append_, run_underlying Try.underlying86, sizeOf, typeInfo, hi0, Builtin.lenOf, Builtin.firstCells, hc', storeCells, loadCells, loadCellsFrom, Result.andThen]
    refine wpList_plain hgd fun K hK => ?_
    unfold Oper.wp execOp
    simp only [ho, resolve, invoke, builtin, Sem.run_bind, Sem.run_pure, Result.andThen_ok, List.map_toArray, List.map_cons, List.map_nil, hs, hx, hr]
    exact hK _ _ (h _ w (by rw [List.append_nil]; exact hq) (Fr.refl _ _))
  · obtain ⟨y, ys', rfl⟩ := List.exists_cons_of_ne_nil hne
    obtain ⟨ad, hA, _⟩ := hy 0 y rfl
    subst hA
    obtain ⟨v1, w1, hr, hq1, hg, _, hat⟩ := run_append_own_at (P := Try.prog) w base 86 o.type 29 i0 (.slice none 0 0) 1 24 Try.underlying86 hi0 h0 h2 h3 rfl (by decide) v us.length _ hq ad (y :: ys').length c (y :: ys') (by rw [Nat.mul_one])
      (fun j u hu => by obtain ⟨ad', e, h⟩ := hy j u hu; cases e; exact h) h1 (by simp only [maxLen]; omega) (by omega) hb
    have hq2 : w1.ownsRow base 29 1 v1 (us ++ y :: ys').length (us ++ y :: ys') := by
      rw [List.length_append]
      exact hq1
    refine wpList_plain hgd fun K hK => ?_
    unfold Oper.wp execOp
    simp only [ho, resolve, invoke, builtin, Sem.run_bind, Sem.run_pure, Result.andThen_ok, List.map_toArray, List.map_cons, List.map_nil, hs, hx, hr]
    exact hK _ _ (h v1 w1 hq2 (Fr.of_grown hg))
end
/-- A list of slices that was built in place. -/
theorem CC.blk {w : World} {g : Nat} {us : List Value} {L : List (List Int)} {t : TypeId} {fr : Nat × Nat} (h : Vals w us L) (hl : L.length ≤ 9223372036854775807) (hg : w.heap[g]? = some (.cells us.toArray t fr)) : CC w (some ⟨g, 0, none⟩) L :=
  Vals.CC h hl fun j u hu => by
    rw [add_at, Nat.zero_add]
    simp [World.cell?, hg, hu]

def sgnB : List Int := [115, 105, 103, 110]
/-- What a key signs. -/
def txtA (k : Int) (dom : ByteArray) (l : List (List Int)) : List Int := if 0 ≤ k ∧ k ≤ 127 then packA (sgnB :: (intA k).1 :: strI dom :: l) else []

set_option maxHeartbeats 8000000 in
set_option maxRecDepth 100000 in
theorem text_calls (k : Int) (dom : ByteArray) (A : Option Addr) (c : Nat) (l : List (List Int)) (w : World) (hC : CC w A l) (hc : l.length ≤ c) (hs : szL l + dom.size ≤ 2097000) :
    Calls Try.prog 60 #[.int .i64 k, .string dom, .slice A l.length c] w fun e w' => ∃ v : Value, e = .returned v ∧ OB w' w.heap.size v (txtA k dom l) ∧ Below w.heap.size w w' := by
  have HC := Aside0.mk (And.intro hC (And.intro hc hs))
  clear hC hc hs
  by_cases hk : 0 ≤ k ∧ k ≤ 127
  · rw [txtA, if_pos hk]
    have hr : key_right.f k = some true := by unfold key_right.f; rw [if_pos hk.1, decide_eq_true hk.2]
    have HK := Aside0.mk (And.intro hr hk)
    clear hr hk
    go_enter Try.func60, Try.ntmps60
    go_wp2_with (fail)
    refine (key_right.calls k true w HK.out.1).mono ?_
    rintro e w1 ⟨rfl, hd1⟩
    have H1 := Aside0.mk hd1.below
    clear hd1
    go_wp2_with (fail)
    refine (octet_Int.calls 8 k (intA k).1 (intA k).2 w1 (int_f k 8 (Nat.le_refl _))).mono ?_
    rintro e w2 ⟨v2, rfl, hR2, hb2⟩
    have hO2 : OB w2 w1.heap.size v2 (intA k).1 := Kd.own_of_R hR2
    obtain ⟨A2, c2, rfl, hc2⟩ := hO2.slice
    have F2 := (Fr.of_below H1.out (fun _ => False)).trans (Fr.of_below hb2 (fun _ => False)) (fun _ h => h.elim)
    have hl2 := intA_len k
    obtain ⟨n2, hn2⟩ : ∃ n2, (intA k).1.length = n2 := ⟨_, rfl⟩
    rw [hn2] at hO2 hc2 hl2 ⊢
    have H2 := Aside0.mk (And.intro F2 (And.intro (QB.rd (q_of_own hO2)) hn2))
    clear H1 hR2 hb2 hO2 F2 hn2
    go_wp2_with (first | ((with_reducible refine gate_dst (N := 17) rfl ?_); refine wpList_constb rfl sgnB (by rfl) (fun _ => by rfl) (by first | (go_simp; done) | (go_simp; rfl) | (go_simp; exact ⟨rfl, rfl⟩)) _ (by rfl) (fun _ => rfl) ?_; intro g3 v3 w3 hr3 hb3 hg3 hg3') | ((with_reducible refine gate_dst (N := 21) rfl ?_); refine wpList_strb rfl (by rfl) dom _ (by rfl) (by rfl) ?_; intro g4 c4 w4 hr4 hc4 hb4 hg4 hg4'))
    have f3 := Fr.of_below hb3 (fun _ => False)
    have f4 := Fr.of_below hb4 (fun _ => False)
    have hg5 := heap_alloc_new w4 (.cells #[.slice (some ⟨g3, 0, none⟩) sgnB.length sgnB.length, .slice A2 n2 c2, .slice (some ⟨g4, 0, none⟩) dom.size c4] 29)
    have hb5 := below_alloc (Below.refl w4.heap.size w4) (.cells #[.slice (some ⟨g3, 0, none⟩) sgnB.length sgnB.length, .slice A2 n2 c2, .slice (some ⟨g4, 0, none⟩) dom.size c4] 29)
    generalize w4.alloc (.cells #[.slice (some ⟨g3, 0, none⟩) sgnB.length sgnB.length, .slice A2 n2 c2, .slice (some ⟨g4, 0, none⟩) dom.size c4] 29) = w5 at *
    have f5 := Fr.of_below hb5 (fun _ => False)
    have f25 := ((f3.trans f4 (fun _ h => h.elim)).trans f5 (fun _ h => h.elim))
    have hV : Vals w5 [.slice (some ⟨g3, 0, none⟩) sgnB.length sgnB.length, .slice A2 n2 c2, .slice (some ⟨g4, 0, none⟩) dom.size c4] [sgnB, (intA k).1, strI dom] :=
      Vals.cons rfl (Nat.le_refl _) (by decide) (hr3.fr (f4.trans f5 (fun _ h => h.elim)) (fun _ _ h => h)) (Vals.cons H2.out.2.2.symm hc2 (by omega) (H2.out.2.1.fr f25 (fun _ _ h => h)) (Vals.cons (strI_len dom).symm hc4 (by have := HC.out; omega) (hr4.fr f5 (fun _ _ h => h)) (Vals.nil _)))
    have hC5 := CC.blk hV (by simp) hg5
    have z2 : szL [sgnB, (intA k).1, strI dom] ≤ 20 + dom.size := by simp only [szL, List.map_cons, List.map_nil, List.sum_cons, List.sum_nil, strI_len]; have : sgnB.length = 4 := rfl; have := H2.out.2.2; omega
    have H5 := Aside0.mk (And.intro (H2.out.1.trans f25 (fun _ h => h.elim)) (And.intro hC5 z2))
    clear H2 hr3 hb3 hr4 hb4 f3 f4 f5 f25 hg5 hb5 hV hC5 z2 hc2 hc4 hl2
    refine (octet_Pack.calls 20 (some ⟨w4.heap.size, 0, none⟩) 3 [sgnB, (intA k).1, strI dom] (packA [sgnB, (intA k).1, strI dom]) w5 H5.out.2.1 (by simp) (pack_f _ (by have := H5.out; have := HC.out; omega) 20 (by simp))).mono ?_
    rintro e w6 ⟨v6, rfl, hR6, hb6⟩
    have hO6 : OB w6 w5.heap.size v6 (packA [sgnB, (intA k).1, strI dom]) := Kd.own_of_R hR6
    have F6 := H5.out.1.trans (Fr.of_below hb6 (fun _ => False)) (fun _ h => h.elim)
    have hp6 := packA_len [sgnB, (intA k).1, strI dom]
    have H6 := Aside0.mk (And.intro F6 (And.intro hO6 (And.intro hb6.size (And.intro H5.out.1.size (Nat.le_trans hp6 (Nat.mul_le_mul_left 5 H5.out.2.2))))))
    clear H5 hR6 hb6 hO6 F6 hp6
    go_wp2_with (fail)
    refine (octet_Pack.calls (l.length + 9) A c l (packA l) w6 (HC.out.1.fr H6.out.1) HC.out.2.1 (pack_f _ (by have := HC.out; omega) _ (Nat.le_refl _))).mono ?_
    rintro e w7 ⟨v7, rfl, hR7, hb7⟩
    have hO7 : OB w7 w6.heap.size v7 (packA l) := Kd.own_of_R hR7
    obtain ⟨A7, c7, rfl, hc7⟩ := hO7.slice
    have H7 := Aside0.mk (And.intro (H6.out.1.trans (Fr.of_below hb7 (fun _ => False)) (fun _ h => h.elim)) (And.intro (H6.out.2.1.fr (Fr.of_below hb7 (fun _ => False)) (fun _ _ h => h)) (And.intro (QB.rd (q_of_own hO7)) (And.intro hb7.size H6.out.2.2))))
    have hp7 := packA_len l
    clear H6 hR7 hb7 hO7
    go_wp2_with (first | ((with_reducible refine gate_builtin (b := .append) (xs := #[.tmp 23, .tmp 25]) rfl ?_); at_builtin; refine Aside0.out ?_))
    refine ⟨?_⟩
    refine wpList_appe rfl (by rfl) w5.heap.size _ _ (by rfl) infoB v6 (packA [sgnB, (intA k).1, strI dom]) (by rfl) H7.out.2.1 A7 (packA l).length c7 (packA l) (by rfl) rfl H7.out.2.2.1 (by have := H7.out; have := HC.out; omega) (by have := H7.out; omega) ?_
    intro v8 w8 hO8 hf8 hat8
    have e8 : packA [sgnB, (intA k).1, strI dom] ++ packA l = packA (sgnB :: (intA k).1 :: strI dom :: l) := by rw [← packA_append]; rfl
    rw [e8] at hO8
    have F8 : Fr (fun _ => False) w w8 := H7.out.1.trans hf8 (fun i hi => .inr (by have := H7.out.2.1.base i hi.symm; have := H7.out.2.2.2.2.2.1; omega))
    have H8 := Aside0.mk (And.intro (hO8.lower H7.out.2.2.2.2.2.1) F8)
    clear H7 hO8 hf8 hat8 F8 e8 hp7
    go_wp2
    go_ret
    exact ⟨_, rfl, H8.out.1, H8.out.2.below _ (Nat.le_refl _) (fun i h => h.elim)⟩
  · rw [txtA, if_neg hk]
    have hr : key_right.f k = some false := by
      unfold key_right.f
      by_cases h0 : 0 ≤ k
      · rw [if_pos h0, decide_eq_false (by omega)]
      · rw [if_neg h0]
    have HK := Aside0.mk hr
    clear hr hk
    go_enter Try.func60, Try.ntmps60
    go_wp2_with (fail)
    refine (key_right.calls k false w HK.out).mono ?_
    rintro e w1 ⟨rfl, hd1⟩
    have H1 := Aside0.mk hd1.below
    clear hd1
    go_wp2
    go_ret
    exact ⟨_, rfl, OB.nil _ _, H1.out⟩
end Go.Proofs.Ytnabilhcmplhcaa.Sha

namespace Go.Proofs.Ytnabilhcmplhcaa.Sha
open Go.RowKit Go.Proofs.YtnabilhcmplhcaaW.PrintWords Go.Proofs.YtnabilhcmplhcaaW.PrintLast Go.Proofs.YtnabilhcmplhcaaW.PrintMore Go.Proofs.Ytnabilhcmplhcaa.Q Go.Proofs.Ytnabilhcmplhcaa.Fr Go.Proofs.Ytnabilhcmplhcaa.Oct

theorem right_f (k : Int) : key_right.f k = some (decide (0 ≤ k ∧ k ≤ 127)) := by
  unfold key_right.f
  by_cases h0 : 0 ≤ k
  · rw [if_pos h0]
    congr 1
    simp [h0]
  · rw [if_neg h0]
    congr 1
    simp [h0]
theorem txtA_len (k : Int) (dom : ByteArray) (l : List (List Int)) (hs : szL l + dom.size ≤ 2097000) : (txtA k dom l).length ≤ 10485760 := by
  unfold txtA
  split
  · have h := packA_len (sgnB :: (intA k).1 :: strI dom :: l)
    have : sgnB.length = 4 := rfl
    have := intA_len k
    simp only [szL_cons, strI_len] at h
    omega
  · simp
theorem sha_len (b : List Int) : (sha b).length = 32 := by rw [sha, outB_len, run_len]; rfl
theorem sha_bys (b : List Int) : Bys (sha b) := Bys_out _
/-- A signature. -/
def sgA (k : Int) (dom : ByteArray) (l : List (List Int)) : List Int := if 0 ≤ k ∧ k ≤ 127 then sha (txtA k dom l) else []
theorem sgA_len (k : Int) (dom : ByteArray) (l : List (List Int)) : (sgA k dom l).length ≤ 32 := by
  unfold sgA
  split
  · rw [sha_len]; omega
  · simp
theorem sgA_bys (k : Int) (dom : ByteArray) (l : List (List Int)) : Bys (sgA k dom l) := by
  unfold sgA
  split
  · exact sha_bys _
  · exact Bys.nil
set_option maxHeartbeats 8000000 in
set_option maxRecDepth 100000 in
theorem sign_calls (k : Int) (dom : ByteArray) (A : Option Addr) (c : Nat) (l : List (List Int)) (w : World) (hC : CC w A l) (hc : l.length ≤ c) (hs : szL l + dom.size ≤ 2097000) :
    Calls Try.prog 54 #[.int .i64 k, .string dom, .slice A l.length c] w fun e w' => ∃ v : Value, e = .returned v ∧ OB w' w.heap.size v (sgA k dom l) ∧ Below w.heap.size w w' := by
  have HC := Aside0.mk (And.intro hC (And.intro hc hs))
  clear hC hc hs
  have hr := right_f k
  unfold sgA
  by_cases hk : 0 ≤ k ∧ k ≤ 127
  · rw [if_pos hk]
    rw [decide_eq_true hk] at hr
    have HK := Aside0.mk hr
    clear hr hk
    go_enter Try.func54, Try.ntmps54
    go_wp2_with (fail)
    refine (key_right.calls k true w HK.out).mono ?_
    rintro e w1 ⟨rfl, hd1⟩
    have H1 := Aside0.mk (Fr.of_below hd1.below (fun _ => False))
    clear hd1
    go_wp2_with (fail)
    refine (text_calls k dom A c l w1 (HC.out.1.fr H1.out) HC.out.2.1 HC.out.2.2).mono ?_
    rintro e w2 ⟨v2, rfl, hO2, hb2⟩
    obtain ⟨A2, c2, rfl, hc2⟩ := hO2.slice
    have H2 := Aside0.mk (And.intro (H1.out.trans (Fr.of_below hb2 (fun _ => False)) (fun _ h => h.elim)) (QB.rd (q_of_own hO2)))
    clear H1 hO2 hb2
    have hl := txtA_len k dom l HC.out.2.2
    have HL := Aside0.mk hl
    clear hl
    go_wp2_with (fail)
    refine (ssum_calls A2 c2 (txtA k dom l) w2 H2.out.2 hc2 (by have := HL.out; omega)).mono ?_
    rintro e w3 ⟨v3, rfl, hO3, hb3⟩
    have H3 := Aside0.mk (And.intro (hO3.lower H2.out.1.size) (H2.out.1.trans (Fr.of_below hb3 (fun _ => False)) (fun _ h => h.elim)))
    clear H2 hO3 hb3
    go_wp2
    go_ret
    exact ⟨_, rfl, H3.out.1, H3.out.2.below _ (Nat.le_refl _) (fun i h => h.elim)⟩
  · rw [if_neg hk]
    rw [decide_eq_false hk] at hr
    have HK := Aside0.mk hr
    clear hr hk
    go_enter Try.func54, Try.ntmps54
    go_wp2_with (fail)
    refine (key_right.calls k false w HK.out).mono ?_
    rintro e w1 ⟨rfl, hd1⟩
    have H1 := Aside0.mk hd1.below
    clear hd1
    go_wp2
    go_ret
    exact ⟨_, rfl, OB.nil _ _, H1.out⟩
set_option maxHeartbeats 8000000 in
set_option maxRecDepth 100000 in
theorem verify_calls (k : Int) (dom : ByteArray) (As : Option Addr) (cs : Nat) (s : List Int) (A : Option Addr) (c : Nat) (l : List (List Int)) (w : World) (hS : Rd w As s) (hcs : s.length ≤ cs) (hsl : s.length ≤ 9223372036854775807) (hsb : Bys s) (hC : CC w A l) (hc : l.length ≤ c) (hs : szL l + dom.size ≤ 2097000) :
    Calls Try.prog 47 #[.int .i64 k, .slice As s.length cs, .string dom, .slice A l.length c] w fun e w' => e = .returned (.bool (decide (0 ≤ k ∧ k ≤ 127) && decide (s = sgA k dom l))) ∧ Below w.heap.size w w' := by
  have HC := Aside0.mk (And.intro hC (And.intro hc (And.intro hs (And.intro hS (And.intro hsl hsb)))))
  clear hC hc hs hS hsl hsb
  have hr := right_f k
  by_cases hk : 0 ≤ k ∧ k ≤ 127
  · rw [decide_eq_true hk] at hr ⊢
    rw [Bool.true_and]
    have HK := Aside0.mk hr
    clear hr hk
    obtain ⟨b, hb⟩ : ∃ b, decide (s = sgA k dom l) = b := ⟨_, rfl⟩
    have HB := Aside0.mk hb
    rw [hb]
    clear hb
    go_enter Try.func47, Try.ntmps47
    go_wp2_with (fail)
    refine (key_right.calls k true w HK.out).mono ?_
    rintro e w1 ⟨rfl, hd1⟩
    have H1 := Aside0.mk (Fr.of_below hd1.below (fun _ => False))
    clear hd1
    go_wp2_with (fail)
    refine (sign_calls k dom A c l w1 (HC.out.1.fr H1.out) HC.out.2.1 HC.out.2.2.1).mono ?_
    rintro e w2 ⟨v2, rfl, hO2, hb2⟩
    obtain ⟨A2, c2, rfl, hc2⟩ := hO2.slice
    have H2 := Aside0.mk (And.intro (H1.out.trans (Fr.of_below hb2 (fun _ => False)) (fun _ h => h.elim)) (QB.rd (q_of_own hO2)))
    clear H1 hO2 hb2
    have hl := sgA_len k dom l
    have HL := Aside0.mk hl
    clear hl
    go_wp2_with (fail)
    refine (bytes_Equal.calls As cs s A2 c2 (sgA k dom l) b w2 ((HC.out.2.2.2.1.fr H2.out.1 (fun _ _ h => h)).C HC.out.2.2.2.2.1) hcs (H2.out.2.C (by have := HL.out; omega)) hc2 (by unfold bytes_Equal.f; rw [same_iff HC.out.2.2.2.2.2 (sgA_bys _ _ _), HB.out])).mono ?_
    rintro e w3 ⟨rfl, hd3⟩
    have H3 := Aside0.mk (H2.out.1.trans (Fr.of_below hd3.below (fun _ => False)) (fun _ h => h.elim))
    clear H2 hd3
    go_wp2
    go_ret
    exact ⟨by first | rfl | simp, H3.out.below _ (Nat.le_refl _) (fun i h => h.elim)⟩
  · rw [decide_eq_false hk] at hr ⊢
    rw [Bool.false_and]
    have HK := Aside0.mk hr
    clear hr hk
    go_enter Try.func47, Try.ntmps47
    go_wp2_with (fail)
    refine (key_right.calls k false w HK.out).mono ?_
    rintro e w1 ⟨rfl, hd1⟩
    have H1 := Aside0.mk hd1.below
    clear hd1
    go_wp2
    go_ret
    exact ⟨rfl, H1.out⟩
theorem sgnB_bys : Bys sgnB := by unfold Bys sgnB; decide
theorem own_CC {w : World} {base : Nat} {v : Value} {us : List Value} {L : List (List Int)} (hV : Vals w us L) (h : w.ownsRow base 29 1 v us.length us) (hl : L.length ≤ 9223372036854775807) : ∃ A c, v = .slice A L.length c ∧ L.length ≤ c ∧ CC w A L := by
  have hq := q_of_own h
  obtain ⟨A, c, rfl, hc⟩ := q_slice hq
  rw [hV.1] at hc
  refine ⟨A, c, by rw [hV.1], hc, ?_⟩
  by_cases h0 : L = []
  · subst h0
    exact ⟨rfl, by simp, fun h => by simp at h⟩
  · obtain ⟨ad, rfl, hcell⟩ := q_cells hq (by rw [hV.1]; exact List.length_pos_iff.2 h0)
    exact hV.CC hl hcell
end Go.Proofs.Ytnabilhcmplhcaa.Sha
end
