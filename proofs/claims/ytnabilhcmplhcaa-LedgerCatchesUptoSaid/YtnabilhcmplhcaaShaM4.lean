/- Parts of one work, laid together: ShaS2, ShaR, ShaT, ShaU, ShaV. -/
import Derived.Test.YtnabilhcmplhcaaShaM1
/-
  A part of bytes that can be read.
-/
set_option linter.unusedVariables false
set_option linter.unusedSimpArgs false
namespace Go.Proofs.Ytnabilhcmplhcaa.Sha
open Go.RowKit Go.Proofs.YtnabilhcmplhcaaW.PrintWords Go.Proofs.YtnabilhcmplhcaaW.PrintLast Go.Proofs.YtnabilhcmplhcaaW.PrintMore Go.Proofs.Ytnabilhcmplhcaa.Q Go.Proofs.Ytnabilhcmplhcaa.Fr Go.Proofs.Ytnabilhcmplhcaa.Oct

theorem Rd.mid {w : World} {A : Option Addr} {ys : List Int} (h : Rd w A ys) (lo k : Nat) : Rd w (A.map (·.add lo)) ((ys.drop lo).take k) := fun j u hu => by
  have hu' : (encs (Value.int .u8) ys)[lo + j]? = some u := by
    simp only [encs, List.getElem?_map, List.getElem?_take, List.getElem?_drop] at hu ⊢
    split at hu
    · exact hu
    · simp at hu
  obtain ⟨ad, e, hc⟩ := h (lo + j) u hu'
  refine ⟨ad.add lo, by rw [e]; rfl, ?_⟩
  rw [show (ad.add lo).add j = ad.add (lo + j) from by simp only [Addr.add]; split <;> split <;> (try split) <;> simp_all <;> omega]
  exact hc

end Go.Proofs.Ytnabilhcmplhcaa.Sha

/-
  A hash that goes on: New, Write.
-/
set_option linter.unusedVariables false
set_option linter.unusedSimpArgs false
namespace Go.Proofs.Ytnabilhcmplhcaa.Sha
open Go.RowKit Go.Proofs.YtnabilhcmplhcaaW.PrintWords Go.Proofs.YtnabilhcmplhcaaW.PrintLast Go.Proofs.YtnabilhcmplhcaaW.PrintMore Go.Proofs.Ytnabilhcmplhcaa.Q Go.Proofs.Ytnabilhcmplhcaa.Fr Go.Proofs.Ytnabilhcmplhcaa.Oct

/-- A hash's own block: the words, what is left, the size. -/
structure HashAt (w : World) (g base : Nat) (rv : Value) (S rest : List Int) (n : Int) : Prop where
  heap : w.heap[g]? = some (.cells (encs (Value.int .u32) S ++ [rv, .int .u64 n]).toArray 128 (0, 0))
  len : S.length = 8
  row : QB w base rv rest
  ne : rv.ownBlock ≠ some g
theorem cells_hash {w : World} {g : Nat} {rv : Value} {S : List Int} {n : Int} (hS : S.length = 8) (h : w.heap[g]? = some (.cells (encs (Value.int .u32) S ++ [rv, .int .u64 n]).toArray 128 (0, 0))) : w.cell? ⟨g, 8, none⟩ = some rv ∧ w.cell? ⟨g, 9, none⟩ = some (.int .u64 n) := by
  obtain ⟨va, vb, vc, vd, ve, vf, vg, vh, rfl⟩ := eight hS
  simp [World.cell?, h, encs]
theorem set_hash8 {w : World} {g : Nat} {rv : Value} {S : List Int} {n : Int} (hS : S.length = 8) (h : w.heap[g]? = some (.cells (encs (Value.int .u32) S ++ [rv, .int .u64 n]).toArray 128 (0, 0))) (v : Value) : (w.setCell ⟨g, 8, none⟩ v).heap[g]? = some (.cells (encs (Value.int .u32) S ++ [v, .int .u64 n]).toArray 128 (0, 0)) := by
  obtain ⟨va, vb, vc, vd, ve, vf, vg, vh, rfl⟩ := eight hS
  rw [setCell_eq_setRow w g 8 _ _ (0, 0) v h, setRow_heap w g _ _ _ _ h]
  rfl
theorem set_hash9 {w : World} {g : Nat} {rv : Value} {S : List Int} {n : Int} (hS : S.length = 8) (h : w.heap[g]? = some (.cells (encs (Value.int .u32) S ++ [rv, .int .u64 n]).toArray 128 (0, 0))) (v : Value) : (w.setCell ⟨g, 9, none⟩ v).heap[g]? = some (.cells (encs (Value.int .u32) S ++ [rv, v]).toArray 128 (0, 0)) := by
  obtain ⟨va, vb, vc, vd, ve, vf, vg, vh, rfl⟩ := eight hS
  rw [setCell_eq_setRow w g 9 _ _ (0, 0) v h, setRow_heap w g _ _ _ _ h]
  rfl

def S0T : Array Value := (encs (Value.int .u32) S0).toArray
def H0T : Array Value := (encs (Value.int .u32) S0 ++ [Value.slice none 0 0, Value.int .u64 0]).toArray
set_option maxHeartbeats 8000000 in
set_option maxRecDepth 100000 in
theorem start_calls (w : World) : Calls Try.prog 71 #[] w fun e w' => e = .returned (.agg S0T) ∧ Below w.heap.size w w' := by
  go_enter Try.func71, Try.ntmps71
  go_wp2_with (first | ((with_reducible refine gate_dst (N := 0) rfl ?_); refine wpList_alloc_abs (by rfl) 125 (by rfl) (.agg Z8) (by kernel_rfl) ?_; intro w1 hb1 hs1 hg1) | ((with_reducible refine gate_dst (N := 1) rfl ?_); refine wpList_build_abs (by rfl) 125 _ (by rfl) S0T (by kernel_rfl) ?_) | ((with_reducible refine gate_store (p := 0) rfl ?_); refine wpList_store_abs (by rfl) 125 _ _ (by rfl) w.heap.size S0T (by rfl) (by rfl) 125 Z8 hg1 (by kernel_rfl) (by decide +kernel) (by decide +kernel) ?_; intro w2 hf2 hs2 hg2))
  refine bodyPost_ret (results_cell_row (by rfl) _ _ w.heap.size 125 S0T (0, 0) _ (by rfl) hg2 Try.underlying125 (by rfl) (by kernel_rfl)) rfl ?_
  exact ⟨rfl, (Fr.of_below hb1 (fun _ => False)).trans hf2 (fun i h => .inr (by omega)) |>.below _ (Nat.le_refl _) (fun i h => h.elim)⟩
set_option maxHeartbeats 8000000 in
set_option maxRecDepth 100000 in
theorem New_calls (w : World) : Calls Try.prog 64 #[] w fun e w' => ∃ g, e = .returned (.pointer (some ⟨g, 0, none⟩)) ∧ w.heap.size ≤ g ∧ HashAt w' g w.heap.size (.slice none 0 0) S0 [] 0 ∧ Below w.heap.size w w' := by
  go_enter Try.func64, Try.ntmps64
  go_wp2_with (fail)
  refine (start_calls w).mono ?_
  rintro e w1 ⟨rfl, hb1⟩
  go_wp2_with (first | ((with_reducible refine gate_dst (N := 2) rfl ?_); refine wpList_build_abs (by rfl) 128 _ (by rfl) H0T (by kernel_rfl) ?_) | ((with_reducible refine gate_dst (N := 3) rfl ?_); refine wpList_box_abs (by rfl) 128 _ (by rfl) H0T (by rfl) ?_; intro w2 hb2 hs2 hg2))
  go_ret
  have := hb1.size
  exact ⟨_, rfl, hb1.size, ⟨hg2, rfl, QB.nil _ _, by simp [Value.ownBlock]⟩, ((Fr.of_below hb1 (fun _ => False)).trans (Fr.of_below hb2 (fun _ => False)) (fun i h => h.elim)).below _ (Nat.le_refl _) (fun i h => h.elim)⟩
end Go.Proofs.Ytnabilhcmplhcaa.Sha

/-
  Write: the blocks of what is there.
-/
set_option linter.unusedVariables false
set_option linter.unusedSimpArgs false
namespace Go.Proofs.Ytnabilhcmplhcaa.Sha
open Go.RowKit Go.Proofs.YtnabilhcmplhcaaW.PrintWords Go.Proofs.YtnabilhcmplhcaaW.PrintLast Go.Proofs.YtnabilhcmplhcaaW.PrintMore Go.Proofs.Ytnabilhcmplhcaa.Q Go.Proofs.Ytnabilhcmplhcaa.Fr Go.Proofs.Ytnabilhcmplhcaa.Oct

theorem own_cut (A : Option Addr) (n c k : Nat) (n' c' : Nat) : (Value.slice (if c = k then A else A.map (·.add k)) n' c').ownBlock = (Value.slice A n c).ownBlock := by
  cases A with
  | none => split <;> rfl
  | some ad => split <;> simp [Value.ownBlock, addr_block]
theorem Rd.cells {w : World} {ad : Addr} {ys : List Int} (h : Rd w (some ad) ys) (i : Int) (h0 : 0 ≤ i) (h1 : i < ys.length) : w.cell? (ad.add i.toNat) = some (.int .u8 (ys.getD i.toNat 0)) := by
  have hl : i.toNat < ys.length := by omega
  obtain ⟨ad', e, hc⟩ := h i.toNat (.int .u8 (ys.getD i.toNat 0)) (by simp [encs, List.getD_eq_getElem?_getD, List.getElem?_eq_getElem hl])
  cases e
  exact hc

set_option maxHeartbeats 8000000 in
set_option maxRecDepth 100000 in
theorem roundW (u : Nat → Value) (g base : Nat) (rv : Value) (S rest : List Int) (n : Int) (w0 w : World) (h : HashAt w g base rv S rest n) (h64 : 64 ≤ rest.length) (hm : rest.length ≤ 140737488355328) (hf : Fr (fun k => k = g) w0 w)
    (Q : Exit → Act → World → Prop) (hQ : ∀ a' w' rv', Fm 55 a' → sl a' 0 = .pointer (some ⟨g, 0, none⟩) → sl a' 6 = u 6 → sl a' 7 = u 7 → sl a' 8 = u 8 → Fr (fun k => k = g) w0 w' → rv'.ownBlock = rv.ownBlock → HashAt w' g base rv' (compress S (rest.take 64)) (rest.drop 64) n → Q .normal a' w') :
    Code.wp Try.prog (bodyIn Try.f65 0 0) Q ⟨#[.pointer (some ⟨g, 0, none⟩), u 1, u 2, u 3, u 4, u 5, u 6, u 7, u 8, u 9, u 10, u 11, u 12, u 13, u 14, u 15, u 16, u 17, u 18, u 19, u 20, u 21, u 22, u 23, u 24, u 25, u 26, u 27, u 28, u 29, u 30, u 31, u 32, u 33, u 34, u 35, u 36, u 37, u 38, u 39, u 40, u 41, u 42, u 43, u 44, u 45, u 46, u 47, u 48, u 49, u 50, u 51, u 52, u 53, u 54], []⟩ w := by
  obtain ⟨A, c, rfl, hc⟩ := h.row.slice
  obtain ⟨x, r', hr'⟩ := List.exists_cons_of_ne_nil (show rest ≠ [] by intro e; rw [e] at h64; simp at h64)
  obtain ⟨ad, rfl, _⟩ := h.row.rd 0 (.int .u8 x) (by rw [hr']; rfl)
  clear hr'
  have hcell := (cells_hash h.len h.heap).1
  obtain ⟨i0, hi0, _, hsz, _⟩ := info_parts info5
  have hcut := cut_to (P := Try.prog) 29 5 .i64 Try.underlying29 hi0 (some ad) rest.length c 64 (by decide) (by omega) hc
  rw [show (64 : Int).toNat = 64 from rfl] at hcut
  have hcut2 := cut_from (P := Try.prog) 29 5 .i64 Try.underlying29 hi0 1 hsz (some ad) rest.length c 64 (by decide) (by omega)
  rw [show (64 : Int).toNat = 64 from rfl, Nat.mul_one] at hcut2
  have hown : (Value.slice (if c = 64 then some ad else (some ad).map (·.add 64)) (rest.length - 64) (c - 64)).ownBlock = (Value.slice (some ad) rest.length c).ownBlock := own_cut _ _ _ _ _ _
  have hdrop : ∀ w', QB w' base (.slice (some ad) rest.length c) rest → QB w' base (Value.slice (if c = 64 then some ad else (some ad).map (·.add 64)) (rest.length - 64) (c - 64)) (rest.drop 64) := fun w' hq => hq.drop 64 h64
  obtain ⟨A2, hv2⟩ : ∃ v, (if c = 64 then some ad else (some ad).map (·.add 64)) = v := ⟨_, rfl⟩
  rw [hv2] at hcut2 hown hdrop
  clear hv2
  have HH := Aside0.mk (And.intro h (And.intro hf (And.intro hown hdrop)))
  clear h hf hown hdrop
  have c0 : decide (64 ≤ (rest.length : Int)) = true := decide_eq_true (by omega)
  conv => arg 2; whnf
  go_wp2
  refine region_tail 8 (by kernel_rfl) (by kernel_rfl) ?_
  intro w3 e3
  have hc3 : w3.cell? ⟨g, 8, none⟩ = some (.slice (some ad) rest.length c) := by rw [e3]; simpa using hcell
  have h3 : HashAt w3 g base (.slice (some ad) rest.length c) S rest n := by rw [e3]; exact ⟨HH.out.1.heap, HH.out.1.len, q_move HH.out.1.row (fun _ _ => rfl), HH.out.1.ne⟩
  have hf3 : Fr (fun k => k = g) w0 w3 := by rw [e3]; exact HH.out.2.1.of_drew
  have HK := Aside0.mk HH.out.2.2
  clear HH hcell e3
  have HH := Aside0.mk (And.intro h3 hf3)
  clear h3 hf3
  simp only [List.take_succ_cons, List.take_zero, List.drop_succ_cons, List.drop_zero]
  repeat still_step
  refine wpStill_nil ?_
  go_wp2_with (fail)
  refine (block_calls g S HH.out.1.len [.slice (some ad) rest.length c, .int .u64 n] 128 ad c (rest.take 64) w3 HH.out.1.heap (fun i i0 i1 => ?_)).mono ?_
  · have := (HH.out.1.row.rd.mid 0 64).cells i i0 (by rw [List.length_take, List.drop_zero]; omega)
    rw [List.drop_zero] at this
    exact this
  rintro e w4 ⟨rfl, hf4, hg4⟩
  have hl4 : (compress S (rest.take 64)).length = 8 := (compress_len _ _).trans HH.out.1.len
  have hq4 : QB w4 base (.slice (some ad) rest.length c) rest := HH.out.1.row.fr hf4 (fun k hk e => HH.out.1.ne (by rw [hk, e]))
  have hc4 := (cells_hash hl4 hg4).1
  have fz := frozenV hg4 8
  have HN := Aside0.mk (And.intro hg4 (And.intro hl4 (And.intro hq4 (And.intro (HH.out.2.trans hf4 (fun i h => .inl h)) HH.out.1.ne))))
  clear HH hf4 hg4 hl4 hq4 hc3 hcut
  go_wp2
  refine hQ _ _ (.slice A2 (rest.length - 64) (c - 64)) ⟨rfl, rfl⟩ rfl rfl rfl rfl ?_ HK.out.1 ⟨?_, HN.out.2.1, ?_, ?_⟩
  · exact HN.out.2.2.2.1.setCell (.inl rfl) _
  · exact set_hash8 HN.out.2.1 HN.out.1 _
  · refine QB.fr (HK.out.2 w4 HN.out.2.2.1) ((Fr.refl (fun k => k = g) w4).setCell (.inl rfl) _) (fun k hk e => ?_)
    rw [HK.out.1] at hk
    exact HN.out.2.2.2.2 (by rw [hk, e])
  · rw [HK.out.1]
    exact HN.out.2.2.2.2
set_option maxHeartbeats 8000000 in
set_option maxRecDepth 100000 in
theorem exitW (u : Nat → Value) (g : Nat) (A : Option Addr) (c k : Nat) (hk : k < 64) (w : World) (hc : w.cell? ⟨g, 8, none⟩ = some (.slice A k c)) (Q : Exit → Act → World → Prop) (hQ : ∀ a', Fm 55 a' → sl a' 0 = .pointer (some ⟨g, 0, none⟩) → sl a' 6 = u 6 → sl a' 7 = u 7 → sl a' 8 = u 8 → Q (.exit 2) a' w) :
    Code.wp Try.prog (bodyIn Try.f65 0 0) Q ⟨#[.pointer (some ⟨g, 0, none⟩), u 1, u 2, u 3, u 4, u 5, u 6, u 7, u 8, u 9, u 10, u 11, u 12, u 13, u 14, u 15, u 16, u 17, u 18, u 19, u 20, u 21, u 22, u 23, u 24, u 25, u 26, u 27, u 28, u 29, u 30, u 31, u 32, u 33, u 34, u 35, u 36, u 37, u 38, u 39, u 40, u 41, u 42, u 43, u 44, u 45, u 46, u 47, u 48, u 49, u 50, u 51, u 52, u 53, u 54], []⟩ w := by
  have c0 : decide (64 ≤ (k : Int)) = false := decide_eq_false (by omega)
  conv => arg 2; whnf
  go_wp2
  exact hQ _ ⟨rfl, rfl⟩ rfl rfl rfl rfl
def JW (s6 s7 s8 : Value) (g base : Nat) (own : Option Nat) (S r : List Int) (n : Int) (w0 : World) (t : Nat) (a : Act) (w : World) : Prop :=
  Fm 55 a ∧ sl a 0 = .pointer (some ⟨g, 0, none⟩) ∧ sl a 6 = s6 ∧ sl a 7 = s7 ∧ sl a 8 = s8 ∧ Fr (fun k => k = g) w0 w ∧ ∃ rv, rv.ownBlock = own ∧ HashAt w g base rv (run t S r) (r.drop (64 * t)) n
theorem loopW (s6 s7 s8 : Value) (g base : Nat) (own : Option Nat) (S r : List Int) (n : Int) (hm : r.length ≤ 140737488355328) (w0 : World)
    (Q : Exit → Act → World → Prop) (hQ : ∀ a' w' rv', Fm 55 a' → sl a' 0 = .pointer (some ⟨g, 0, none⟩) → sl a' 6 = s6 → sl a' 7 = s7 → sl a' 8 = s8 → Fr (fun k => k = g) w0 w' → rv'.ownBlock = own → HashAt w' g base rv' (run (r.length / 64) S r) (r.drop (64 * (r.length / 64))) n → Q (.exit 2) a' w')
    (a : Act) (w : World) (h : JW s6 s7 s8 g base own S r n w0 0 a w) : (Code.loop (bodyIn Try.f65 0 0)).wp Try.prog Q a w := by
  refine wp_loop_up (r.length / 64) (JW s6 s7 s8 g base own S r n w0) h ?_
  rintro t a w ht ⟨hF, h0, h6, h7, h8, hf, rv, ho, hH⟩
  have ha := fm55 hF
  rw [h0] at ha
  by_cases h64 : t = r.length / 64
  · subst h64
    obtain ⟨A, c, rfl, hc⟩ := hH.row.slice
    rw [ha]
    exact exitW (sl a) g A c _ (by rw [List.length_drop]; omega) w (cells_hash hH.len hH.heap).1 _ fun a' b0 b1 b2 b3 b4 => hQ _ _ _ b0 b1 (b2.trans h6) (b3.trans h7) (b4.trans h8) hf ho hH
  · rw [ha]
    refine roundW (sl a) g base rv _ _ n w0 w hH (by rw [List.length_drop]; omega) (by rw [List.length_drop]; omega) hf _ ?_
    intro a' w' rv' b0 b1 b2 b3 b4 b5 b6 b7
    refine ⟨by omega, b0, b1, b2.trans h6, b3.trans h7, b4.trans h8, b5, rv', b6.trans ho, ?_⟩
    rw [run_succ, show 64 * (t + 1) = 64 * t + 64 by omega, ← List.drop_drop]
    exact b7
end Go.Proofs.Ytnabilhcmplhcaa.Sha

/-
  Write, whole.
-/
set_option linter.unusedVariables false
set_option linter.unusedSimpArgs false
namespace Go.Proofs.Ytnabilhcmplhcaa.Sha
open Go.RowKit Go.Proofs.YtnabilhcmplhcaaW.PrintWords Go.Proofs.YtnabilhcmplhcaaW.PrintLast Go.Proofs.YtnabilhcmplhcaaW.PrintMore Go.Proofs.Ytnabilhcmplhcaa.Q Go.Proofs.Ytnabilhcmplhcaa.Fr Go.Proofs.Ytnabilhcmplhcaa.Oct

theorem Fr.set1 (w : World) (g i : Nat) (v : Value) : Fr (fun k => k = g) w (w.setCell ⟨g, i, none⟩ v) := (Fr.refl (fun k => k = g) w).setCell (p := ⟨g, i, none⟩) (.inl rfl) v
/-- Lists of bytes that can be read, none of it in S. -/
def Parts (w : World) (A : Option Addr) (PS : List (List Int)) (S : Nat → Prop) : Prop := ∀ (i : Nat) (p : List Int), PS[i]? = some p → ∃ ad A0 c0, A = some ad ∧ w.cell? (ad.add i) = some (.slice A0 p.length c0) ∧ p.length ≤ c0 ∧ ¬ S ad.block ∧
  ∀ (j : Nat) (u : Value), (encs (Value.int .u8) p)[j]? = some u → ∃ ad0, A0 = some ad0 ∧ ¬ S ad0.block ∧ w.cell? (ad0.add j) = some u
theorem Parts.fr {w w' : World} {A : Option Addr} {PS : List (List Int)} {S S' : Nat → Prop} (h : Parts w A PS S) (hf : Fr S' w w') (hS : ∀ k, S' k → S k) : Parts w' A PS S := fun i p hp => by
  obtain ⟨ad, A0, c0, e, hc, hl, hn, hr⟩ := h i p hp
  refine ⟨ad, A0, c0, e, hf.cell hc (by rw [addr_block]; exact fun h => hn (hS _ h)), hl, hn, fun j u hu => ?_⟩
  obtain ⟨ad0, e0, hn0, hc0⟩ := hr j u hu
  exact ⟨ad0, e0, hn0, hf.cell hc0 (by rw [addr_block]; exact fun h => hn0 (hS _ h))⟩
theorem Parts.wide {w : World} {A : Option Addr} {PS : List (List Int)} {S : Nat → Prop} (h : Parts w A PS S) : Parts w A PS (fun k => S k ∨ w.heap.size ≤ k) := fun i p hp => by
  obtain ⟨ad, A0, c0, e, hc, hl, hn, hr⟩ := h i p hp
  have h1 := World.block_lt_of_cell? w _ hc
  rw [addr_block] at h1
  refine ⟨ad, A0, c0, e, hc, hl, fun h => h.elim hn (fun h2 => by omega), fun j u hu => ?_⟩
  obtain ⟨ad0, e0, hn0, hc0⟩ := hr j u hu
  have h2 := World.block_lt_of_cell? w _ hc0
  rw [addr_block] at h2
  exact ⟨ad0, e0, fun h => h.elim hn0 (fun h3 => by omega), hc0⟩

/-- A piece is fed to a hash. -/
def feed (s : List Int × List Int × Int) (p : List Int) : List Int × List Int × Int :=
  (run ((s.2.1 ++ p).length / 64) s.1 (s.2.1 ++ p), (s.2.1 ++ p).drop (64 * ((s.2.1 ++ p).length / 64)), IntKind.u64.wrap (s.2.2 + (p.length : Int)))

set_option maxHeartbeats 8000000 in
set_option maxRecDepth 100000 in
theorem roundX (u : Nat → Value) (g base : Nat) (rv : Value) (S rest : List Int) (n : Int) (A : Option Addr) (c k i : Nat) (hi : i < k) (hk : k ≤ 9223372036854775807) (p : List Int) (NS : Nat → Prop) (w0 w : World) (h : HashAt w g base rv S rest n) (hb : base ≤ w.heap.size) (hm : rest.length + p.length ≤ 140737488355328) (hp8 : p.length ≤ 9223372036854775807) (hf : Fr NS w0 w) (hgN : NS g) (hoN : ∀ j, rv.ownBlock = some j → NS j) (hnew : ∀ j, w.heap.size ≤ j → NS j)
    (ad : Addr) (A0 : Option Addr) (c0 : Nat) (hA : A = some ad) (hcell : w.cell? (ad.add i) = some (.slice A0 p.length c0)) (hc0 : p.length ≤ c0) (hadN : ¬ NS ad.block)
    (hr : ∀ (j : Nat) (u : Value), (encs (Value.int .u8) p)[j]? = some u → ∃ ad0, A0 = some ad0 ∧ ¬ NS ad0.block ∧ w.cell? (ad0.add j) = some u)
    (Q : Exit → Act → World → Prop) (hQ : ∀ a' w' rv', Fm 55 a' → sl a' 0 = .pointer (some ⟨g, 0, none⟩) → sl a' 6 = .slice A k c → sl a' 7 = .int .i64 (k : Int) → sl a' 8 = .int .i64 ((i : Int) + 1) → Fr NS w0 w' → (rv'.ownBlock = rv.ownBlock ∨ ∃ b, rv'.ownBlock = some b ∧ w.heap.size ≤ b) → w.heap.size ≤ w'.heap.size →
      HashAt w' g base rv' (feed (S, rest, n) p).1 (feed (S, rest, n) p).2.1 (feed (S, rest, n) p).2.2 → Q .normal a' w') :
    Code.wp Try.prog (bodyN Try.f65 0) Q ⟨#[.pointer (some ⟨g, 0, none⟩), u 1, u 2, u 3, u 4, u 5, .slice A k c, .int .i64 (k : Int), .int .i64 (i : Int), u 9, u 10, u 11, u 12, u 13, u 14, u 15, u 16, u 17, u 18, u 19, u 20, u 21, u 22, u 23, u 24, u 25, u 26, u 27, u 28, u 29, u 30, u 31, u 32, u 33, u 34, u 35, u 36, u 37, u 38, u 39, u 40, u 41, u 42, u 43, u 44, u 45, u 46, u 47, u 48, u 49, u 50, u 51, u 52, u 53, u 54], []⟩ w := by
  subst hA
  have k8 := (cells_hash h.len h.heap).1
  have k9 := (cells_hash h.len h.heap).2
  have z8 := frozenV h.heap 8
  have z9 := frozenV h.heap 9
  obtain ⟨Ar, cr, rfl, hcr⟩ := h.row.slice
  have HH := Aside0.mk (And.intro h (And.intro hf hr))
  clear h hf hr
  have b0 : decide ((i : Int) < (k : Int)) = true := decide_eq_true (by omega)
  have b1 : (0 : Int) ≤ (i : Int) := by omega
  have b2 : (i : Int) < (k : Int) := by omega
  conv => arg 2; whnf
  go_wp2_with (first | ((with_reducible refine gate_builtin (b := .append) (xs := #[.tmp 26, .tmp 27]) rfl ?_); at_builtin; refine Aside0.out ?_))
  refine ⟨?_⟩
  obtain ⟨n', en⟩ : ∃ n', IntKind.u64.wrap (n + (p.length : Int)) = n' := ⟨_, rfl⟩
  rw [en]
  obtain ⟨r, er⟩ : ∃ r, rest ++ p = r := ⟨_, rfl⟩
  have elen : r.length ≤ 140737488355328 := by rw [← er, List.length_append]; exact hm
  have efeed : feed (S, rest, n) p = (run (r.length / 64) S r, r.drop (64 * (r.length / 64)), n') := by simp only [feed, er, en]
  rw [efeed] at hQ
  have hS := HH.out.1.len
  have hg1 := set_hash9 hS HH.out.1.heap (.int .u64 n')
  have hf1 : Fr (fun k => k = g) w (w.setCell ⟨g, 9, none⟩ (.int .u64 n')) := Fr.set1 _ _ _ _
  have hq1 := HH.out.1.row.fr hf1 (fun k hk e => HH.out.1.ne (by rw [hk, e]))
  have hr1 : Rd (w.setCell ⟨g, 9, none⟩ (.int .u64 n')) A0 p := fun j u hu => by
    obtain ⟨ad0, e0, hn0, hc⟩ := HH.out.2.2 j u hu
    exact ⟨ad0, e0, hf1.cell hc (by rw [addr_block]; exact fun e => hn0 (by rw [e]; exact hgN))⟩
  have F1 := HH.out.2.1.trans hf1 (S := NS) (fun i h => .inl (by rw [h]; exact hgN))
  have lt1 : (w.setCell ⟨g, 9, none⟩ (.int .u64 n')).heap.size = w.heap.size := by simp [World.setCell]
  have hne := HH.out.1.ne
  generalize w.setCell ⟨g, 9, none⟩ (.int .u64 n') = w1 at *
  refine wpList_appq rfl (by rfl) base _ _ (by rfl) info5 (.slice Ar rest.length cr) rest (by rfl) hq1 A0 p.length c0 p (by rfl) rfl hr1 hm (by omega) ?_
  intro v2 w2 hq2 hf2 hat2
  rw [er] at hq2
  have hg2 := hf2.blk hg1 (fun e => hne e.symm)
  have lt2 := hf2.size
  have F2 := F1.trans hf2 (S := NS) (fun i h => .inl (hoN i h.symm))
  have hglt : g < w.heap.size := blk_lt HH.out.1.heap
  have hne2 : v2.ownBlock ≠ some g := by
    rcases hat2 with e | ⟨b, e, hb⟩
    · rw [e]; exact hne
    · rw [e]; intro e2; injection e2 with e2; omega
  have hat3 : v2.ownBlock = (Value.slice Ar rest.length cr).ownBlock ∨ ∃ b, v2.ownBlock = some b ∧ w.heap.size ≤ b := by
    rcases hat2 with e | ⟨b, e, hb⟩
    · exact .inl e
    · exact .inr ⟨b, e, by omega⟩
  obtain ⟨A2, c2, rfl, hc2⟩ := hq2.slice
  have y8 := (cells_hash hS hg2).1
  have x8 := frozenV hg2 8
  have HK := Aside0.mk (And.intro hg2 (And.intro hq2 (And.intro F2 (And.intro hat3 (And.intro hne2 hS)))))
  clear HH hg1 hf1 hq1 hr1 F1 hg2 hf2 hat2 hq2 F2 hat3 hne2 hne hS z8 z9 k8 k9 hcell
  go_wp2
  have hf3 : Fr (fun k => k = g) w2 (w2.setCell ⟨g, 8, none⟩ (.slice A2 r.length c2)) := Fr.set1 _ _ _ _
  have hg3 := set_hash8 HK.out.2.2.2.2.2 HK.out.1 (.slice A2 r.length c2)
  have hq3 := QB.fr HK.out.2.1 hf3 (fun k hk e => HK.out.2.2.2.2.1 (by rw [hk, e]))
  clear er efeed en hcr
  refine loopW (.slice (some ad) k c) (.int .i64 (k : Int)) (.int .i64 (i : Int)) g base (Value.slice A2 r.length c2).ownBlock S r n' elen (w2.setCell ⟨g, 8, none⟩ (.slice A2 r.length c2)) _ ?_ _ _ ⟨⟨rfl, rfl⟩, rfl, rfl, rfl, rfl, Fr.refl _ _, _, rfl, ⟨hg3, HK.out.2.2.2.2.2, hq3, HK.out.2.2.2.2.1⟩⟩
  intro a' w4 rv' hFm j0 j6 j7 j8 jf jo jH
  rw [fm55 hFm, j0, j6, j7, j8]
  have lt4 := jf.size
  have lt3 := hf3.size
  have F4 := (HK.out.2.2.1.trans hf3 (S := NS) (fun i h => .inl (by rw [h]; exact hgN))).trans jf (S := NS) (fun i h => .inl (by rw [h]; exact hgN))
  have HJ := Aside0.mk (And.intro F4 (And.intro jH (And.intro jo HK.out.2.2.2.1)))
  clear F4 jH jo HK hg3 hq3 hf3 hFm j0 j6 j7 j8 jf y8 x8
  go_wp2
  exact hQ _ _ rv' ⟨rfl, rfl⟩ rfl rfl rfl rfl HJ.out.1 (by rw [HJ.out.2.2.1]; exact HJ.out.2.2.2) (by omega) HJ.out.2.1

set_option maxHeartbeats 8000000 in
set_option maxRecDepth 100000 in
theorem exitX (u : Nat → Value) (k : Nat) (w : World) (Q : Exit → Act → World → Prop) (hQ : ∀ a', Fm 55 a' → Q (.exit 0) a' w) :
    Code.wp Try.prog (bodyN Try.f65 0) Q ⟨#[u 0, u 1, u 2, u 3, u 4, u 5, u 6, .int .i64 (k : Int), .int .i64 (k : Int), u 9, u 10, u 11, u 12, u 13, u 14, u 15, u 16, u 17, u 18, u 19, u 20, u 21, u 22, u 23, u 24, u 25, u 26, u 27, u 28, u 29, u 30, u 31, u 32, u 33, u 34, u 35, u 36, u 37, u 38, u 39, u 40, u 41, u 42, u 43, u 44, u 45, u 46, u 47, u 48, u 49, u 50, u 51, u 52, u 53, u 54], []⟩ w := by
  have c0 : decide ((k : Int) < (k : Int)) = false := by simp
  conv => arg 2; whnf
  go_wp2
  exact ⟨rfl, rfl⟩
/-- The blocks that a hash may write: its own, its row's, and new ones. -/
def Foot (g : Nat) (own : Option Nat) (N : Nat) (k : Nat) : Prop := (k = g ∨ some k = own) ∨ N ≤ k
theorem Fr.narrow {g : Nat} {own : Option Nat} {w w' : World} (h : Fr (Foot g own w.heap.size) w w') : Fr (fun k => k = g ∨ some k = own) w w' :=
  ⟨h.os, h.tape, h.output, h.size, fun k hk hn => h.block k hk (fun hN => hN.elim hn (fun h2 => by omega))⟩
theorem feed_len (s : List Int × List Int × Int) (p : List Int) : (feed s p).2.1.length < 64 := by
  simp only [feed, List.length_drop]
  omega
def JX (g base : Nat) (own : Option Nat) (A : Option Addr) (c : Nat) (PS : List (List Int)) (s : List Int × List Int × Int) (w0 : World) (t : Nat) (a : Act) (w : World) : Prop :=
  Fm 55 a ∧ sl a 0 = .pointer (some ⟨g, 0, none⟩) ∧ sl a 6 = .slice A PS.length c ∧ sl a 7 = .int .i64 (PS.length : Int) ∧ sl a 8 = .int .i64 (t : Int) ∧ Fr (Foot g own w0.heap.size) w0 w ∧ ((PS.take t).foldl feed s).2.1.length < 64 ∧
    ∃ rv : Value, (rv.ownBlock = own ∨ ∃ b, rv.ownBlock = some b ∧ w0.heap.size ≤ b) ∧ HashAt w g base rv ((PS.take t).foldl feed s).1 ((PS.take t).foldl feed s).2.1 ((PS.take t).foldl feed s).2.2
theorem loopX (g base : Nat) (own : Option Nat) (A : Option Addr) (c : Nat) (PS : List (List Int)) (hk : PS.length ≤ 9223372036854775807) (hlen : ∀ p ∈ PS, p.length + 64 ≤ 140737488355328) (s : List Int × List Int × Int) (w0 : World) (hb : base ≤ w0.heap.size)
    (hp : Parts w0 A PS (fun k => k = g ∨ some k = own))
    (Q : Exit → Act → World → Prop) (hQ : ∀ a' w' rv', Fm 55 a' → Fr (Foot g own w0.heap.size) w0 w' → (PS.foldl feed s).2.1.length < 64 → (rv'.ownBlock = own ∨ ∃ b, rv'.ownBlock = some b ∧ w0.heap.size ≤ b) → HashAt w' g base rv' (PS.foldl feed s).1 (PS.foldl feed s).2.1 (PS.foldl feed s).2.2 → Q (.exit 0) a' w')
    (a : Act) (w : World) (h : JX g base own A c PS s w0 0 a w) : (Code.loop (bodyN Try.f65 0)).wp Try.prog Q a w := by
  refine wp_loop_up PS.length (JX g base own A c PS s w0) h ?_
  rintro t a w ht ⟨hF, h0, h6, h7, h8, hf, hl, rv, ho, hH⟩
  have ha := fm55 hF
  by_cases h64 : t = PS.length
  · subst h64
    rw [h7, h8] at ha
    rw [ha]
    rw [List.take_length] at hH hl
    exact exitX (sl a) _ w _ fun a' b0 => hQ _ _ rv b0 hf hl ho hH
  · have hlt : t < PS.length := by omega
    obtain ⟨p, hpt⟩ : ∃ p, PS[t]? = some p := ⟨_, List.getElem?_eq_getElem hlt⟩
    have hpm : p ∈ PS := List.mem_of_getElem? hpt
    have hPw : Parts w A PS (Foot g own w0.heap.size) := (hp.wide).fr hf (fun k h => h)
    obtain ⟨ad, A0, c0, e, hc, hl0, hn, hr⟩ := hPw t p hpt
    have hsz := hf.size
    rw [h0, h6, h7, h8] at ha
    rw [ha]
    refine roundX (sl a) g base rv _ _ _ A c PS.length t hlt hk p (Foot g own w0.heap.size) w0 w hH (by omega) (by have := hlen p hpm; omega) (by have := hlen p hpm; omega) hf (.inl (.inl rfl)) (fun j hj => ?_) (fun j hj => .inr (by omega)) ad A0 c0 e hc hl0 hn hr _ ?_
    · rcases ho with ho | ⟨b, hb, hb2⟩
      · exact .inl (.inr (by rw [← hj, ho]))
      · rw [hb] at hj; injection hj with hj; exact .inr (by omega)
    · intro a' w' rv' b0 b1 b2 b3 b4 b5 b6 b7 b8
      have ef : (PS.take (t + 1)).foldl feed s = feed ((PS.take t).foldl feed s) p := by
        rw [List.take_succ_eq_append_getElem hlt, List.foldl_append]
        have : PS[t] = p := by rw [List.getElem?_eq_getElem hlt] at hpt; exact Option.some.inj hpt
        rw [this]; rfl
      refine ⟨hlt, b0, b1, b2, b3, by rw [b4]; congr 1, b5, by rw [ef]; exact feed_len _ _, rv', ?_, by rw [ef]; exact b8⟩
      rcases b6 with b6 | ⟨b, hb6, hb7⟩
      · rw [b6]; exact ho
      · exact .inr ⟨b, hb6, by omega⟩

set_option maxHeartbeats 8000000 in
set_option maxRecDepth 100000 in
/-- Write: the pieces are fed one by one. -/
theorem Write_calls (g base : Nat) (rv : Value) (S rest : List Int) (n : Int) (A : Option Addr) (c : Nat) (PS : List (List Int)) (hk : PS.length ≤ 9223372036854775807) (hlen : ∀ p ∈ PS, p.length + 64 ≤ 140737488355328) (w : World) (h : HashAt w g base rv S rest n) (hrest : rest.length < 64) (hb : base ≤ w.heap.size)
    (hp : Parts w A PS (fun k => k = g ∨ some k = rv.ownBlock)) :
    Calls Try.prog 65 #[.pointer (some ⟨g, 0, none⟩), .slice A PS.length c] w fun e w' => e = .returned (.tuple #[]) ∧ Fr (fun k => k = g ∨ some k = rv.ownBlock) w w' ∧ (PS.foldl feed (S, rest, n)).2.1.length < 64 ∧
      ∃ rv' : Value, (rv'.ownBlock = rv.ownBlock ∨ ∃ b, rv'.ownBlock = some b ∧ w.heap.size ≤ b) ∧ HashAt w' g base rv' (PS.foldl feed (S, rest, n)).1 (PS.foldl feed (S, rest, n)).2.1 (PS.foldl feed (S, rest, n)).2.2 := by
  have HH := Aside0.mk (And.intro h (And.intro hlen hp))
  clear h hlen hp
  go_enter Try.func65, Try.ntmps65
  go_wp2
  refine loopX g base rv.ownBlock A c PS hk HH.out.2.1 (S, rest, n) w hb HH.out.2.2 _ ?_ _ _ ⟨⟨rfl, rfl⟩, rfl, rfl, rfl, rfl, Fr.refl _ _, hrest, rv, .inl rfl, HH.out.1⟩
  intro a' w' rv' hFm jf jl jo jH
  rw [fm55 hFm]
  have HJ := Aside0.mk (And.intro jf (And.intro jl (And.intro jo jH)))
  clear jf jl jo jH hFm HH
  go_wp2
  refine bodyPost_end (results_none rfl _ _ _) rfl ?_
  exact ⟨rfl, Sha.Fr.narrow HJ.out.1, HJ.out.2.1, rv', HJ.out.2.2.1, HJ.out.2.2.2⟩
end Go.Proofs.Ytnabilhcmplhcaa.Sha

/-
  Sum: the loops.
-/
set_option linter.unusedVariables false
set_option linter.unusedSimpArgs false
namespace Go.Proofs.Ytnabilhcmplhcaa.Sha
open Go.RowKit Go.Proofs.YtnabilhcmplhcaaW.PrintWords Go.Proofs.YtnabilhcmplhcaaW.PrintLast Go.Proofs.YtnabilhcmplhcaaW.PrintMore Go.Proofs.Ytnabilhcmplhcaa.Q Go.Proofs.Ytnabilhcmplhcaa.Fr Go.Proofs.Ytnabilhcmplhcaa.Oct

set_option maxHeartbeats 8000000 in
set_option maxRecDepth 100000 in
theorem roundZ (u : Nat → Value) (v : Value) (xs : List Int) (base : Nat) (w0 w : World) (hb0 : w0.heap.size ≤ base) (hb : base ≤ w.heap.size) (hl : xs.length < 140737488355000) (hne : xs.length % 64 ≠ 56) (hq : QB w base v xs) (hf : Fr (fun _ => False) w0 w)
    (Q : Exit → Act → World → Prop) (hQ : ∀ a' w', Fm 72 a' → sl a' 0 = u 0 → sl a' 3 = u 3 → QB w' base (sl a' 4) (xs ++ [0]) → Fr (fun _ => False) w0 w' → base ≤ w'.heap.size → Q .normal a' w') :
    Code.wp Try.prog (bodyN Try.f66 0) Q ⟨#[u 0, u 1, u 2, u 3, v, u 5, u 6, u 7, u 8, u 9, u 10, u 11, u 12, u 13, u 14, u 15, u 16, u 17, u 18, u 19, u 20, u 21, u 22, u 23, u 24, u 25, u 26, u 27, u 28, u 29, u 30, u 31, u 32, u 33, u 34, u 35, u 36, u 37, u 38, u 39, u 40, u 41, u 42, u 43, u 44, u 45, u 46, u 47, u 48, u 49, u 50, u 51, u 52, u 53, u 54, u 55, u 56, u 57, u 58, u 59, u 60, u 61, u 62, u 63, u 64, u 65, u 66, u 67, u 68, u 69, u 70, u 71], []⟩ w := by
  have HQ := Aside0.mk hq
  have HF := Aside0.mk hf
  obtain ⟨A, c, rfl, _⟩ := hq.slice
  clear hq hf
  have c8 : ¬ ((xs.length : Int) % 64) = 56 := by omega
  have c8b0 : (((xs.length : Int) % 64) == 56) = false := beq_eq_false_iff_ne.mpr c8
  have c8b1 : (((xs.length : Int) % 64) != 56) = true := bne_iff_ne.mpr c8
  conv => arg 2; whnf
  go_wp2_with (first | ((with_reducible refine gate_builtin (b := .append) (xs := #[.tmp 26, .tmp 27]) rfl ?_); at_builtin; refine Aside0.out ?_))
  refine ⟨?_⟩
  refine wpList_appq rfl (by rfl) base _ _ (by rfl) info5 (.slice A xs.length c) xs (by rfl) (HQ.out.fr ((Fr.refl (fun _ => False) w).alloc _) (fun k hk h => h)) _ _ _ [0] (by rfl) (by rfl) (Rd.blk (heap_alloc_new _ _)) (by simp only [List.length_cons, List.length_nil]; omega) (by rw [World.size_alloc]; omega) ?_
  intro v1 w1 hq1 hf1 hat1
  have hF1 := (HF.out.alloc (.cells #[Value.int .u8 0] 5)).trans hf1 (S := fun _ => False) (fun k hk => .inr (by have := HQ.out.base k hk.symm; omega))
  have hs1 := hf1.size
  rw [World.size_alloc] at hs1
  clear hf1 HF HQ
  go_wp2
  exact hQ _ _ ⟨rfl, rfl⟩ rfl rfl hq1 hF1 (by omega)
set_option maxHeartbeats 8000000 in
set_option maxRecDepth 100000 in
theorem exitZ (u : Nat → Value) (A : Option Addr) (c k : Nat) (hk : k % 64 = 56) (w : World) (Q : Exit → Act → World → Prop) (hQ : ∀ a', Fm 72 a' → sl a' 0 = u 0 → sl a' 3 = u 3 → sl a' 4 = .slice A k c → Q (.exit 0) a' w) :
    Code.wp Try.prog (bodyN Try.f66 0) Q ⟨#[u 0, u 1, u 2, u 3, .slice A k c, u 5, u 6, u 7, u 8, u 9, u 10, u 11, u 12, u 13, u 14, u 15, u 16, u 17, u 18, u 19, u 20, u 21, u 22, u 23, u 24, u 25, u 26, u 27, u 28, u 29, u 30, u 31, u 32, u 33, u 34, u 35, u 36, u 37, u 38, u 39, u 40, u 41, u 42, u 43, u 44, u 45, u 46, u 47, u 48, u 49, u 50, u 51, u 52, u 53, u 54, u 55, u 56, u 57, u 58, u 59, u 60, u 61, u 62, u 63, u 64, u 65, u 66, u 67, u 68, u 69, u 70, u 71], []⟩ w := by
  have c8 : ((k : Int) % 64) = 56 := by omega
  have c8b0 : (((k : Int) % 64) == 56) = true := beq_iff_eq.mpr c8
  have c8b1 : (((k : Int) % 64) != 56) = false := bne_eq_false_iff_eq.mpr c8
  conv => arg 2; whnf
  go_wp2
  exact hQ _ ⟨rfl, rfl⟩ rfl rfl rfl
theorem loopZ (s0 s3 : Value) (xs : List Int) (z : Nat) (hz : (xs.length + z) % 64 = 56) (hz64 : z < 64) (hl : xs.length < 140737488354000) (base : Nat) (w0 : World) (hb0 : w0.heap.size ≤ base)
    (Q : Exit → Act → World → Prop) (hQ : ∀ a' w', Fm 72 a' → sl a' 0 = s0 → sl a' 3 = s3 → QB w' base (sl a' 4) (xs ++ List.replicate z 0) → Fr (fun _ => False) w0 w' → base ≤ w'.heap.size → Q (.exit 0) a' w')
    (a : Act) (w : World) (h : Fm 72 a ∧ sl a 0 = s0 ∧ sl a 3 = s3 ∧ QB w base (sl a 4) xs ∧ Fr (fun _ => False) w0 w ∧ base ≤ w.heap.size) : (Code.loop (bodyN Try.f66 0)).wp Try.prog Q a w := by
  refine wp_loop_up z (fun t a w => Fm 72 a ∧ sl a 0 = s0 ∧ sl a 3 = s3 ∧ QB w base (sl a 4) (xs ++ List.replicate t 0) ∧ Fr (fun _ => False) w0 w ∧ base ≤ w.heap.size) (by rw [List.replicate_zero, List.append_nil]; exact h) ?_
  rintro t a w ht ⟨hF, h0, h3, hq, hf, hb⟩
  have ha := fm72 hF
  have hlen : (xs ++ List.replicate t (0 : Int)).length = xs.length + t := by rw [List.length_append, List.length_replicate]
  by_cases h64 : t = z
  · subst h64
    obtain ⟨A, c, e, hc⟩ := hq.slice
    rw [e] at ha
    rw [ha]
    exact exitZ (sl a) A c _ (by rw [hlen]; exact hz) w _ fun a' b0 b1 b2 b3 => hQ _ _ b0 (b1.trans h0) (b2.trans h3) (by rw [b3, ← e]; exact hq) hf hb
  · rw [ha]
    refine roundZ (sl a) (sl a 4) _ base w0 w hb0 hb (by omega) (by rw [hlen]; omega) hq hf _ ?_
    intro a' w' b0 b1 b2 b3 b4 b5
    refine ⟨by omega, b0, b1.trans h0, b2.trans h3, ?_, b4, b5⟩
    rw [List.append_assoc, show List.replicate t (0 : Int) ++ [0] = List.replicate (t + 1) 0 from (List.replicate_succ' ..).symm] at b3
    exact b3

/-! ### eight bytes -/
def byteAt8 (n : Int) (i : Nat) : Int := n / 2 ^ (8 * i) % 256
theorem be8_at (n : Int) : be8 n = [byteAt8 n 7, byteAt8 n 6, byteAt8 n 5, byteAt8 n 4, byteAt8 n 3, byteAt8 n 2, byteAt8 n 1, byteAt8 n 0] := by
  simp [be8, byteAt8]
set_option maxHeartbeats 8000000 in
set_option maxRecDepth 100000 in
theorem roundL (u : Nat → Value) (g : Nat) (v : Value) (n : Int) (i : Nat) (hi : i = 7 ∨ i = 6 ∨ i = 5 ∨ i = 4 ∨ i = 3 ∨ i = 2 ∨ i = 1 ∨ i = 0) (hn0 : 0 ≤ n) (hn : n < 140737488355328) (xs : List Int) (base : Nat) (w0 w : World) (hcell : w.cell? ⟨g, 9, none⟩ = some (.int .u64 n)) (hb0 : w0.heap.size ≤ base) (hb : base ≤ w.heap.size) (hl : xs.length < 140737488355000) (hq : QB w base v xs) (hf : Fr (fun _ => False) w0 w)
    (Q : Exit → Act → World → Prop) (hQ : ∀ a' w', Fm 72 a' → sl a' 0 = .pointer (some ⟨g, 0, none⟩) → sl a' 3 = u 3 → sl a' 5 = .int .i64 (8 * (i : Int) - 8) → QB w' base (sl a' 4) (xs ++ [byteAt8 (n * 8) i]) → Fr (fun _ => False) w0 w' → base ≤ w'.heap.size → Q .normal a' w') :
    Code.wp Try.prog (bodyN Try.f66 1) Q ⟨#[.pointer (some ⟨g, 0, none⟩), u 1, u 2, u 3, v, .int .i64 (8 * (i : Int)), u 6, u 7, u 8, u 9, u 10, u 11, u 12, u 13, u 14, u 15, u 16, u 17, u 18, u 19, u 20, u 21, u 22, u 23, u 24, u 25, u 26, u 27, u 28, u 29, u 30, u 31, u 32, u 33, u 34, u 35, u 36, u 37, u 38, u 39, u 40, u 41, u 42, u 43, u 44, u 45, u 46, u 47, u 48, u 49, u 50, u 51, u 52, u 53, u 54, u 55, u 56, u 57, u 58, u 59, u 60, u 61, u 62, u 63, u 64, u 65, u 66, u 67, u 68, u 69, u 70, u 71], []⟩ w := by
  have HQ := Aside0.mk hq
  have HF := Aside0.mk hf
  obtain ⟨A, c, rfl, _⟩ := hq.slice
  clear hq hf
  rcases hi with rfl | rfl | rfl | rfl | rfl | rfl | rfl | rfl
  · have hbt : byteAt8 (n * 8) 7 = 8 * n / 72057594037927936 := by simp [byteAt8] <;> omega
    rw [hbt] at hQ
    clear hbt
    conv => arg 2; whnf
    go_wp2_with (first | ((with_reducible refine gate_builtin (b := .append) (xs := #[.tmp 33, .tmp 42]) rfl ?_); at_builtin; refine Aside0.out ?_))
    refine ⟨?_⟩
    refine wpList_appq rfl (by rfl) base _ _ (by rfl) info5 (.slice A xs.length c) xs (by rfl) (HQ.out.fr ((Fr.refl (fun _ => False) w).alloc _) (fun k hk h => h)) _ _ _ [8 * n / 72057594037927936] (by rfl) (by rfl) (Rd.blk (heap_alloc_new _ _)) (by simp only [List.length_cons, List.length_nil]; omega) (by rw [World.size_alloc]; omega) ?_
    intro v1 w1 hq1 hf1 hat1
    have hF1 := (HF.out.alloc (.cells #[Value.int .u8 (8 * n / 72057594037927936)] 5)).trans hf1 (S := fun _ => False) (fun k hk => .inr (by have := HQ.out.base k hk.symm; omega))
    have hs1 := hf1.size
    rw [World.size_alloc] at hs1
    clear hf1 HF HQ hcell
    go_wp2
    exact hQ _ _ ⟨rfl, rfl⟩ rfl rfl rfl hq1 hF1 (by omega)
  · have hbt : byteAt8 (n * 8) 6 = 8 * n / 281474976710656 := by simp [byteAt8] <;> omega
    rw [hbt] at hQ
    clear hbt
    conv => arg 2; whnf
    go_wp2_with (first | ((with_reducible refine gate_builtin (b := .append) (xs := #[.tmp 33, .tmp 42]) rfl ?_); at_builtin; refine Aside0.out ?_))
    refine ⟨?_⟩
    refine wpList_appq rfl (by rfl) base _ _ (by rfl) info5 (.slice A xs.length c) xs (by rfl) (HQ.out.fr ((Fr.refl (fun _ => False) w).alloc _) (fun k hk h => h)) _ _ _ [8 * n / 281474976710656] (by rfl) (by rfl) (Rd.blk (heap_alloc_new _ _)) (by simp only [List.length_cons, List.length_nil]; omega) (by rw [World.size_alloc]; omega) ?_
    intro v1 w1 hq1 hf1 hat1
    have hF1 := (HF.out.alloc (.cells #[Value.int .u8 (8 * n / 281474976710656)] 5)).trans hf1 (S := fun _ => False) (fun k hk => .inr (by have := HQ.out.base k hk.symm; omega))
    have hs1 := hf1.size
    rw [World.size_alloc] at hs1
    clear hf1 HF HQ hcell
    go_wp2
    exact hQ _ _ ⟨rfl, rfl⟩ rfl rfl rfl hq1 hF1 (by omega)
  · have hbt : byteAt8 (n * 8) 5 = 8 * n / 1099511627776 % 256 := by simp [byteAt8] <;> omega
    rw [hbt] at hQ
    clear hbt
    conv => arg 2; whnf
    go_wp2_with (first | ((with_reducible refine gate_builtin (b := .append) (xs := #[.tmp 33, .tmp 42]) rfl ?_); at_builtin; refine Aside0.out ?_))
    refine ⟨?_⟩
    refine wpList_appq rfl (by rfl) base _ _ (by rfl) info5 (.slice A xs.length c) xs (by rfl) (HQ.out.fr ((Fr.refl (fun _ => False) w).alloc _) (fun k hk h => h)) _ _ _ [8 * n / 1099511627776 % 256] (by rfl) (by rfl) (Rd.blk (heap_alloc_new _ _)) (by simp only [List.length_cons, List.length_nil]; omega) (by rw [World.size_alloc]; omega) ?_
    intro v1 w1 hq1 hf1 hat1
    have hF1 := (HF.out.alloc (.cells #[Value.int .u8 (8 * n / 1099511627776 % 256)] 5)).trans hf1 (S := fun _ => False) (fun k hk => .inr (by have := HQ.out.base k hk.symm; omega))
    have hs1 := hf1.size
    rw [World.size_alloc] at hs1
    clear hf1 HF HQ hcell
    go_wp2
    exact hQ _ _ ⟨rfl, rfl⟩ rfl rfl rfl hq1 hF1 (by omega)
  · have hbt : byteAt8 (n * 8) 4 = 8 * n / 4294967296 % 256 := by simp [byteAt8] <;> omega
    rw [hbt] at hQ
    clear hbt
    conv => arg 2; whnf
    go_wp2_with (first | ((with_reducible refine gate_builtin (b := .append) (xs := #[.tmp 33, .tmp 42]) rfl ?_); at_builtin; refine Aside0.out ?_))
    refine ⟨?_⟩
    refine wpList_appq rfl (by rfl) base _ _ (by rfl) info5 (.slice A xs.length c) xs (by rfl) (HQ.out.fr ((Fr.refl (fun _ => False) w).alloc _) (fun k hk h => h)) _ _ _ [8 * n / 4294967296 % 256] (by rfl) (by rfl) (Rd.blk (heap_alloc_new _ _)) (by simp only [List.length_cons, List.length_nil]; omega) (by rw [World.size_alloc]; omega) ?_
    intro v1 w1 hq1 hf1 hat1
    have hF1 := (HF.out.alloc (.cells #[Value.int .u8 (8 * n / 4294967296 % 256)] 5)).trans hf1 (S := fun _ => False) (fun k hk => .inr (by have := HQ.out.base k hk.symm; omega))
    have hs1 := hf1.size
    rw [World.size_alloc] at hs1
    clear hf1 HF HQ hcell
    go_wp2
    exact hQ _ _ ⟨rfl, rfl⟩ rfl rfl rfl hq1 hF1 (by omega)
  · have hbt : byteAt8 (n * 8) 3 = 8 * n / 16777216 % 256 := by simp [byteAt8] <;> omega
    rw [hbt] at hQ
    clear hbt
    conv => arg 2; whnf
    go_wp2_with (first | ((with_reducible refine gate_builtin (b := .append) (xs := #[.tmp 33, .tmp 42]) rfl ?_); at_builtin; refine Aside0.out ?_))
    refine ⟨?_⟩
    refine wpList_appq rfl (by rfl) base _ _ (by rfl) info5 (.slice A xs.length c) xs (by rfl) (HQ.out.fr ((Fr.refl (fun _ => False) w).alloc _) (fun k hk h => h)) _ _ _ [8 * n / 16777216 % 256] (by rfl) (by rfl) (Rd.blk (heap_alloc_new _ _)) (by simp only [List.length_cons, List.length_nil]; omega) (by rw [World.size_alloc]; omega) ?_
    intro v1 w1 hq1 hf1 hat1
    have hF1 := (HF.out.alloc (.cells #[Value.int .u8 (8 * n / 16777216 % 256)] 5)).trans hf1 (S := fun _ => False) (fun k hk => .inr (by have := HQ.out.base k hk.symm; omega))
    have hs1 := hf1.size
    rw [World.size_alloc] at hs1
    clear hf1 HF HQ hcell
    go_wp2
    exact hQ _ _ ⟨rfl, rfl⟩ rfl rfl rfl hq1 hF1 (by omega)
  · have hbt : byteAt8 (n * 8) 2 = 8 * n / 65536 % 256 := by simp [byteAt8] <;> omega
    rw [hbt] at hQ
    clear hbt
    conv => arg 2; whnf
    go_wp2_with (first | ((with_reducible refine gate_builtin (b := .append) (xs := #[.tmp 33, .tmp 42]) rfl ?_); at_builtin; refine Aside0.out ?_))
    refine ⟨?_⟩
    refine wpList_appq rfl (by rfl) base _ _ (by rfl) info5 (.slice A xs.length c) xs (by rfl) (HQ.out.fr ((Fr.refl (fun _ => False) w).alloc _) (fun k hk h => h)) _ _ _ [8 * n / 65536 % 256] (by rfl) (by rfl) (Rd.blk (heap_alloc_new _ _)) (by simp only [List.length_cons, List.length_nil]; omega) (by rw [World.size_alloc]; omega) ?_
    intro v1 w1 hq1 hf1 hat1
    have hF1 := (HF.out.alloc (.cells #[Value.int .u8 (8 * n / 65536 % 256)] 5)).trans hf1 (S := fun _ => False) (fun k hk => .inr (by have := HQ.out.base k hk.symm; omega))
    have hs1 := hf1.size
    rw [World.size_alloc] at hs1
    clear hf1 HF HQ hcell
    go_wp2
    exact hQ _ _ ⟨rfl, rfl⟩ rfl rfl rfl hq1 hF1 (by omega)
  · have hbt : byteAt8 (n * 8) 1 = 8 * n / 256 % 256 := by simp [byteAt8] <;> omega
    rw [hbt] at hQ
    clear hbt
    conv => arg 2; whnf
    go_wp2_with (first | ((with_reducible refine gate_builtin (b := .append) (xs := #[.tmp 33, .tmp 42]) rfl ?_); at_builtin; refine Aside0.out ?_))
    refine ⟨?_⟩
    refine wpList_appq rfl (by rfl) base _ _ (by rfl) info5 (.slice A xs.length c) xs (by rfl) (HQ.out.fr ((Fr.refl (fun _ => False) w).alloc _) (fun k hk h => h)) _ _ _ [8 * n / 256 % 256] (by rfl) (by rfl) (Rd.blk (heap_alloc_new _ _)) (by simp only [List.length_cons, List.length_nil]; omega) (by rw [World.size_alloc]; omega) ?_
    intro v1 w1 hq1 hf1 hat1
    have hF1 := (HF.out.alloc (.cells #[Value.int .u8 (8 * n / 256 % 256)] 5)).trans hf1 (S := fun _ => False) (fun k hk => .inr (by have := HQ.out.base k hk.symm; omega))
    have hs1 := hf1.size
    rw [World.size_alloc] at hs1
    clear hf1 HF HQ hcell
    go_wp2
    exact hQ _ _ ⟨rfl, rfl⟩ rfl rfl rfl hq1 hF1 (by omega)
  · have hbt : byteAt8 (n * 8) 0 = 8 * n % 256 := by simp [byteAt8] <;> omega
    rw [hbt] at hQ
    clear hbt
    conv => arg 2; whnf
    go_wp2_with (first | ((with_reducible refine gate_builtin (b := .append) (xs := #[.tmp 33, .tmp 42]) rfl ?_); at_builtin; refine Aside0.out ?_))
    refine ⟨?_⟩
    refine wpList_appq rfl (by rfl) base _ _ (by rfl) info5 (.slice A xs.length c) xs (by rfl) (HQ.out.fr ((Fr.refl (fun _ => False) w).alloc _) (fun k hk h => h)) _ _ _ [8 * n % 256] (by rfl) (by rfl) (Rd.blk (heap_alloc_new _ _)) (by simp only [List.length_cons, List.length_nil]; omega) (by rw [World.size_alloc]; omega) ?_
    intro v1 w1 hq1 hf1 hat1
    have hF1 := (HF.out.alloc (.cells #[Value.int .u8 (8 * n % 256)] 5)).trans hf1 (S := fun _ => False) (fun k hk => .inr (by have := HQ.out.base k hk.symm; omega))
    have hs1 := hf1.size
    rw [World.size_alloc] at hs1
    clear hf1 HF HQ hcell
    go_wp2
    exact hQ _ _ ⟨rfl, rfl⟩ rfl rfl rfl hq1 hF1 (by omega)
set_option maxHeartbeats 8000000 in
set_option maxRecDepth 100000 in
theorem exitL (u : Nat → Value) (w : World) (Q : Exit → Act → World → Prop) (hQ : ∀ a', Fm 72 a' → sl a' 0 = u 0 → sl a' 3 = u 3 → sl a' 4 = u 4 → Q (.exit 2) a' w) :
    Code.wp Try.prog (bodyN Try.f66 1) Q ⟨#[u 0, u 1, u 2, u 3, u 4, .int .i64 (-8), u 6, u 7, u 8, u 9, u 10, u 11, u 12, u 13, u 14, u 15, u 16, u 17, u 18, u 19, u 20, u 21, u 22, u 23, u 24, u 25, u 26, u 27, u 28, u 29, u 30, u 31, u 32, u 33, u 34, u 35, u 36, u 37, u 38, u 39, u 40, u 41, u 42, u 43, u 44, u 45, u 46, u 47, u 48, u 49, u 50, u 51, u 52, u 53, u 54, u 55, u 56, u 57, u 58, u 59, u 60, u 61, u 62, u 63, u 64, u 65, u 66, u 67, u 68, u 69, u 70, u 71], []⟩ w := by
  conv => arg 2; whnf
  go_wp2
  exact hQ _ ⟨rfl, rfl⟩ rfl rfl rfl
theorem loopL (s3 : Value) (g : Nat) (n : Int) (hn0 : 0 ≤ n) (hn : n < 140737488355328) (xs : List Int) (hl : xs.length < 140737488354500) (base : Nat) (w0 : World) (hcell : w0.cell? ⟨g, 9, none⟩ = some (.int .u64 n)) (hb0 : w0.heap.size ≤ base)
    (Q : Exit → Act → World → Prop) (hQ : ∀ a' w', Fm 72 a' → sl a' 3 = s3 → QB w' base (sl a' 4) (xs ++ be8 (n * 8)) → Fr (fun _ => False) w0 w' → base ≤ w'.heap.size → Q (.exit 2) a' w')
    (a : Act) (w : World) (h : Fm 72 a ∧ sl a 0 = .pointer (some ⟨g, 0, none⟩) ∧ sl a 3 = s3 ∧ sl a 5 = .int .i64 56 ∧ QB w base (sl a 4) xs ∧ Fr (fun _ => False) w0 w ∧ base ≤ w.heap.size) : (Code.loop (bodyN Try.f66 1)).wp Try.prog Q a w := by
  refine wp_loop_up 8 (fun t a w => Fm 72 a ∧ sl a 0 = .pointer (some ⟨g, 0, none⟩) ∧ sl a 3 = s3 ∧ sl a 5 = .int .i64 (56 - 8 * (t : Int)) ∧ QB w base (sl a 4) (xs ++ (be8 (n * 8)).take t) ∧ Fr (fun _ => False) w0 w ∧ base ≤ w.heap.size) (by rw [List.take_zero, List.append_nil]; exact h) ?_
  rintro t a w ht ⟨hF, h0, h3, h5, hq, hf, hb⟩
  have ha := fm72 hF
  by_cases h64 : t = 8
  · subst h64
    rw [h5] at ha
    rw [ha]
    exact exitL (sl a) w _ fun a' b0 b1 b2 b3 => hQ _ _ b0 (b2.trans h3) (by rw [b3]; exact hq) hf hb
  · have e1 : (56 - 8 * (t : Int)) = 8 * ((7 - t : Nat) : Int) := by omega
    rw [h0, h5, e1] at ha
    rw [ha]
    have hx : (xs ++ (be8 (n * 8)).take t) ++ [byteAt8 (n * 8) (7 - t)] = xs ++ (be8 (n * 8)).take (t + 1) := by
      rw [be8_at, List.append_assoc]
      congr 1
      rcases (show t = 0 ∨ t = 1 ∨ t = 2 ∨ t = 3 ∨ t = 4 ∨ t = 5 ∨ t = 6 ∨ t = 7 by omega) with rfl|rfl|rfl|rfl|rfl|rfl|rfl|rfl <;> rfl
    have hlt : (xs ++ (be8 (n * 8)).take t).length < 140737488355000 := by rw [List.length_append, List.length_take, be8]; simp only [List.length_cons, List.length_nil]; omega
    refine roundL (sl a) g (sl a 4) n (7 - t) (by omega) hn0 hn _ base w0 w (hf.cell hcell (fun h => h)) hb0 hb hlt hq hf _ ?_
    intro a' w' b0 b1 b2 b3 b4 b5 b6
    refine ⟨by omega, b0, b1, b2.trans h3, by rw [b3]; congr 1; omega, ?_, b5, b6⟩
    rw [← hx]
    exact b4
end Go.Proofs.Ytnabilhcmplhcaa.Sha
