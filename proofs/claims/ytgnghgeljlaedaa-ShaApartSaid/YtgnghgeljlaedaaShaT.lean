/-
  Write: the blocks of what is there.
-/
import Derived.Test.YtgnghgeljlaedaaShaR
set_option linter.unusedVariables false
set_option linter.unusedSimpArgs false
namespace Go.Proofs.Ytgnghgeljlaedaa.Sha
open Go.RowKit Go.Proofs.YtgnghgeljlaedaaW.PrintWords Go.Proofs.YtgnghgeljlaedaaW.PrintLast Go.Proofs.YtgnghgeljlaedaaW.PrintMore Go.Proofs.Ytgnghgeljlaedaa.Q Go.Proofs.Ytgnghgeljlaedaa.Fr Go.Proofs.Ytgnghgeljlaedaa.Oct

theorem own_cut (A : Option Addr) (n c k : Nat) (n' c' : Nat) : (Value.slice (if c = k then A else A.map (·.add k)) n' c').ownBlock = (Value.slice A n c).ownBlock := by
  cases A with
  | none => split <;> rfl
  | some ad => split <;> simp [Value.ownBlock, addr_block]
theorem Rd.cells {w : World} {ad : Addr} {ys : List Int} (h : Rd w (some ad) ys) (i : Int) (h0 : 0 ≤ i) (h1 : i < ys.length) : w.cell? (ad.add i.toNat) = some (.int .u8 (ys.getD i.toNat 0)) := by
  have hl : i.toNat < ys.length := by omega
  obtain ⟨ad', e, hc⟩ := h i.toNat (.int .u8 (ys.getD i.toNat 0)) (by simp [encs, List.getD_eq_getElem?_getD, List.getElem?_eq_getElem hl])
  cases e
  exact hc

set_option maxHeartbeats 8000000 in
set_option maxRecDepth 100000 in
theorem roundW (u : Nat → Value) (g base : Nat) (rv : Value) (S rest : List Int) (n : Int) (w0 w : World) (h : HashAt w g base rv S rest n) (h64 : 64 ≤ rest.length) (hm : rest.length ≤ 140737488355328) (hf : Fr (fun k => k = g) w0 w)
    (Q : Exit → Act → World → Prop) (hQ : ∀ a' w' rv', Fm 55 a' → sl a' 0 = .pointer (some ⟨g, 0, none⟩) → sl a' 6 = u 6 → sl a' 7 = u 7 → sl a' 8 = u 8 → Fr (fun k => k = g) w0 w' → rv'.ownBlock = rv.ownBlock → HashAt w' g base rv' (compress S (rest.take 64)) (rest.drop 64) n → Q .normal a' w') :
    Code.wp Try.prog (bodyIn Try.f17 0 0) Q ⟨#[.pointer (some ⟨g, 0, none⟩), u 1, u 2, u 3, u 4, u 5, u 6, u 7, u 8, u 9, u 10, u 11, u 12, u 13, u 14, u 15, u 16, u 17, u 18, u 19, u 20, u 21, u 22, u 23, u 24, u 25, u 26, u 27, u 28, u 29, u 30, u 31, u 32, u 33, u 34, u 35, u 36, u 37, u 38, u 39, u 40, u 41, u 42, u 43, u 44, u 45, u 46, u 47, u 48, u 49, u 50, u 51, u 52, u 53, u 54], []⟩ w := by
  obtain ⟨A, c, rfl, hc⟩ := h.row.slice
  obtain ⟨x, r', hr'⟩ := List.exists_cons_of_ne_nil (show rest ≠ [] by intro e; rw [e] at h64; simp at h64)
  obtain ⟨ad, rfl, _⟩ := h.row.rd 0 (.int .u8 x) (by rw [hr']; rfl)
  clear hr'
  have hcell := (cells_hash h.len h.heap).1
  obtain ⟨i0, hi0, _, hsz, _⟩ := info_parts info5
  have hcut := cut_to (P := Try.prog) 23 5 .i64 Try.underlying23 hi0 (some ad) rest.length c 64 (by decide) (by omega) hc
  rw [show (64 : Int).toNat = 64 from rfl] at hcut
  have hcut2 := cut_from (P := Try.prog) 23 5 .i64 Try.underlying23 hi0 1 hsz (some ad) rest.length c 64 (by decide) (by omega)
  rw [show (64 : Int).toNat = 64 from rfl, Nat.mul_one] at hcut2
  have hown : (Value.slice (if c = 64 then some ad else (some ad).map (·.add 64)) (rest.length - 64) (c - 64)).ownBlock = (Value.slice (some ad) rest.length c).ownBlock := own_cut _ _ _ _ _ _
  have hdrop : ∀ w', QB w' base (.slice (some ad) rest.length c) rest → QB w' base (Value.slice (if c = 64 then some ad else (some ad).map (·.add 64)) (rest.length - 64) (c - 64)) (rest.drop 64) := fun w' hq => hq.drop 64 h64
  obtain ⟨A2, hv2⟩ : ∃ v, (if c = 64 then some ad else (some ad).map (·.add 64)) = v := ⟨_, rfl⟩
  rw [hv2] at hcut2 hown hdrop
  clear hv2
  have HH := Aside0.mk (And.intro h (And.intro hf (And.intro hown hdrop)))
  clear h hf hown hdrop
  have c0 : decide (64 ≤ (rest.length : Int)) = true := decide_eq_true (by omega)
  conv => arg 2; whnf
  go_wp2
  refine region_tail 8 (by kernel_rfl) (by kernel_rfl) ?_
  intro w3 e3
  have hc3 : w3.cell? ⟨g, 8, none⟩ = some (.slice (some ad) rest.length c) := by rw [e3]; simpa using hcell
  have h3 : HashAt w3 g base (.slice (some ad) rest.length c) S rest n := by rw [e3]; exact ⟨HH.out.1.heap, HH.out.1.len, q_move HH.out.1.row (fun _ _ => rfl), HH.out.1.ne⟩
  have hf3 : Fr (fun k => k = g) w0 w3 := by rw [e3]; exact HH.out.2.1.of_drew
  have HK := Aside0.mk HH.out.2.2
  clear HH hcell e3
  have HH := Aside0.mk (And.intro h3 hf3)
  clear h3 hf3
  simp only [List.take_succ_cons, List.take_zero, List.drop_succ_cons, List.drop_zero]
  repeat still_step
  refine wpStill_nil ?_
  go_wp2_with (fail)
  refine (block_calls g S HH.out.1.len [.slice (some ad) rest.length c, .int .u64 n] 57 ad c (rest.take 64) w3 HH.out.1.heap (fun i i0 i1 => ?_)).mono ?_
  · have := (HH.out.1.row.rd.mid 0 64).cells i i0 (by rw [List.length_take, List.drop_zero]; omega)
    rw [List.drop_zero] at this
    exact this
  rintro e w4 ⟨rfl, hf4, hg4⟩
  have hl4 : (compress S (rest.take 64)).length = 8 := (compress_len _ _).trans HH.out.1.len
  have hq4 : QB w4 base (.slice (some ad) rest.length c) rest := HH.out.1.row.fr hf4 (fun k hk e => HH.out.1.ne (by rw [hk, e]))
  have hc4 := (cells_hash hl4 hg4).1
  have fz := frozenV hg4 8
  have HN := Aside0.mk (And.intro hg4 (And.intro hl4 (And.intro hq4 (And.intro (HH.out.2.trans hf4 (fun i h => .inl h)) HH.out.1.ne))))
  clear HH hf4 hg4 hl4 hq4 hc3 hcut
  go_wp2
  refine hQ _ _ (.slice A2 (rest.length - 64) (c - 64)) ⟨rfl, rfl⟩ rfl rfl rfl rfl ?_ HK.out.1 ⟨?_, HN.out.2.1, ?_, ?_⟩
  · exact HN.out.2.2.2.1.setCell (.inl rfl) _
  · exact set_hash8 HN.out.2.1 HN.out.1 _
  · refine QB.fr (HK.out.2 w4 HN.out.2.2.1) ((Fr.refl (fun k => k = g) w4).setCell (.inl rfl) _) (fun k hk e => ?_)
    rw [HK.out.1] at hk
    exact HN.out.2.2.2.2 (by rw [hk, e])
  · rw [HK.out.1]
    exact HN.out.2.2.2.2
set_option maxHeartbeats 8000000 in
set_option maxRecDepth 100000 in
theorem exitW (u : Nat → Value) (g : Nat) (A : Option Addr) (c k : Nat) (hk : k < 64) (w : World) (hc : w.cell? ⟨g, 8, none⟩ = some (.slice A k c)) (Q : Exit → Act → World → Prop) (hQ : ∀ a', Fm 55 a' → sl a' 0 = .pointer (some ⟨g, 0, none⟩) → sl a' 6 = u 6 → sl a' 7 = u 7 → sl a' 8 = u 8 → Q (.exit 2) a' w) :
    Code.wp Try.prog (bodyIn Try.f17 0 0) Q ⟨#[.pointer (some ⟨g, 0, none⟩), u 1, u 2, u 3, u 4, u 5, u 6, u 7, u 8, u 9, u 10, u 11, u 12, u 13, u 14, u 15, u 16, u 17, u 18, u 19, u 20, u 21, u 22, u 23, u 24, u 25, u 26, u 27, u 28, u 29, u 30, u 31, u 32, u 33, u 34, u 35, u 36, u 37, u 38, u 39, u 40, u 41, u 42, u 43, u 44, u 45, u 46, u 47, u 48, u 49, u 50, u 51, u 52, u 53, u 54], []⟩ w := by
  have c0 : decide (64 ≤ (k : Int)) = false := decide_eq_false (by omega)
  conv => arg 2; whnf
  go_wp2
  exact hQ _ ⟨rfl, rfl⟩ rfl rfl rfl rfl
def JW (s6 s7 s8 : Value) (g base : Nat) (own : Option Nat) (S r : List Int) (n : Int) (w0 : World) (t : Nat) (a : Act) (w : World) : Prop :=
  Fm 55 a ∧ sl a 0 = .pointer (some ⟨g, 0, none⟩) ∧ sl a 6 = s6 ∧ sl a 7 = s7 ∧ sl a 8 = s8 ∧ Fr (fun k => k = g) w0 w ∧ ∃ rv, rv.ownBlock = own ∧ HashAt w g base rv (run t S r) (r.drop (64 * t)) n
theorem loopW (s6 s7 s8 : Value) (g base : Nat) (own : Option Nat) (S r : List Int) (n : Int) (hm : r.length ≤ 140737488355328) (w0 : World)
    (Q : Exit → Act → World → Prop) (hQ : ∀ a' w' rv', Fm 55 a' → sl a' 0 = .pointer (some ⟨g, 0, none⟩) → sl a' 6 = s6 → sl a' 7 = s7 → sl a' 8 = s8 → Fr (fun k => k = g) w0 w' → rv'.ownBlock = own → HashAt w' g base rv' (run (r.length / 64) S r) (r.drop (64 * (r.length / 64))) n → Q (.exit 2) a' w')
    (a : Act) (w : World) (h : JW s6 s7 s8 g base own S r n w0 0 a w) : (Code.loop (bodyIn Try.f17 0 0)).wp Try.prog Q a w := by
  refine wp_loop_up (r.length / 64) (JW s6 s7 s8 g base own S r n w0) h ?_
  rintro t a w ht ⟨hF, h0, h6, h7, h8, hf, rv, ho, hH⟩
  have ha := fm55 hF
  rw [h0] at ha
  by_cases h64 : t = r.length / 64
  · subst h64
    obtain ⟨A, c, rfl, hc⟩ := hH.row.slice
    rw [ha]
    exact exitW (sl a) g A c _ (by rw [List.length_drop]; omega) w (cells_hash hH.len hH.heap).1 _ fun a' b0 b1 b2 b3 b4 => hQ _ _ _ b0 b1 (b2.trans h6) (b3.trans h7) (b4.trans h8) hf ho hH
  · rw [ha]
    refine roundW (sl a) g base rv _ _ n w0 w hH (by rw [List.length_drop]; omega) (by rw [List.length_drop]; omega) hf _ ?_
    intro a' w' rv' b0 b1 b2 b3 b4 b5 b6 b7
    refine ⟨by omega, b0, b1, b2.trans h6, b3.trans h7, b4.trans h8, b5, rv', b6.trans ho, ?_⟩
    rw [run_succ, show 64 * (t + 1) = 64 * t + 64 by omega, ← List.drop_drop]
    exact b7
end Go.Proofs.Ytgnghgeljlaedaa.Sha
