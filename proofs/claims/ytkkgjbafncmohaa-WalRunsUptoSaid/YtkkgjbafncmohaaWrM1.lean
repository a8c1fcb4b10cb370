/- Parts of one work, laid together: Wrn0a, Wrne, Wrn1, Wrn2, Wrn4, Wrn5. -/
import Derived.Test.YtkkgjbafncmohaaRnM
import Derived.Test.YtkkgjbafncmohaaQx10
import Derived.Test.YtkkgjbafncmohaaQx12
import Derived.Deep.RegionHeld3
/-
  WalRuns: its frame.
-/
set_option linter.unusedVariables false
set_option linter.unusedSimpArgs false
namespace Go.Proofs.Ytkkgjbafncmohaa.Sha
open Go.RowKit Go.Proofs.YtkkgjbafncmohaaW.PrintWords Go.Proofs.YtkkgjbafncmohaaW.PrintLast Go.Proofs.YtkkgjbafncmohaaW.PrintMore Go.Proofs.Ytkkgjbafncmohaa.Q Go.Proofs.Ytkkgjbafncmohaa.Fr Go.Proofs.Ytkkgjbafncmohaa.Oct
open Go.Proofs.Ytkkgjbafncmohaa.Open (Aw kAcw kAcw_open)

theorem Rx.act {w W W' : World} {gl g gw : Nat} {bv bv' rv : Value} {d d' : Dsk} {r : Rdk} (h : Rx w W gl g gw bv rv d r) (hf : Fr (Fp g bv) W W') (ha : DiskAt W' w.heap.size g bv' d') (hn : ∀ k, Fp g bv' k → Fp g bv k ∨ W.heap.size ≤ k) : Rx w W' gl g gw bv' rv d' r :=
  ⟨⟨h.rh.dk.call hf ha, hf.blk h.rh.want h.rh.ngw, h.rh.lies.fr hf (fun k hk => (h.rh.far k hk).2.2), h.rh.ge, fun e => (hn gw e).elim h.rh.ngw (fun e => by have := blk_lt h.rh.want; omega), fun k hk => ⟨Nat.lt_of_lt_of_le (h.rh.far k hk).1 hf.size, (h.rh.far k hk).2.1, fun e => (hn k e).elim (h.rh.far k hk).2.2 (fun e => by have := (h.rh.far k hk).1; omega)⟩⟩, h.log.fr hf h.lfar, fun e => (hn _ e).elim h.lfar (fun e => by have := blk_lt h.log; omega), h.lnew, h.lne, h.lown⟩
theorem Rel.mend0 {d : Dsk} {r : Rdk} {i : Nat} (h : Rel d r i) : Rel d.mend r.mend i :=
  ⟨h.b, h.rm, rfl, rfl, rfl, fun _ => rfl, by simp only [Dsk.mend]; omega, by simp [Dsk.mend], by simp [Rdk.mend], by simp [Rdk.mend]⟩
def Z4w : Array Value := #[.int .i64 0, .slice none 0 0, .int .i64 0, .int .i64 0]
set_option maxRecDepth 100000 in
theorem fm208 {a : Act} (h : Fm 208 a) : a = ⟨#[sl a 0, sl a 1, sl a 2, sl a 3, sl a 4, sl a 5, sl a 6, sl a 7, sl a 8, sl a 9, sl a 10, sl a 11, sl a 12, sl a 13, sl a 14, sl a 15, sl a 16, sl a 17, sl a 18, sl a 19, sl a 20, sl a 21, sl a 22, sl a 23, sl a 24, sl a 25, sl a 26, sl a 27, sl a 28, sl a 29, sl a 30, sl a 31, sl a 32, sl a 33, sl a 34, sl a 35, sl a 36, sl a 37, sl a 38, sl a 39, sl a 40, sl a 41, sl a 42, sl a 43, sl a 44, sl a 45, sl a 46, sl a 47, sl a 48, sl a 49, sl a 50, sl a 51, sl a 52, sl a 53, sl a 54, sl a 55, sl a 56, sl a 57, sl a 58, sl a 59, sl a 60, sl a 61, sl a 62, sl a 63, sl a 64, sl a 65, sl a 66, sl a 67, sl a 68, sl a 69, sl a 70, sl a 71, sl a 72, sl a 73, sl a 74, sl a 75, sl a 76, sl a 77, sl a 78, sl a 79, sl a 80, sl a 81, sl a 82, sl a 83, sl a 84, sl a 85, sl a 86, sl a 87, sl a 88, sl a 89, sl a 90, sl a 91, sl a 92, sl a 93, sl a 94, sl a 95, sl a 96, sl a 97, sl a 98, sl a 99, sl a 100, sl a 101, sl a 102, sl a 103, sl a 104, sl a 105, sl a 106, sl a 107, sl a 108, sl a 109, sl a 110, sl a 111, sl a 112, sl a 113, sl a 114, sl a 115, sl a 116, sl a 117, sl a 118, sl a 119, sl a 120, sl a 121, sl a 122, sl a 123, sl a 124, sl a 125, sl a 126, sl a 127, sl a 128, sl a 129, sl a 130, sl a 131, sl a 132, sl a 133, sl a 134, sl a 135, sl a 136, sl a 137, sl a 138, sl a 139, sl a 140, sl a 141, sl a 142, sl a 143, sl a 144, sl a 145, sl a 146, sl a 147, sl a 148, sl a 149, sl a 150, sl a 151, sl a 152, sl a 153, sl a 154, sl a 155, sl a 156, sl a 157, sl a 158, sl a 159, sl a 160, sl a 161, sl a 162, sl a 163, sl a 164, sl a 165, sl a 166, sl a 167, sl a 168, sl a 169, sl a 170, sl a 171, sl a 172, sl a 173, sl a 174, sl a 175, sl a 176, sl a 177, sl a 178, sl a 179, sl a 180, sl a 181, sl a 182, sl a 183, sl a 184, sl a 185, sl a 186, sl a 187, sl a 188, sl a 189, sl a 190, sl a 191, sl a 192, sl a 193, sl a 194, sl a 195, sl a 196, sl a 197, sl a 198, sl a 199, sl a 200, sl a 201, sl a 202, sl a 203, sl a 204, sl a 205, sl a 206, sl a 207], []⟩ := by
  obtain ⟨T, D⟩ := a
  obtain ⟨h1, h2⟩ := h
  obtain rfl : D = [] := h2
  obtain ⟨l⟩ := T
  have h1 : l.length = 208 := h1
  congr 2
  refine List.ext_getElem? fun i => ?_
  by_cases hi : i < 208
  · have hx : ∀ j, j < 208 → l[j]? = some (sl ⟨⟨l⟩, []⟩ j) := fun j hj => by
      have hl : j < l.length := by omega
      simp [sl, Array.getD_eq_getD_getElem?, List.getElem?_eq_getElem hl]
    rw [hx i hi]
    have : ∀ (s : Nat → Value) (i : Nat), i < 208 → ((List.range 208).map s)[i]? = some (s i) := fun s i hi => by simp [hi]
    exact (this _ i hi).symm
  · have h2 : ∀ (s : Nat → Value), ((List.range 208).map s)[i]? = none := fun s => by simp; omega
    exact (List.getElem?_eq_none (by omega)).trans (h2 _).symm
end Go.Proofs.Ytkkgjbafncmohaa.Sha

/-
  WalRuns: a round of its loop, an act of kind e.
-/
set_option linter.unusedVariables false
set_option linter.unusedSimpArgs false
namespace Go.Proofs.Ytkkgjbafncmohaa.Sha
open Go.RowKit Go.Proofs.YtkkgjbafncmohaaW.PrintWords Go.Proofs.YtkkgjbafncmohaaW.PrintLast Go.Proofs.YtkkgjbafncmohaaW.PrintMore Go.Proofs.Ytkkgjbafncmohaa.Q Go.Proofs.Ytkkgjbafncmohaa.Fr Go.Proofs.Ytkkgjbafncmohaa.Oct
open Go.Proofs.Ytkkgjbafncmohaa.Open (Aw kAcw kAcw_open)

set_option maxHeartbeats 8000000 in
set_option maxRecDepth 100000 in
theorem roundWe (u : Nat → Value) (A : Option Addr) (c : Nat) (L : List Aw) (i : Nat) (hi : i < L.length) (hL : L.length ≤ 100) (w W : World) (hC : Kd.C kAcw w A L.length L) (hlen : szL (L.getD i zAw).recs ≤ 1048576) (hok : (L.getD i zAw).ok) (hk : (L.getD i zAw).kind = 0) (hne : (L.getD i zAw).recs = []) (gl g gw : Nat) (bv rv : Value) (d : Dsk) (r : Rdk) (H : Rw w W gl g gw bv rv d r i)
    (Q : Exit → Act → World → Prop) (hQ : ∀ a' W' gl' bv' rv' d' r', Fm 208 a' → sl a' 7 = .pointer (some ⟨g, 0, none⟩) → sl a' 8 = .pointer (some ⟨gw, 0, none⟩) → sl a' 10 = .pointer (some ⟨gl', 0, none⟩) → sl a' 86 = .slice A L.length c → sl a' 87 = .int .i64 (L.length : Int) → sl a' 88 = .int .i64 ((i : Int) + 1) → Rw w W' gl' g gw bv' rv' d' r' (i + 1) → Q .normal a' W') :
    Code.wp Try.prog (bodyN Try.f5 0) Q ⟨#[u 0, u 1, u 2, u 3, u 4, u 5, u 6, .pointer (some ⟨g, 0, none⟩), .pointer (some ⟨gw, 0, none⟩), u 9, .pointer (some ⟨gl, 0, none⟩), u 11, u 12, u 13, u 14, u 15, u 16, u 17, u 18, u 19, u 20, u 21, u 22, u 23, u 24, u 25, u 26, u 27, u 28, u 29, u 30, u 31, u 32, u 33, u 34, u 35, u 36, u 37, u 38, u 39, u 40, u 41, u 42, u 43, u 44, u 45, u 46, u 47, u 48, u 49, u 50, u 51, u 52, u 53, u 54, u 55, u 56, u 57, u 58, u 59, u 60, u 61, u 62, u 63, u 64, u 65, u 66, u 67, u 68, u 69, u 70, u 71, u 72, u 73, u 74, u 75, u 76, u 77, u 78, u 79, u 80, u 81, u 82, u 83, u 84, u 85, .slice A L.length c, .int .i64 (L.length : Int), .int .i64 (i : Int), u 89, u 90, u 91, u 92, u 93, u 94, u 95, u 96, u 97, u 98, u 99, u 100, u 101, u 102, u 103, u 104, u 105, u 106, u 107, u 108, u 109, u 110, u 111, u 112, u 113, u 114, u 115, u 116, u 117, u 118, u 119, u 120, u 121, u 122, u 123, u 124, u 125, u 126, u 127, u 128, u 129, u 130, u 131, u 132, u 133, u 134, u 135, u 136, u 137, u 138, u 139, u 140, u 141, u 142, u 143, u 144, u 145, u 146, u 147, u 148, u 149, u 150, u 151, u 152, u 153, u 154, u 155, u 156, u 157, u 158, u 159, u 160, u 161, u 162, u 163, u 164, u 165, u 166, u 167, u 168, u 169, u 170, u 171, u 172, u 173, u 174, u 175, u 176, u 177, u 178, u 179, u 180, u 181, u 182, u 183, u 184, u 185, u 186, u 187, u 188, u 189, u 190, u 191, u 192, u 193, u 194, u 195, u 196, u 197, u 198, u 199, u 200, u 201, u 202, u 203, u 204, u 205, u 206, u 207], []⟩ W := by
  obtain ⟨ad, A1, c1, rfl, x0, x1, x2, x3, hc1, hr1⟩ := at_acw hC i hi
  have F0 := H.rn.dk.F
  replace x0 := F0.cell x0 (fun h => h)
  replace x1 := F0.cell x1 (fun h => h)
  replace x2 := F0.cell x2 (fun h => h)
  replace x3 := F0.cell x3 (fun h => h)
  rw [hk] at x0
  obtain ⟨x, hx⟩ : ∃ x, L.getD i zAw = x := ⟨_, rfl⟩
  rw [hx] at x1 x2 x3 hc1 hr1 hlen hok hne
  obtain ⟨m, hm⟩ : ∃ m, L.length = m := ⟨_, rfl⟩
  rw [hm] at hi hL hQ ⊢
  clear hk hx hm hC F0
  obtain ⟨kind, b, ta, tb⟩ := x
  simp only at x1 x2 x3 hc1 hr1 hlen hne
  have b0 : decide ((i : Int) < (m : Int)) = true := decide_eq_true (by omega)
  have b1 : (0 : Int) ≤ (i : Int) := by omega
  have b2 : (i : Int) < (m : Int) := by omega
  have HH := Aside0.mk (And.intro H (And.intro hr1 (And.intro hlen (And.intro hok hQ))))
  clear H hr1 hlen hok hQ
  have b5 : wrap64 ((i : Int) + 1) = (i : Int) + 1 := by unfold wrap64; omega
  have B5 := Aside0.mk b5
  have BL := Aside0.mk (show i < 100 by omega)
  clear b5 hL
  subst hne
  simp only [List.length_nil] at x1 hc1
  conv => arg 2; whnf
  go_wp2_with (first | ((with_reducible refine gate_dst (N := 16) rfl ?_); refine wpList_alloc_abs (by rfl) 47 (by rfl) (.agg Z4w) (by kernel_rfl) ?_; intro w2 hb2 hs2 hg2) | ((with_reducible refine gate_store (p := 16) rfl ?_); refine Aside0.out ?_))
  refine ⟨?_⟩
  refine wpList_store_abs (by rfl) 47 _ _ (by rfl) W.heap.size #[.int .i64 0, .slice A1 0 c1, .int .i64 ta, .int .i64 tb] (by rfl) (by rfl) 47 Z4w hg2 (by kernel_rfl) (by rfl) (by simp [Value.oneCell']) ?_
  intro w3 hf3 hs3 hg3
  have F3 : Fr (fun _ => False) W w3 := (Fr.of_below hb2 (fun _ => False)).trans hf3 (fun k hk => .inr (by omega))
  have H3 : Rw w w3 gl g gw bv rv d r i := HH.out.1.fr F3 (fun k hk => hk.elim)
  have y : w3.cell? ⟨W.heap.size, 0, none⟩ = some (.int .i64 0) ∧ w3.cell? ⟨W.heap.size, 1, none⟩ = some (.slice A1 0 c1) ∧ w3.cell? ⟨W.heap.size, 2, none⟩ = some (.int .i64 ta) ∧ w3.cell? ⟨W.heap.size, 3, none⟩ = some (.int .i64 tb) := by simp [World.cell?, hg3]
  have zW : W.heap.size < w3.heap.size := blk_lt hg3
  have hnW := HH.out.1.rn.new W.heap.size (Nat.le_refl _)
  have H3 := Aside0.mk (And.intro H3 (And.intro hg3 (And.intro zW (And.intro hnW.2.1 hnW.2.2.1))))
  obtain ⟨y0, y1, y2, y3⟩ := y
  clear hb2 hs2 hg2 hf3 hs3 hg3 x0 x1 x2 x3 zW hnW F3
  have b5 := B5.out
  go_wp2
  exact HH.out.2.2.2.2 _ _ _ _ _ _ _ ⟨rfl, rfl⟩ rfl rfl rfl rfl rfl (congrArg (Value.int .i64) B5.out) ⟨⟨H3.out.1.rn.dk, H3.out.1.rn.want, H3.out.1.rn.lies, H3.out.1.rn.ge, H3.out.1.rn.ngw, H3.out.1.rn.far, H3.out.1.rn.rel.step⟩, H3.out.1.log, H3.out.1.lfar, H3.out.1.lnew, H3.out.1.lne, H3.out.1.lown, H3.out.1.bys⟩
end Go.Proofs.Ytkkgjbafncmohaa.Sha

/-
  WalRuns: a round of its loop, an act of kind 1.
-/
set_option linter.unusedVariables false
set_option linter.unusedSimpArgs false
namespace Go.Proofs.Ytkkgjbafncmohaa.Sha
open Go.RowKit Go.Proofs.YtkkgjbafncmohaaW.PrintWords Go.Proofs.YtkkgjbafncmohaaW.PrintLast Go.Proofs.YtkkgjbafncmohaaW.PrintMore Go.Proofs.Ytkkgjbafncmohaa.Q Go.Proofs.Ytkkgjbafncmohaa.Fr Go.Proofs.Ytkkgjbafncmohaa.Oct
open Go.Proofs.Ytkkgjbafncmohaa.Open (Aw kAcw kAcw_open)

set_option maxHeartbeats 8000000 in
set_option maxRecDepth 100000 in
theorem roundW1 (u : Nat → Value) (A : Option Addr) (c : Nat) (L : List Aw) (i : Nat) (hi : i < L.length) (hL : L.length ≤ 100) (w W : World) (hC : Kd.C kAcw w A L.length L) (hlen : szL (L.getD i zAw).recs ≤ 1048576) (hok : (L.getD i zAw).ok) (hk : (L.getD i zAw).kind = 1) (gl g gw : Nat) (bv rv : Value) (d : Dsk) (r : Rdk) (H : Rw w W gl g gw bv rv d r i)
    (Q : Exit → Act → World → Prop) (hQ : ∀ a' W' gl' bv' rv' d' r', Fm 208 a' → sl a' 7 = .pointer (some ⟨g, 0, none⟩) → sl a' 8 = .pointer (some ⟨gw, 0, none⟩) → sl a' 10 = .pointer (some ⟨gl', 0, none⟩) → sl a' 86 = .slice A L.length c → sl a' 87 = .int .i64 (L.length : Int) → sl a' 88 = .int .i64 ((i : Int) + 1) → Rw w W' gl' g gw bv' rv' d' r' (i + 1) → Q .normal a' W') :
    Code.wp Try.prog (bodyN Try.f5 0) Q ⟨#[u 0, u 1, u 2, u 3, u 4, u 5, u 6, .pointer (some ⟨g, 0, none⟩), .pointer (some ⟨gw, 0, none⟩), u 9, .pointer (some ⟨gl, 0, none⟩), u 11, u 12, u 13, u 14, u 15, u 16, u 17, u 18, u 19, u 20, u 21, u 22, u 23, u 24, u 25, u 26, u 27, u 28, u 29, u 30, u 31, u 32, u 33, u 34, u 35, u 36, u 37, u 38, u 39, u 40, u 41, u 42, u 43, u 44, u 45, u 46, u 47, u 48, u 49, u 50, u 51, u 52, u 53, u 54, u 55, u 56, u 57, u 58, u 59, u 60, u 61, u 62, u 63, u 64, u 65, u 66, u 67, u 68, u 69, u 70, u 71, u 72, u 73, u 74, u 75, u 76, u 77, u 78, u 79, u 80, u 81, u 82, u 83, u 84, u 85, .slice A L.length c, .int .i64 (L.length : Int), .int .i64 (i : Int), u 89, u 90, u 91, u 92, u 93, u 94, u 95, u 96, u 97, u 98, u 99, u 100, u 101, u 102, u 103, u 104, u 105, u 106, u 107, u 108, u 109, u 110, u 111, u 112, u 113, u 114, u 115, u 116, u 117, u 118, u 119, u 120, u 121, u 122, u 123, u 124, u 125, u 126, u 127, u 128, u 129, u 130, u 131, u 132, u 133, u 134, u 135, u 136, u 137, u 138, u 139, u 140, u 141, u 142, u 143, u 144, u 145, u 146, u 147, u 148, u 149, u 150, u 151, u 152, u 153, u 154, u 155, u 156, u 157, u 158, u 159, u 160, u 161, u 162, u 163, u 164, u 165, u 166, u 167, u 168, u 169, u 170, u 171, u 172, u 173, u 174, u 175, u 176, u 177, u 178, u 179, u 180, u 181, u 182, u 183, u 184, u 185, u 186, u 187, u 188, u 189, u 190, u 191, u 192, u 193, u 194, u 195, u 196, u 197, u 198, u 199, u 200, u 201, u 202, u 203, u 204, u 205, u 206, u 207], []⟩ W := by
  obtain ⟨ad, A1, c1, rfl, x0, x1, x2, x3, hc1, hr1⟩ := at_acw hC i hi
  have F0 := H.rn.dk.F
  replace x0 := F0.cell x0 (fun h => h)
  replace x1 := F0.cell x1 (fun h => h)
  replace x2 := F0.cell x2 (fun h => h)
  replace x3 := F0.cell x3 (fun h => h)
  rw [hk] at x0
  obtain ⟨x, hx⟩ : ∃ x, L.getD i zAw = x := ⟨_, rfl⟩
  rw [hx] at x1 x2 x3 hc1 hr1 hlen hok
  obtain ⟨m, hm⟩ : ∃ m, L.length = m := ⟨_, rfl⟩
  rw [hm] at hi hL hQ ⊢
  clear hk hx hm hC F0
  obtain ⟨kind, b, ta, tb⟩ := x
  simp only at x1 x2 x3 hc1 hr1 hlen
  have b0 : decide ((i : Int) < (m : Int)) = true := decide_eq_true (by omega)
  have b1 : (0 : Int) ≤ (i : Int) := by omega
  have b2 : (i : Int) < (m : Int) := by omega
  have HH := Aside0.mk (And.intro H (And.intro hr1 (And.intro hlen (And.intro hok hQ))))
  clear H hr1 hlen hok hQ
  have b5 : wrap64 ((i : Int) + 1) = (i : Int) + 1 := by unfold wrap64; omega
  have B5 := Aside0.mk b5
  have BL := Aside0.mk (show i < 100 by omega)
  clear b5 hL
  conv => arg 2; whnf
  go_wp2_with (first | ((with_reducible refine gate_dst (N := 16) rfl ?_); refine wpList_alloc_abs (by rfl) 47 (by rfl) (.agg Z4w) (by kernel_rfl) ?_; intro w2 hb2 hs2 hg2) | ((with_reducible refine gate_store (p := 16) rfl ?_); refine Aside0.out ?_))
  refine ⟨?_⟩
  refine wpList_store_abs (by rfl) 47 _ _ (by rfl) W.heap.size #[.int .i64 1, .slice A1 b.length c1, .int .i64 ta, .int .i64 tb] (by rfl) (by rfl) 47 Z4w hg2 (by kernel_rfl) (by rfl) (by simp [Value.oneCell']) ?_
  intro w3 hf3 hs3 hg3
  have F3 : Fr (fun _ => False) W w3 := (Fr.of_below hb2 (fun _ => False)).trans hf3 (fun k hk => .inr (by omega))
  have H3 : Rw w w3 gl g gw bv rv d r i := HH.out.1.fr F3 (fun k hk => hk.elim)
  have y : w3.cell? ⟨W.heap.size, 0, none⟩ = some (.int .i64 1) ∧ w3.cell? ⟨W.heap.size, 1, none⟩ = some (.slice A1 b.length c1) ∧ w3.cell? ⟨W.heap.size, 2, none⟩ = some (.int .i64 ta) ∧ w3.cell? ⟨W.heap.size, 3, none⟩ = some (.int .i64 tb) := by simp [World.cell?, hg3]
  have zW : W.heap.size < w3.heap.size := blk_lt hg3
  have hnW := HH.out.1.rn.new W.heap.size (Nat.le_refl _)
  have H3 := Aside0.mk (And.intro H3 (And.intro hg3 (And.intro zW (And.intro hnW.2.1 hnW.2.2.1))))
  obtain ⟨y0, y1, y2, y3⟩ := y
  clear hb2 hs2 hg2 hf3 hs3 hg3 x0 x1 x2 x3 zW hnW F3
  go_wp2_with (fail)
  refine (catenaryref01_Copy.calls (b.length + 1) A1 c1 b b w3 (CC.fr HH.out.2.1 H3.out.1.rn.dk.F) hc1 (copy_f b (fun x m => by have := szL_mem m; have := HH.out.2.2.1; omega) (by have := szL_len b; have := HH.out.2.2.1; omega) _ (Nat.le_refl _))).mono ?_
  rintro e w4 ⟨v4, rfl, hS4, hb4⟩
  obtain ⟨A4, c4, rfl, hc4, hC4⟩ := Kd.S_reads hS4
  have hC4 : CC w4 A4 b := hC4
  have f4 := Fr.of_below hb4 (fun _ => False)
  have H4 := Aside0.mk (And.intro (H3.out.1.below hb4) (And.intro (f4.blk H3.out.2.1 (fun h => h)) (And.intro hC4 (And.intro H3.out.2.2.2.1 H3.out.2.2.2.2))))
  clear H3 hS4 hb4 hC4 f4 y0 y1 y2 y3
  go_wp2_with (fail)
  have hrel := HH.out.1.rn.rel.rep (packA b)
  obtain ⟨⟨er, d1⟩, hd1⟩ : ∃ z, d.rep (packA b) = z := ⟨_, rfl⟩
  have hB1 : Bys d1.bytes := by
    have := Dsk.rep_bys HH.out.1.bys (packA_bys HH.out.2.2.2.1.2.1)
    rw [hd1] at this
    exact this
  have hap := compact_calls gl g w.heap.size bv d A4 c4 b w4 H4.out.1.log H4.out.1.lfar H4.out.1.rn.dk.at' H4.out.1.rn.dk.F.size H4.out.2.2.1 hc4 (by have := HH.out.2.2.1; omega) (by have := HH.out.1.rn.rel.lo; have := BL.out; omega) HH.out.1.rn.rel.hi
  rw [hd1] at hrel hap
  simp only at hrel hap
  refine hap.mono ?_
  rintro e w6 ⟨rfl, hf6, bv6, hD6, hn6⟩
  have H6 : Rx w w6 gl g gw bv6 rv d1 r := H4.out.1.act hf6 hD6 hn6
  have hg6 := hf6.blk H4.out.2.1 H4.out.2.2.2.1
  have HR := Aside0.mk (And.intro hrel hB1)
  have y : w6.cell? ⟨W.heap.size, 0, none⟩ = some (.int .i64 1) ∧ w6.cell? ⟨W.heap.size, 1, none⟩ = some (.slice A1 b.length c1) ∧ w6.cell? ⟨W.heap.size, 2, none⟩ = some (.int .i64 ta) ∧ w6.cell? ⟨W.heap.size, 3, none⟩ = some (.int .i64 tb) := by simp [World.cell?, hg6]
  have q := rset H6.rh.want
  have H6 := Aside0.mk H6
  clear hrel hap hB1 H4 hf6 hD6 hn6 hg6
  obtain ⟨y0, y1, y2, y3⟩ := y
  obtain ⟨q0, q1, q2, q3, q4, q5⟩ := q
  go_wp2_with (fail)
  have hwr := rcompact_calls r rv A1 c1 b w6 H6.out.rh.lies (fun k hk => (H6.out.rh.far k hk).1) (CC.fr HH.out.2.1 H6.out.rh.dk.F) hc1 (by have := HH.out.2.2.1; omega) (by rw [HH.out.1.rn.rel.b]; have := HH.out.1.rn.dk.at'.ln; omega) (by have := HH.out.1.rn.rel.rlo; omega) HH.out.1.rn.rel.rhi
  have hrel := HR.out.1
  obtain ⟨⟨r1, er1⟩, hr1⟩ : ∃ z, r.write (packA b) true = z := ⟨_, rfl⟩
  rw [hr1] at hrel hwr
  simp only at hrel hwr
  obtain ⟨rfl, hrel⟩ := hrel
  clear hr1 q0 q1 q2 q3 q4 q5 y0 y1 y2 y3
  refine hwr.mono ?_
  clear hwr
  rintro e w7 ⟨v7, rfl, hl7, hn7, hb7⟩
  have HW := Aside0.mk (And.intro hl7 (And.intro hn7 (And.intro hb7 hrel)))
  obtain ⟨A7, c7, rfl, _, _⟩ := hl7
  clear hn7 hb7 hrel
  go_wp2_with (first | ((with_reducible refine gate_dst (N := 21) rfl ?_); refine wpList_alloc_abs (by rfl) 40 (by rfl) (.agg Z6r) (by kernel_rfl) ?_; intro w8 hb8 hs8 hg8) | ((with_reducible refine gate_store (p := 21) rfl ?_); refine wpList_store_abs (by rfl) 40 _ _ (by rfl) w7.heap.size (rcs (.slice A7 r1.bytes.length c7) r1) (by rfl) (by rfl) 40 Z6r hg8 (by kernel_rfl) (by rfl) (by simp [rcs, Value.oneCell']) ?_; intro w9 hf9 hs9 hg9; have q := rset hg9; obtain ⟨q0, q1, q2, q3, q4, q5⟩ := q) | ((with_reducible refine gate_store (p := 8) rfl ?_); refine Aside0.out ?_))
  refine ⟨?_⟩
  have f7 := Fr.of_below HW.out.2.2.1 (fun _ => False)
  have f89 := (Fr.of_below hb8 (fun _ => False)).trans hf9 (fun k hk => .inr (by omega))
  have F69 := f7.trans f89 (fun k h => h.elim)
  have z67 := f7.size
  have z79 := f89.size
  have hw9 := F69.blk H6.out.rh.want (fun h => h)
  refine wpList_store_abs (by rfl) 40 _ _ (by rfl) gw (rcs (.slice A7 r1.bytes.length c7) r1) (by rfl) (by rfl) 40 (rcs rv r) hw9 (by kernel_rfl) (by rfl) (by simp [rcs, Value.oneCell']) ?_
  intro w10 hf10 hs10 hg10
  have H10 : Rw w w10 gl g gw bv6 (.slice A7 r1.bytes.length c7) d1 r1 (i + 1) := H6.out.wrote (F69.below _ (Nat.le_refl _) (fun i h => h.elim)) (HW.out.1.fr f89 (fun _ _ h => h)) (fun k hk => (HW.out.2.1 k hk).elim .inl (fun h => .inr ⟨h.1, by omega⟩)) hf10 hg10 HW.out.2.2.2 HR.out.2
  have H10 := Aside0.mk H10
  clear HR HW H6 q0 q1 q2 q3 q4 q5 f7 f89 F69 z67 z79 hw9 hf10 hs10 hg10 hb8 hs8 hg8 hf9 hs9 hg9
  have hS : ∀ W', Rw w W' gl g gw bv6 (.slice A7 r1.bytes.length c7) d1 r1 (i + 1) → W'.cell? ⟨gw, 0, none⟩ = some (.slice A7 r1.bytes.length c7) := fun W' h => (rset h.rn.want).1
  have HB : ∀ w2, Below w10.heap.size w10 w2 → Calls Try.prog 29 #[.pointer (some ⟨g, 0, none⟩)] w2 fun e w3 => ∃ (A : Option Addr) (c : Nat), e = .returned (.slice A r1.bytes.length c) ∧ w3.cell? ⟨gw, 0, none⟩ = some (.slice A7 r1.bytes.length c7) ∧ Aside0 (Rw w w3 gl g gw bv6 (.slice A7 r1.bytes.length c7) d1 r1 (i + 1) ∧ Rd w3 A r1.bytes ∧ r1.bytes.length ≤ c) := by
    intro w2 hb2
    have h2 := H10.out.below hb2
    refine (bytes_calls g w.heap.size bv6 d1 w2 h2.rn.dk.at').mono ?_
    rintro e w3 ⟨v3, rfl, hO, hb⟩
    rw [← h2.rn.rel.b] at hO
    obtain ⟨A, c, rfl, hc⟩ := hO.slice
    have h3 := h2.below hb
    exact ⟨A, c, rfl, hS _ h3, ⟨h3, QB.rd (q_of_own hO), hc⟩⟩
  have HC : ∀ w3 A c, Aside0 (Rw w w3 gl g gw bv6 (.slice A7 r1.bytes.length c7) d1 r1 (i + 1) ∧ Rd w3 A r1.bytes ∧ r1.bytes.length ≤ c) → Calls Try.prog 28 #[.slice A r1.bytes.length c, .slice A7 r1.bytes.length c7] w3 fun e w4 => e = .returned (.bool true) ∧ w4.cell? ⟨gw, 0, none⟩ = some (.slice A7 r1.bytes.length c7) ∧ Aside0 (Rw w w4 gl g gw bv6 (.slice A7 r1.bytes.length c7) d1 r1 (i + 1)) := by
    intro w3 A c h3
    obtain ⟨A8, c8, e8, hc8, hr8⟩ := h3.out.1.rn.lies
    injection e8 with e8 _ e9
    subst e8 e9
    refine (same_calls r1.bytes A c A7 c7 w3 h3.out.2.1 h3.out.2.2 hr8 hc8 (by rw [h3.out.1.rn.rel.b]; have := h3.out.1.rn.dk.at'.ln; omega)).mono ?_
    rintro e w4 ⟨rfl, hb⟩
    have h4 := h3.out.1.below hb
    exact ⟨rfl, hS _ h4, ⟨h4⟩⟩
  have hs11 := hS _ H10.out
  have HB := Aside0.mk HB
  have HC := Aside0.mk HC
  clear hS
  go_wp2_with (fail)
  go_region_held3 (fun w' => w'.cell? ⟨gw, 0, none⟩ = some (.slice A7 r1.bytes.length c7)) (first | exact hs11 | exact hs13 | exact hs14)
    (first | (go_at_call 29; refine (HB.out _ (below_drew (Below.refl _ _))).mono ?_; rintro e w13 ⟨A13, c13, rfl, hs13, H13⟩) | (go_at_call 28; refine (HC.out _ _ _ H13).mono ?_; rintro e w14 ⟨rfl, hs14, H14⟩))
  clear HB HC hs11 hs13 hs14 H10 H13
  have b5 := B5.out
  go_wp2
  exact HH.out.2.2.2.2 _ _ _ _ _ _ _ ⟨rfl, rfl⟩ rfl rfl rfl rfl rfl (congrArg (Value.int .i64) B5.out) H14.out
end Go.Proofs.Ytkkgjbafncmohaa.Sha

/-
  WalRuns: a round of its loop, an act of kind 2.
-/
set_option linter.unusedVariables false
set_option linter.unusedSimpArgs false
namespace Go.Proofs.Ytkkgjbafncmohaa.Sha
open Go.RowKit Go.Proofs.YtkkgjbafncmohaaW.PrintWords Go.Proofs.YtkkgjbafncmohaaW.PrintLast Go.Proofs.YtkkgjbafncmohaaW.PrintMore Go.Proofs.Ytkkgjbafncmohaa.Q Go.Proofs.Ytkkgjbafncmohaa.Fr Go.Proofs.Ytkkgjbafncmohaa.Oct
open Go.Proofs.Ytkkgjbafncmohaa.Open (Aw kAcw kAcw_open)

set_option maxHeartbeats 8000000 in
set_option maxRecDepth 100000 in
theorem roundW2 (u : Nat → Value) (A : Option Addr) (c : Nat) (L : List Aw) (i : Nat) (hi : i < L.length) (hL : L.length ≤ 100) (w W : World) (hC : Kd.C kAcw w A L.length L) (hlen : szL (L.getD i zAw).recs ≤ 1048576) (hok : (L.getD i zAw).ok) (hk : (L.getD i zAw).kind = 2) (gl g gw : Nat) (bv rv : Value) (d : Dsk) (r : Rdk) (H : Rw w W gl g gw bv rv d r i)
    (Q : Exit → Act → World → Prop) (hQ : ∀ a' W' gl' bv' rv' d' r', Fm 208 a' → sl a' 7 = .pointer (some ⟨g, 0, none⟩) → sl a' 8 = .pointer (some ⟨gw, 0, none⟩) → sl a' 10 = .pointer (some ⟨gl', 0, none⟩) → sl a' 86 = .slice A L.length c → sl a' 87 = .int .i64 (L.length : Int) → sl a' 88 = .int .i64 ((i : Int) + 1) → Rw w W' gl' g gw bv' rv' d' r' (i + 1) → Q .normal a' W') :
    Code.wp Try.prog (bodyN Try.f5 0) Q ⟨#[u 0, u 1, u 2, u 3, u 4, u 5, u 6, .pointer (some ⟨g, 0, none⟩), .pointer (some ⟨gw, 0, none⟩), u 9, .pointer (some ⟨gl, 0, none⟩), u 11, u 12, u 13, u 14, u 15, u 16, u 17, u 18, u 19, u 20, u 21, u 22, u 23, u 24, u 25, u 26, u 27, u 28, u 29, u 30, u 31, u 32, u 33, u 34, u 35, u 36, u 37, u 38, u 39, u 40, u 41, u 42, u 43, u 44, u 45, u 46, u 47, u 48, u 49, u 50, u 51, u 52, u 53, u 54, u 55, u 56, u 57, u 58, u 59, u 60, u 61, u 62, u 63, u 64, u 65, u 66, u 67, u 68, u 69, u 70, u 71, u 72, u 73, u 74, u 75, u 76, u 77, u 78, u 79, u 80, u 81, u 82, u 83, u 84, u 85, .slice A L.length c, .int .i64 (L.length : Int), .int .i64 (i : Int), u 89, u 90, u 91, u 92, u 93, u 94, u 95, u 96, u 97, u 98, u 99, u 100, u 101, u 102, u 103, u 104, u 105, u 106, u 107, u 108, u 109, u 110, u 111, u 112, u 113, u 114, u 115, u 116, u 117, u 118, u 119, u 120, u 121, u 122, u 123, u 124, u 125, u 126, u 127, u 128, u 129, u 130, u 131, u 132, u 133, u 134, u 135, u 136, u 137, u 138, u 139, u 140, u 141, u 142, u 143, u 144, u 145, u 146, u 147, u 148, u 149, u 150, u 151, u 152, u 153, u 154, u 155, u 156, u 157, u 158, u 159, u 160, u 161, u 162, u 163, u 164, u 165, u 166, u 167, u 168, u 169, u 170, u 171, u 172, u 173, u 174, u 175, u 176, u 177, u 178, u 179, u 180, u 181, u 182, u 183, u 184, u 185, u 186, u 187, u 188, u 189, u 190, u 191, u 192, u 193, u 194, u 195, u 196, u 197, u 198, u 199, u 200, u 201, u 202, u 203, u 204, u 205, u 206, u 207], []⟩ W := by
  obtain ⟨ad, A1, c1, rfl, x0, x1, x2, x3, hc1, hr1⟩ := at_acw hC i hi
  have F0 := H.rn.dk.F
  replace x0 := F0.cell x0 (fun h => h)
  replace x1 := F0.cell x1 (fun h => h)
  replace x2 := F0.cell x2 (fun h => h)
  replace x3 := F0.cell x3 (fun h => h)
  rw [hk] at x0
  obtain ⟨x, hx⟩ : ∃ x, L.getD i zAw = x := ⟨_, rfl⟩
  rw [hx] at x1 x2 x3 hc1 hr1 hlen hok
  obtain ⟨m, hm⟩ : ∃ m, L.length = m := ⟨_, rfl⟩
  rw [hm] at hi hL hQ ⊢
  clear hk hx hm hC F0
  obtain ⟨kind, b, ta, tb⟩ := x
  simp only at x1 x2 x3 hc1 hr1 hlen
  have b0 : decide ((i : Int) < (m : Int)) = true := decide_eq_true (by omega)
  have b1 : (0 : Int) ≤ (i : Int) := by omega
  have b2 : (i : Int) < (m : Int) := by omega
  have HH := Aside0.mk (And.intro H (And.intro hr1 (And.intro hlen (And.intro hok hQ))))
  clear H hr1 hlen hok hQ
  have b5 : wrap64 ((i : Int) + 1) = (i : Int) + 1 := by unfold wrap64; omega
  have B5 := Aside0.mk b5
  have BL := Aside0.mk (show i < 100 by omega)
  clear b5 hL
  conv => arg 2; whnf
  go_wp2_with (first | ((with_reducible refine gate_dst (N := 16) rfl ?_); refine wpList_alloc_abs (by rfl) 47 (by rfl) (.agg Z4w) (by kernel_rfl) ?_; intro w2 hb2 hs2 hg2) | ((with_reducible refine gate_store (p := 16) rfl ?_); refine Aside0.out ?_))
  refine ⟨?_⟩
  refine wpList_store_abs (by rfl) 47 _ _ (by rfl) W.heap.size #[.int .i64 2, .slice A1 b.length c1, .int .i64 ta, .int .i64 tb] (by rfl) (by rfl) 47 Z4w hg2 (by kernel_rfl) (by rfl) (by simp [Value.oneCell']) ?_
  intro w3 hf3 hs3 hg3
  have F3 : Fr (fun _ => False) W w3 := (Fr.of_below hb2 (fun _ => False)).trans hf3 (fun k hk => .inr (by omega))
  have H3 : Rw w w3 gl g gw bv rv d r i := HH.out.1.fr F3 (fun k hk => hk.elim)
  have y : w3.cell? ⟨W.heap.size, 0, none⟩ = some (.int .i64 2) ∧ w3.cell? ⟨W.heap.size, 1, none⟩ = some (.slice A1 b.length c1) ∧ w3.cell? ⟨W.heap.size, 2, none⟩ = some (.int .i64 ta) ∧ w3.cell? ⟨W.heap.size, 3, none⟩ = some (.int .i64 tb) := by simp [World.cell?, hg3]
  have zW : W.heap.size < w3.heap.size := blk_lt hg3
  have hnW := HH.out.1.rn.new W.heap.size (Nat.le_refl _)
  have H3 := Aside0.mk (And.intro H3 (And.intro hg3 (And.intro zW (And.intro hnW.2.1 hnW.2.2.1))))
  obtain ⟨y0, y1, y2, y3⟩ := y
  clear hb2 hs2 hg2 hf3 hs3 hg3 x0 x1 x2 x3 zW hnW F3
  go_wp2_with (fail)
  have hrel := HH.out.1.rn.rel.brk ta tb (i64_in HH.out.2.2.2.1.2.2.1).2
  obtain ⟨d1, hd1⟩ : ∃ z, d.brk ta tb = z := ⟨_, rfl⟩
  obtain ⟨r1, hr1⟩ : ∃ z, r.brk ta tb = z := ⟨_, rfl⟩
  have hb1 : r1.bytes = r.bytes := by first | (rw [← hr1]; rfl) | rw [← hr1]
  have hB1 : Bys d1.bytes := by rw [← hd1]; exact HH.out.1.bys
  have hap := break_calls g w.heap.size bv d ta tb w3 H3.out.1.rn.dk.at'
  rw [hd1] at hrel hap
  rw [hr1] at hrel
  refine hap.mono ?_
  rintro e w6 ⟨rfl, hf6, hD6⟩
  replace hf6 := hf6.mono (S' := Fp g bv) (fun i e => .inl e)
  have H6 : Rx w w6 gl g gw bv rv d1 r := H3.out.1.act hf6 hD6 (fun k hk => .inl hk)
  have hg6 := hf6.blk H3.out.2.1 H3.out.2.2.2.1
  obtain ⟨A7, c7, e7, hc7, _⟩ := H6.rh.lies
  subst e7
  have H6 := Aside0.mk (And.intro H6 hg6)
  have HR := Aside0.mk (And.intro hrel (And.intro hb1 hB1))
  have y : w6.cell? ⟨W.heap.size, 0, none⟩ = some (.int .i64 2) ∧ w6.cell? ⟨W.heap.size, 1, none⟩ = some (.slice A1 b.length c1) ∧ w6.cell? ⟨W.heap.size, 2, none⟩ = some (.int .i64 ta) ∧ w6.cell? ⟨W.heap.size, 3, none⟩ = some (.int .i64 tb) := by simp [World.cell?, hg6]
  have q := rset H6.out.1.rh.want
  clear hrel hap H3 y0 y1 y2 y3 hf6 hD6 hg6 hB1
  obtain ⟨y0, y1, y2, y3⟩ := y
  obtain ⟨q0, q1, q2, q3, q4, q5⟩ := q
  go_wp2_with (fail)
  have hwr := rbreak_calls r (.slice A7 r.bytes.length c7) ta tb w6 H6.out.1.rh.lies
  rw [hr1] at hwr
  refine hwr.mono ?_
  clear hwr
  rintro e w9 ⟨rfl, hb9⟩
  have F69 := Fr.of_below hb9 (fun _ => False)
  have hw9 := F69.blk H6.out.1.rh.want (fun h => h)
  go_wp2_with (first | ((with_reducible refine gate_store (p := 8) rfl ?_); refine Aside0.out ?_))
  refine ⟨?_⟩
  refine wpList_store_abs (by rfl) 40 _ _ (by rfl) gw (rcs (.slice A7 r.bytes.length c7) r1) (by rfl) (by rfl) 40 (rcs (.slice A7 r.bytes.length c7) r) hw9 (by kernel_rfl) (by rfl) (by simp [rcs, Value.oneCell']) ?_
  intro w10 hf10 hs10 hg10
  have H10 : Rw w w10 gl g gw bv (.slice A7 r1.bytes.length c7) d1 r1 (i + 1) := by
    rw [HR.out.2.1]
    exact H6.out.1.wrote hb9 (by rw [HR.out.2.1]; exact H6.out.1.rh.lies.fr F69 (fun _ _ h => h)) (fun k hk => .inl hk) hf10 hg10 HR.out.1 HR.out.2.2
  clear hb1 hr1 hd1
  have H10 := Aside0.mk H10
  clear HR H6 y0 y1 y2 y3 q0 q1 q2 q3 q4 q5 F69 hw9 hf10 hs10 hg10 hb9
  have hS : ∀ W', Rw w W' gl g gw bv (.slice A7 r1.bytes.length c7) d1 r1 (i + 1) → W'.cell? ⟨gw, 0, none⟩ = some (.slice A7 r1.bytes.length c7) := fun W' h => (rset h.rn.want).1
  have HB : ∀ w2, Below w10.heap.size w10 w2 → Calls Try.prog 29 #[.pointer (some ⟨g, 0, none⟩)] w2 fun e w3 => ∃ (A : Option Addr) (c : Nat), e = .returned (.slice A r1.bytes.length c) ∧ w3.cell? ⟨gw, 0, none⟩ = some (.slice A7 r1.bytes.length c7) ∧ Aside0 (Rw w w3 gl g gw bv (.slice A7 r1.bytes.length c7) d1 r1 (i + 1) ∧ Rd w3 A r1.bytes ∧ r1.bytes.length ≤ c) := by
    intro w2 hb2
    have h2 := H10.out.below hb2
    refine (bytes_calls g w.heap.size bv d1 w2 h2.rn.dk.at').mono ?_
    rintro e w3 ⟨v3, rfl, hO, hb⟩
    rw [← h2.rn.rel.b] at hO
    obtain ⟨A, c, rfl, hc⟩ := hO.slice
    have h3 := h2.below hb
    exact ⟨A, c, rfl, hS _ h3, ⟨h3, QB.rd (q_of_own hO), hc⟩⟩
  have HC : ∀ w3 A c, Aside0 (Rw w w3 gl g gw bv (.slice A7 r1.bytes.length c7) d1 r1 (i + 1) ∧ Rd w3 A r1.bytes ∧ r1.bytes.length ≤ c) → Calls Try.prog 28 #[.slice A r1.bytes.length c, .slice A7 r1.bytes.length c7] w3 fun e w4 => e = .returned (.bool true) ∧ w4.cell? ⟨gw, 0, none⟩ = some (.slice A7 r1.bytes.length c7) ∧ Aside0 (Rw w w4 gl g gw bv (.slice A7 r1.bytes.length c7) d1 r1 (i + 1)) := by
    intro w3 A c h3
    obtain ⟨A8, c8, e8, hc8, hr8⟩ := h3.out.1.rn.lies
    injection e8 with e8 _ e9
    subst e8 e9
    refine (same_calls r1.bytes A c A7 c7 w3 h3.out.2.1 h3.out.2.2 hr8 hc8 (by rw [h3.out.1.rn.rel.b]; have := h3.out.1.rn.dk.at'.ln; omega)).mono ?_
    rintro e w4 ⟨rfl, hb⟩
    have h4 := h3.out.1.below hb
    exact ⟨rfl, hS _ h4, ⟨h4⟩⟩
  have hs11 := hS _ H10.out
  have HB := Aside0.mk HB
  have HC := Aside0.mk HC
  clear hS
  go_wp2_with (fail)
  go_region_held3 (fun w' => w'.cell? ⟨gw, 0, none⟩ = some (.slice A7 r1.bytes.length c7)) (first | exact hs11 | exact hs13 | exact hs14)
    (first | (go_at_call 29; refine (HB.out _ (below_drew (Below.refl _ _))).mono ?_; rintro e w13 ⟨A13, c13, rfl, hs13, H13⟩) | (go_at_call 28; refine (HC.out _ _ _ H13).mono ?_; rintro e w14 ⟨rfl, hs14, H14⟩))
  clear HB HC hs11 hs13 hs14 H10 H13
  have b5 := B5.out
  go_wp2
  exact HH.out.2.2.2.2 _ _ _ _ _ _ _ ⟨rfl, rfl⟩ rfl rfl rfl rfl rfl (congrArg (Value.int .i64) B5.out) H14.out
end Go.Proofs.Ytkkgjbafncmohaa.Sha

/-
  WalRuns: a round of its loop, an act of kind 4.
-/
set_option linter.unusedVariables false
set_option linter.unusedSimpArgs false
namespace Go.Proofs.Ytkkgjbafncmohaa.Sha
open Go.RowKit Go.Proofs.YtkkgjbafncmohaaW.PrintWords Go.Proofs.YtkkgjbafncmohaaW.PrintLast Go.Proofs.YtkkgjbafncmohaaW.PrintMore Go.Proofs.Ytkkgjbafncmohaa.Q Go.Proofs.Ytkkgjbafncmohaa.Fr Go.Proofs.Ytkkgjbafncmohaa.Oct
open Go.Proofs.Ytkkgjbafncmohaa.Open (Aw kAcw kAcw_open)

set_option maxHeartbeats 8000000 in
set_option maxRecDepth 100000 in
theorem roundW4 (u : Nat → Value) (A : Option Addr) (c : Nat) (L : List Aw) (i : Nat) (hi : i < L.length) (hL : L.length ≤ 100) (w W : World) (hC : Kd.C kAcw w A L.length L) (hlen : szL (L.getD i zAw).recs ≤ 1048576) (hok : (L.getD i zAw).ok) (hk : (L.getD i zAw).kind = 4) (gl g gw : Nat) (bv rv : Value) (d : Dsk) (r : Rdk) (H : Rw w W gl g gw bv rv d r i)
    (Q : Exit → Act → World → Prop) (hQ : ∀ a' W' gl' bv' rv' d' r', Fm 208 a' → sl a' 7 = .pointer (some ⟨g, 0, none⟩) → sl a' 8 = .pointer (some ⟨gw, 0, none⟩) → sl a' 10 = .pointer (some ⟨gl', 0, none⟩) → sl a' 86 = .slice A L.length c → sl a' 87 = .int .i64 (L.length : Int) → sl a' 88 = .int .i64 ((i : Int) + 1) → Rw w W' gl' g gw bv' rv' d' r' (i + 1) → Q .normal a' W') :
    Code.wp Try.prog (bodyN Try.f5 0) Q ⟨#[u 0, u 1, u 2, u 3, u 4, u 5, u 6, .pointer (some ⟨g, 0, none⟩), .pointer (some ⟨gw, 0, none⟩), u 9, .pointer (some ⟨gl, 0, none⟩), u 11, u 12, u 13, u 14, u 15, u 16, u 17, u 18, u 19, u 20, u 21, u 22, u 23, u 24, u 25, u 26, u 27, u 28, u 29, u 30, u 31, u 32, u 33, u 34, u 35, u 36, u 37, u 38, u 39, u 40, u 41, u 42, u 43, u 44, u 45, u 46, u 47, u 48, u 49, u 50, u 51, u 52, u 53, u 54, u 55, u 56, u 57, u 58, u 59, u 60, u 61, u 62, u 63, u 64, u 65, u 66, u 67, u 68, u 69, u 70, u 71, u 72, u 73, u 74, u 75, u 76, u 77, u 78, u 79, u 80, u 81, u 82, u 83, u 84, u 85, .slice A L.length c, .int .i64 (L.length : Int), .int .i64 (i : Int), u 89, u 90, u 91, u 92, u 93, u 94, u 95, u 96, u 97, u 98, u 99, u 100, u 101, u 102, u 103, u 104, u 105, u 106, u 107, u 108, u 109, u 110, u 111, u 112, u 113, u 114, u 115, u 116, u 117, u 118, u 119, u 120, u 121, u 122, u 123, u 124, u 125, u 126, u 127, u 128, u 129, u 130, u 131, u 132, u 133, u 134, u 135, u 136, u 137, u 138, u 139, u 140, u 141, u 142, u 143, u 144, u 145, u 146, u 147, u 148, u 149, u 150, u 151, u 152, u 153, u 154, u 155, u 156, u 157, u 158, u 159, u 160, u 161, u 162, u 163, u 164, u 165, u 166, u 167, u 168, u 169, u 170, u 171, u 172, u 173, u 174, u 175, u 176, u 177, u 178, u 179, u 180, u 181, u 182, u 183, u 184, u 185, u 186, u 187, u 188, u 189, u 190, u 191, u 192, u 193, u 194, u 195, u 196, u 197, u 198, u 199, u 200, u 201, u 202, u 203, u 204, u 205, u 206, u 207], []⟩ W := by
  obtain ⟨ad, A1, c1, rfl, x0, x1, x2, x3, hc1, hr1⟩ := at_acw hC i hi
  have F0 := H.rn.dk.F
  replace x0 := F0.cell x0 (fun h => h)
  replace x1 := F0.cell x1 (fun h => h)
  replace x2 := F0.cell x2 (fun h => h)
  replace x3 := F0.cell x3 (fun h => h)
  rw [hk] at x0
  obtain ⟨x, hx⟩ : ∃ x, L.getD i zAw = x := ⟨_, rfl⟩
  rw [hx] at x1 x2 x3 hc1 hr1 hlen hok
  obtain ⟨m, hm⟩ : ∃ m, L.length = m := ⟨_, rfl⟩
  rw [hm] at hi hL hQ ⊢
  clear hk hx hm hC F0
  obtain ⟨kind, b, ta, tb⟩ := x
  simp only at x1 x2 x3 hc1 hr1 hlen
  have b0 : decide ((i : Int) < (m : Int)) = true := decide_eq_true (by omega)
  have b1 : (0 : Int) ≤ (i : Int) := by omega
  have b2 : (i : Int) < (m : Int) := by omega
  have HH := Aside0.mk (And.intro H (And.intro hr1 (And.intro hlen (And.intro hok hQ))))
  clear H hr1 hlen hok hQ
  have b5 : wrap64 ((i : Int) + 1) = (i : Int) + 1 := by unfold wrap64; omega
  have B5 := Aside0.mk b5
  have BL := Aside0.mk (show i < 100 by omega)
  clear b5 hL
  conv => arg 2; whnf
  go_wp2_with (first | ((with_reducible refine gate_dst (N := 16) rfl ?_); refine wpList_alloc_abs (by rfl) 47 (by rfl) (.agg Z4w) (by kernel_rfl) ?_; intro w2 hb2 hs2 hg2) | ((with_reducible refine gate_store (p := 16) rfl ?_); refine Aside0.out ?_))
  refine ⟨?_⟩
  refine wpList_store_abs (by rfl) 47 _ _ (by rfl) W.heap.size #[.int .i64 4, .slice A1 b.length c1, .int .i64 ta, .int .i64 tb] (by rfl) (by rfl) 47 Z4w hg2 (by kernel_rfl) (by rfl) (by simp [Value.oneCell']) ?_
  intro w3 hf3 hs3 hg3
  have F3 : Fr (fun _ => False) W w3 := (Fr.of_below hb2 (fun _ => False)).trans hf3 (fun k hk => .inr (by omega))
  have H3 : Rw w w3 gl g gw bv rv d r i := HH.out.1.fr F3 (fun k hk => hk.elim)
  have y : w3.cell? ⟨W.heap.size, 0, none⟩ = some (.int .i64 4) ∧ w3.cell? ⟨W.heap.size, 1, none⟩ = some (.slice A1 b.length c1) ∧ w3.cell? ⟨W.heap.size, 2, none⟩ = some (.int .i64 ta) ∧ w3.cell? ⟨W.heap.size, 3, none⟩ = some (.int .i64 tb) := by simp [World.cell?, hg3]
  have zW : W.heap.size < w3.heap.size := blk_lt hg3
  have hnW := HH.out.1.rn.new W.heap.size (Nat.le_refl _)
  have H3 := Aside0.mk (And.intro H3 (And.intro hg3 (And.intro zW (And.intro hnW.2.1 hnW.2.2.1))))
  obtain ⟨y0, y1, y2, y3⟩ := y
  clear hb2 hs2 hg2 hf3 hs3 hg3 x0 x1 x2 x3 zW hnW F3
  go_wp2_with (fail)
  have hrel := HH.out.1.rn.rel.room ta
  obtain ⟨d1, hd1⟩ : ∃ z, d.rm ta = z := ⟨_, rfl⟩
  obtain ⟨r1, hr1⟩ : ∃ z, ({ r with room := roomI ta } : Rdk) = z := ⟨_, rfl⟩
  have hb1 : r1.bytes = r.bytes := by first | (rw [← hr1]; rfl) | rw [← hr1]
  have hB1 : Bys d1.bytes := by rw [← hd1]; exact HH.out.1.bys
  have hap := room_calls g w.heap.size bv d ta w3 H3.out.1.rn.dk.at'
  rw [hd1] at hrel hap
  rw [hr1] at hrel
  refine hap.mono ?_
  rintro e w6 ⟨rfl, hf6, hD6⟩
  replace hf6 := hf6.mono (S' := Fp g bv) (fun i e => .inl e)
  have H6 : Rx w w6 gl g gw bv rv d1 r := H3.out.1.act hf6 hD6 (fun k hk => .inl hk)
  have hg6 := hf6.blk H3.out.2.1 H3.out.2.2.2.1
  obtain ⟨A7, c7, e7, hc7, _⟩ := H6.rh.lies
  subst e7
  have H6 := Aside0.mk (And.intro H6 hg6)
  have HR := Aside0.mk (And.intro hrel (And.intro hb1 hB1))
  have y : w6.cell? ⟨W.heap.size, 0, none⟩ = some (.int .i64 4) ∧ w6.cell? ⟨W.heap.size, 1, none⟩ = some (.slice A1 b.length c1) ∧ w6.cell? ⟨W.heap.size, 2, none⟩ = some (.int .i64 ta) ∧ w6.cell? ⟨W.heap.size, 3, none⟩ = some (.int .i64 tb) := by simp [World.cell?, hg6]
  have q := rset H6.out.1.rh.want
  clear hrel hap H3 y0 y1 y2 y3 hf6 hD6 hg6 hB1
  obtain ⟨y0, y1, y2, y3⟩ := y
  obtain ⟨q0, q1, q2, q3, q4, q5⟩ := q
  go_wp2_with (fail)
  refine (catenaryref11_Room.calls ta (roomI ta) w6 (rroom_f ta)).mono ?_
  rintro e w9 ⟨rfl, nd, hwd⟩
  have F69 : Fr (fun _ => False) w6 w9 := by rw [hwd]; exact (Fr.refl _ _).of_drewN nd
  clear hwd
  have hb9 : Below w6.heap.size w6 w9 := F69.below _ (Nat.le_refl _) (fun i h => h.elim)
  have hw9 := F69.blk H6.out.1.rh.want (fun h => h)
  have fz1 := frozenV hw9 1
  clear q0 q1 q2 q3 q4 q5
  have q := rset hw9
  obtain ⟨q0, q1, q2, q3, q4, q5⟩ := q
  obtain ⟨mr, hmr⟩ : ∃ z, roomI ta = z := ⟨_, rfl⟩
  rw [hmr]
  have hf10 : Fr (fun k => k = gw) w9 (w9.setCell ⟨gw, 1, none⟩ (.int .i64 mr)) := Fr.one w9 gw 1 _
  have hg10 : (w9.setCell ⟨gw, 1, none⟩ (.int .i64 mr)).heap[gw]? = some (.cells (rcs (.slice A7 r.bytes.length c7) r1) 40 (0, 0)) := by rw [← hr1, hmr]; exact (set6 hw9 (.int .i64 mr)).2.1
  have H10 : Rw w (w9.setCell ⟨gw, 1, none⟩ (.int .i64 mr)) gl g gw bv (.slice A7 r1.bytes.length c7) d1 r1 (i + 1) := by
    rw [HR.out.2.1]
    exact H6.out.1.wrote hb9 (by rw [HR.out.2.1]; exact H6.out.1.rh.lies.fr F69 (fun _ _ h => h)) (fun k hk => .inl hk) hf10 hg10 HR.out.1 HR.out.2.2
  clear hb1 hr1 hd1
  have H10 := Aside0.mk H10
  clear HR H6 y0 y1 y2 y3 q0 q2 q3 q4 q5 F69 hw9 hf10 hg10 hmr hb9
  go_wp2_with (fail)
  clear q1 fz1
  generalize w9.setCell ⟨gw, 1, none⟩ (.int .i64 mr) = w10 at *
  have hS : ∀ W', Rw w W' gl g gw bv (.slice A7 r1.bytes.length c7) d1 r1 (i + 1) → W'.cell? ⟨gw, 0, none⟩ = some (.slice A7 r1.bytes.length c7) := fun W' h => (rset h.rn.want).1
  have HB : ∀ w2, Below w10.heap.size w10 w2 → Calls Try.prog 29 #[.pointer (some ⟨g, 0, none⟩)] w2 fun e w3 => ∃ (A : Option Addr) (c : Nat), e = .returned (.slice A r1.bytes.length c) ∧ w3.cell? ⟨gw, 0, none⟩ = some (.slice A7 r1.bytes.length c7) ∧ Aside0 (Rw w w3 gl g gw bv (.slice A7 r1.bytes.length c7) d1 r1 (i + 1) ∧ Rd w3 A r1.bytes ∧ r1.bytes.length ≤ c) := by
    intro w2 hb2
    have h2 := H10.out.below hb2
    refine (bytes_calls g w.heap.size bv d1 w2 h2.rn.dk.at').mono ?_
    rintro e w3 ⟨v3, rfl, hO, hb⟩
    rw [← h2.rn.rel.b] at hO
    obtain ⟨A, c, rfl, hc⟩ := hO.slice
    have h3 := h2.below hb
    exact ⟨A, c, rfl, hS _ h3, ⟨h3, QB.rd (q_of_own hO), hc⟩⟩
  have HC : ∀ w3 A c, Aside0 (Rw w w3 gl g gw bv (.slice A7 r1.bytes.length c7) d1 r1 (i + 1) ∧ Rd w3 A r1.bytes ∧ r1.bytes.length ≤ c) → Calls Try.prog 28 #[.slice A r1.bytes.length c, .slice A7 r1.bytes.length c7] w3 fun e w4 => e = .returned (.bool true) ∧ w4.cell? ⟨gw, 0, none⟩ = some (.slice A7 r1.bytes.length c7) ∧ Aside0 (Rw w w4 gl g gw bv (.slice A7 r1.bytes.length c7) d1 r1 (i + 1)) := by
    intro w3 A c h3
    obtain ⟨A8, c8, e8, hc8, hr8⟩ := h3.out.1.rn.lies
    injection e8 with e8 _ e9
    subst e8 e9
    refine (same_calls r1.bytes A c A7 c7 w3 h3.out.2.1 h3.out.2.2 hr8 hc8 (by rw [h3.out.1.rn.rel.b]; have := h3.out.1.rn.dk.at'.ln; omega)).mono ?_
    rintro e w4 ⟨rfl, hb⟩
    have h4 := h3.out.1.below hb
    exact ⟨rfl, hS _ h4, ⟨h4⟩⟩
  have hs11 := hS _ H10.out
  have HB := Aside0.mk HB
  have HC := Aside0.mk HC
  clear hS
  go_wp2_with (fail)
  go_region_held3 (fun w' => w'.cell? ⟨gw, 0, none⟩ = some (.slice A7 r1.bytes.length c7)) (first | exact hs11 | exact hs13 | exact hs14)
    (first | (go_at_call 29; refine (HB.out _ (below_drew (Below.refl _ _))).mono ?_; rintro e w13 ⟨A13, c13, rfl, hs13, H13⟩) | (go_at_call 28; refine (HC.out _ _ _ H13).mono ?_; rintro e w14 ⟨rfl, hs14, H14⟩))
  clear HB HC hs11 hs13 hs14 H10 H13
  have b5 := B5.out
  go_wp2
  exact HH.out.2.2.2.2 _ _ _ _ _ _ _ ⟨rfl, rfl⟩ rfl rfl rfl rfl rfl (congrArg (Value.int .i64) B5.out) H14.out
end Go.Proofs.Ytkkgjbafncmohaa.Sha

/-
  WalRuns: a round of its loop, an act of kind any other.
-/
set_option linter.unusedVariables false
set_option linter.unusedSimpArgs false
namespace Go.Proofs.Ytkkgjbafncmohaa.Sha
open Go.RowKit Go.Proofs.YtkkgjbafncmohaaW.PrintWords Go.Proofs.YtkkgjbafncmohaaW.PrintLast Go.Proofs.YtkkgjbafncmohaaW.PrintMore Go.Proofs.Ytkkgjbafncmohaa.Q Go.Proofs.Ytkkgjbafncmohaa.Fr Go.Proofs.Ytkkgjbafncmohaa.Oct
open Go.Proofs.Ytkkgjbafncmohaa.Open (Aw kAcw kAcw_open)

set_option maxHeartbeats 8000000 in
set_option maxRecDepth 100000 in
theorem roundW5 (u : Nat → Value) (A : Option Addr) (c : Nat) (L : List Aw) (i : Nat) (hi : i < L.length) (hL : L.length ≤ 100) (w W : World) (hC : Kd.C kAcw w A L.length L) (hlen : szL (L.getD i zAw).recs ≤ 1048576) (hok : (L.getD i zAw).ok) (hk : (L.getD i zAw).kind ≠ 0 ∧ (L.getD i zAw).kind ≠ 1 ∧ (L.getD i zAw).kind ≠ 2 ∧ (L.getD i zAw).kind ≠ 3 ∧ (L.getD i zAw).kind ≠ 4) (gl g gw : Nat) (bv rv : Value) (d : Dsk) (r : Rdk) (H : Rw w W gl g gw bv rv d r i)
    (Q : Exit → Act → World → Prop) (hQ : ∀ a' W' gl' bv' rv' d' r', Fm 208 a' → sl a' 7 = .pointer (some ⟨g, 0, none⟩) → sl a' 8 = .pointer (some ⟨gw, 0, none⟩) → sl a' 10 = .pointer (some ⟨gl', 0, none⟩) → sl a' 86 = .slice A L.length c → sl a' 87 = .int .i64 (L.length : Int) → sl a' 88 = .int .i64 ((i : Int) + 1) → Rw w W' gl' g gw bv' rv' d' r' (i + 1) → Q .normal a' W') :
    Code.wp Try.prog (bodyN Try.f5 0) Q ⟨#[u 0, u 1, u 2, u 3, u 4, u 5, u 6, .pointer (some ⟨g, 0, none⟩), .pointer (some ⟨gw, 0, none⟩), u 9, .pointer (some ⟨gl, 0, none⟩), u 11, u 12, u 13, u 14, u 15, u 16, u 17, u 18, u 19, u 20, u 21, u 22, u 23, u 24, u 25, u 26, u 27, u 28, u 29, u 30, u 31, u 32, u 33, u 34, u 35, u 36, u 37, u 38, u 39, u 40, u 41, u 42, u 43, u 44, u 45, u 46, u 47, u 48, u 49, u 50, u 51, u 52, u 53, u 54, u 55, u 56, u 57, u 58, u 59, u 60, u 61, u 62, u 63, u 64, u 65, u 66, u 67, u 68, u 69, u 70, u 71, u 72, u 73, u 74, u 75, u 76, u 77, u 78, u 79, u 80, u 81, u 82, u 83, u 84, u 85, .slice A L.length c, .int .i64 (L.length : Int), .int .i64 (i : Int), u 89, u 90, u 91, u 92, u 93, u 94, u 95, u 96, u 97, u 98, u 99, u 100, u 101, u 102, u 103, u 104, u 105, u 106, u 107, u 108, u 109, u 110, u 111, u 112, u 113, u 114, u 115, u 116, u 117, u 118, u 119, u 120, u 121, u 122, u 123, u 124, u 125, u 126, u 127, u 128, u 129, u 130, u 131, u 132, u 133, u 134, u 135, u 136, u 137, u 138, u 139, u 140, u 141, u 142, u 143, u 144, u 145, u 146, u 147, u 148, u 149, u 150, u 151, u 152, u 153, u 154, u 155, u 156, u 157, u 158, u 159, u 160, u 161, u 162, u 163, u 164, u 165, u 166, u 167, u 168, u 169, u 170, u 171, u 172, u 173, u 174, u 175, u 176, u 177, u 178, u 179, u 180, u 181, u 182, u 183, u 184, u 185, u 186, u 187, u 188, u 189, u 190, u 191, u 192, u 193, u 194, u 195, u 196, u 197, u 198, u 199, u 200, u 201, u 202, u 203, u 204, u 205, u 206, u 207], []⟩ W := by
  obtain ⟨ad, A1, c1, rfl, x0, x1, x2, x3, hc1, hr1⟩ := at_acw hC i hi
  have F0 := H.rn.dk.F
  replace x0 := F0.cell x0 (fun h => h)
  replace x1 := F0.cell x1 (fun h => h)
  replace x2 := F0.cell x2 (fun h => h)
  replace x3 := F0.cell x3 (fun h => h)
  obtain ⟨x, hx⟩ : ∃ x, L.getD i zAw = x := ⟨_, rfl⟩
  rw [hx] at hk x0 x1 x2 x3 hc1 hr1 hlen hok
  obtain ⟨m, hm⟩ : ∃ m, L.length = m := ⟨_, rfl⟩
  rw [hm] at hi hL hQ ⊢
  clear hx hm hC F0
  obtain ⟨kind, b, ta, tb⟩ := x
  simp only at hk x0 x1 x2 x3 hc1 hr1 hlen
  have e0 : decide (kind = 0) = false := decide_eq_false (by have := hk; omega)
  have f0 : (kind == 0) = false := by simpa using (show ¬ kind = 0 by have := hk; omega)
  have e1 : decide (kind = 1) = false := decide_eq_false (by have := hk; omega)
  have f1 : (kind == 1) = false := by simpa using (show ¬ kind = 1 by have := hk; omega)
  have e2 : decide (kind = 2) = false := decide_eq_false (by have := hk; omega)
  have f2 : (kind == 2) = false := by simpa using (show ¬ kind = 2 by have := hk; omega)
  have e3 : decide (kind = 3) = false := decide_eq_false (by have := hk; omega)
  have f3 : (kind == 3) = false := by simpa using (show ¬ kind = 3 by have := hk; omega)
  have e4 : decide (kind = 4) = false := decide_eq_false (by have := hk; omega)
  have f4 : (kind == 4) = false := by simpa using (show ¬ kind = 4 by have := hk; omega)
  clear hk
  have b0 : decide ((i : Int) < (m : Int)) = true := decide_eq_true (by omega)
  have b1 : (0 : Int) ≤ (i : Int) := by omega
  have b2 : (i : Int) < (m : Int) := by omega
  have HH := Aside0.mk (And.intro H (And.intro hr1 (And.intro hlen (And.intro hok hQ))))
  clear H hr1 hlen hok hQ
  have b5 : wrap64 ((i : Int) + 1) = (i : Int) + 1 := by unfold wrap64; omega
  have B5 := Aside0.mk b5
  have BL := Aside0.mk (show i < 100 by omega)
  clear b5 hL
  conv => arg 2; whnf
  go_wp2_with (first | ((with_reducible refine gate_dst (N := 16) rfl ?_); refine wpList_alloc_abs (by rfl) 47 (by rfl) (.agg Z4w) (by kernel_rfl) ?_; intro w2 hb2 hs2 hg2) | ((with_reducible refine gate_store (p := 16) rfl ?_); refine Aside0.out ?_))
  refine ⟨?_⟩
  refine wpList_store_abs (by rfl) 47 _ _ (by rfl) W.heap.size #[.int .i64 kind, .slice A1 b.length c1, .int .i64 ta, .int .i64 tb] (by rfl) (by rfl) 47 Z4w hg2 (by kernel_rfl) (by rfl) (by simp [Value.oneCell']) ?_
  intro w3 hf3 hs3 hg3
  have F3 : Fr (fun _ => False) W w3 := (Fr.of_below hb2 (fun _ => False)).trans hf3 (fun k hk => .inr (by omega))
  have H3 : Rw w w3 gl g gw bv rv d r i := HH.out.1.fr F3 (fun k hk => hk.elim)
  have y : w3.cell? ⟨W.heap.size, 0, none⟩ = some (.int .i64 kind) ∧ w3.cell? ⟨W.heap.size, 1, none⟩ = some (.slice A1 b.length c1) ∧ w3.cell? ⟨W.heap.size, 2, none⟩ = some (.int .i64 ta) ∧ w3.cell? ⟨W.heap.size, 3, none⟩ = some (.int .i64 tb) := by simp [World.cell?, hg3]
  have zW : W.heap.size < w3.heap.size := blk_lt hg3
  have hnW := HH.out.1.rn.new W.heap.size (Nat.le_refl _)
  have H3 := Aside0.mk (And.intro H3 (And.intro hg3 (And.intro zW (And.intro hnW.2.1 hnW.2.2.1))))
  obtain ⟨y0, y1, y2, y3⟩ := y
  clear hb2 hs2 hg2 hf3 hs3 hg3 x0 x1 x2 x3 zW hnW F3
  go_wp2_with (fail)
  obtain ⟨A7, c7, e7, hc7, _⟩ := HH.out.1.rn.lies
  subst e7
  have H10 : Aside0 (Rw w w3 gl g gw bv (.slice A7 r.bytes.length c7) d r (i + 1)) := ⟨⟨⟨H3.out.1.rn.dk, H3.out.1.rn.want, H3.out.1.rn.lies, H3.out.1.rn.ge, H3.out.1.rn.ngw, H3.out.1.rn.far, H3.out.1.rn.rel.step⟩, H3.out.1.log, H3.out.1.lfar, H3.out.1.lnew, H3.out.1.lne, H3.out.1.lown, H3.out.1.bys⟩⟩
  clear H3 y0 y1 y2 y3
  have hS : ∀ W', Rw w W' gl g gw bv (.slice A7 r.bytes.length c7) d r (i + 1) → W'.cell? ⟨gw, 0, none⟩ = some (.slice A7 r.bytes.length c7) := fun W' h => (rset h.rn.want).1
  have HB : ∀ w2, Below w3.heap.size w3 w2 → Calls Try.prog 29 #[.pointer (some ⟨g, 0, none⟩)] w2 fun e w3 => ∃ (A : Option Addr) (c : Nat), e = .returned (.slice A r.bytes.length c) ∧ w3.cell? ⟨gw, 0, none⟩ = some (.slice A7 r.bytes.length c7) ∧ Aside0 (Rw w w3 gl g gw bv (.slice A7 r.bytes.length c7) d r (i + 1) ∧ Rd w3 A r.bytes ∧ r.bytes.length ≤ c) := by
    intro w2 hb2
    have h2 := H10.out.below hb2
    refine (bytes_calls g w.heap.size bv d w2 h2.rn.dk.at').mono ?_
    rintro e w3 ⟨v3, rfl, hO, hb⟩
    rw [← h2.rn.rel.b] at hO
    obtain ⟨A, c, rfl, hc⟩ := hO.slice
    have h3 := h2.below hb
    exact ⟨A, c, rfl, hS _ h3, ⟨h3, QB.rd (q_of_own hO), hc⟩⟩
  have HC : ∀ w3 A c, Aside0 (Rw w w3 gl g gw bv (.slice A7 r.bytes.length c7) d r (i + 1) ∧ Rd w3 A r.bytes ∧ r.bytes.length ≤ c) → Calls Try.prog 28 #[.slice A r.bytes.length c, .slice A7 r.bytes.length c7] w3 fun e w4 => e = .returned (.bool true) ∧ w4.cell? ⟨gw, 0, none⟩ = some (.slice A7 r.bytes.length c7) ∧ Aside0 (Rw w w4 gl g gw bv (.slice A7 r.bytes.length c7) d r (i + 1)) := by
    intro w3 A c h3
    obtain ⟨A8, c8, e8, hc8, hr8⟩ := h3.out.1.rn.lies
    injection e8 with e8 _ e9
    subst e8 e9
    refine (same_calls r.bytes A c A7 c7 w3 h3.out.2.1 h3.out.2.2 hr8 hc8 (by rw [h3.out.1.rn.rel.b]; have := h3.out.1.rn.dk.at'.ln; omega)).mono ?_
    rintro e w4 ⟨rfl, hb⟩
    have h4 := h3.out.1.below hb
    exact ⟨rfl, hS _ h4, ⟨h4⟩⟩
  have hs11 := hS _ H10.out
  have HB := Aside0.mk HB
  have HC := Aside0.mk HC
  clear hS
  go_wp2_with (fail)
  go_region_held3 (fun w' => w'.cell? ⟨gw, 0, none⟩ = some (.slice A7 r.bytes.length c7)) (first | exact hs11 | exact hs13 | exact hs14)
    (first | (go_at_call 29; refine (HB.out _ (below_drew (Below.refl _ _))).mono ?_; rintro e w13 ⟨A13, c13, rfl, hs13, H13⟩) | (go_at_call 28; refine (HC.out _ _ _ H13).mono ?_; rintro e w14 ⟨rfl, hs14, H14⟩))
  clear HB HC hs11 hs13 hs14 H10 H13
  have b5 := B5.out
  go_wp2
  exact HH.out.2.2.2.2 _ _ _ _ _ _ _ ⟨rfl, rfl⟩ rfl rfl rfl rfl rfl (congrArg (Value.int .i64) B5.out) H14.out
end Go.Proofs.Ytkkgjbafncmohaa.Sha
