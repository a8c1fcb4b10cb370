/-
  WalCompacts, its first loop: all records' bytes are counted.
-/
import Derived.Test.YtkkgjbafncmohaaWalS
set_option linter.unusedVariables false
set_option linter.unusedSimpArgs false
namespace Go.Proofs.Ytkkgjbafncmohaa.Sha
open Go.RowKit Go.Proofs.YtkkgjbafncmohaaW.PrintWords Go.Proofs.YtkkgjbafncmohaaW.PrintLast Go.Proofs.YtkkgjbafncmohaaW.PrintMore Go.Proofs.Ytkkgjbafncmohaa.Q Go.Proofs.Ytkkgjbafncmohaa.Fr Go.Proofs.Ytkkgjbafncmohaa.Oct

set_option maxRecDepth 100000 in
theorem fm96 {a : Act} (h : Fm 96 a) : a = ⟨#[sl a 0, sl a 1, sl a 2, sl a 3, sl a 4, sl a 5, sl a 6, sl a 7, sl a 8, sl a 9, sl a 10, sl a 11, sl a 12, sl a 13, sl a 14, sl a 15, sl a 16, sl a 17, sl a 18, sl a 19, sl a 20, sl a 21, sl a 22, sl a 23, sl a 24, sl a 25, sl a 26, sl a 27, sl a 28, sl a 29, sl a 30, sl a 31, sl a 32, sl a 33, sl a 34, sl a 35, sl a 36, sl a 37, sl a 38, sl a 39, sl a 40, sl a 41, sl a 42, sl a 43, sl a 44, sl a 45, sl a 46, sl a 47, sl a 48, sl a 49, sl a 50, sl a 51, sl a 52, sl a 53, sl a 54, sl a 55, sl a 56, sl a 57, sl a 58, sl a 59, sl a 60, sl a 61, sl a 62, sl a 63, sl a 64, sl a 65, sl a 66, sl a 67, sl a 68, sl a 69, sl a 70, sl a 71, sl a 72, sl a 73, sl a 74, sl a 75, sl a 76, sl a 77, sl a 78, sl a 79, sl a 80, sl a 81, sl a 82, sl a 83, sl a 84, sl a 85, sl a 86, sl a 87, sl a 88, sl a 89, sl a 90, sl a 91, sl a 92, sl a 93, sl a 94, sl a 95], []⟩ := by
  obtain ⟨T, D⟩ := a
  obtain ⟨h1, h2⟩ := h
  obtain rfl : D = [] := h2
  obtain ⟨l⟩ := T
  have h1 : l.length = 96 := h1
  congr 2
  refine List.ext_getElem? fun i => ?_
  by_cases hi : i < 96
  · have hx : ∀ j, j < 96 → l[j]? = some (sl ⟨⟨l⟩, []⟩ j) := fun j hj => by
      have hl : j < l.length := by omega
      simp [sl, Array.getD_eq_getD_getElem?, List.getElem?_eq_getElem hl]
    rw [hx i hi]
    have : ∀ (s : Nat → Value) (i : Nat), i < 96 → ((List.range 96).map s)[i]? = some (s i) := fun s i hi => by simp [hi]
    exact (this _ i hi).symm
  · have h2 : ∀ (s : Nat → Value), ((List.range 96).map s)[i]? = none := fun s => by simp; omega
    exact (List.getElem?_eq_none (by omega)).trans (h2 _).symm
/-- The records' bytes, with five for each length. -/
def tot (L : List (List Int)) : Nat := (L.map fun x => x.length + 5).sum
theorem tot_append (a b : List (List Int)) : tot (a ++ b) = tot a + tot b := by simp [tot]
theorem tot_take (L : List (List Int)) (t : Nat) (h : t < L.length) : tot (L.take (t + 1)) = tot (L.take t) + ((L.getD t []).length + 5) := by
  rw [List.take_succ_eq_append_getElem h, tot_append]
  simp [tot, List.getD_eq_getElem?_getD, List.getElem?_eq_getElem h]
theorem tot_pack (L : List (List Int)) : (packA L).length ≤ tot L := by
  induction L with
  | nil => simp [tot, packA_nil]
  | cons p L ih =>
    have := (bytesA_len p).1
    rw [packA_cons, List.length_append]
    simp only [tot, List.map_cons, List.sum_cons] at ih ⊢
    omega
theorem tot_szL (L : List (List Int)) : szL L ≤ tot L := by
  induction L with
  | nil => simp [tot, szL]
  | cons p L ih =>
    rw [szL_cons]
    simp only [tot, List.map_cons, List.sum_cons] at ih ⊢
    omega
theorem tot_mem {L : List (List Int)} {x : List Int} (h : x ∈ L) : x.length ≤ tot L := by
  have := szL_mem h
  have := tot_szL L
  omega
set_option maxHeartbeats 8000000 in
set_option maxRecDepth 100000 in
theorem roundP1 (u : Nat → Value) (A : Option Addr) (c : Nat) (L : List (List Int)) (i : Nat) (hi : i < L.length) (hL : L.length ≤ 9223372036854775807) (T : Int) (hT : 0 ≤ T ∧ T ≤ 100005) (hb : (L.getD i []).length ≤ 140737488351232) (w : World) (hC : CC w A L)
    (Q : Exit → Act → World → Prop) (hret : ¬ ((L.getD i []).length : Int) ≤ 100000 - T → ∀ a', Fm 96 a' → sl a' 6 = .bool true → Q .ret a' w)
    (hQ : ((L.getD i []).length : Int) ≤ 100000 - T → ∀ a', Fm 96 a' → sl a' 0 = u 0 → sl a' 1 = u 1 → sl a' 2 = u 2 → sl a' 7 = .int .i64 (T + (((L.getD i []).length : Int) + 5)) → sl a' 23 = .slice A L.length c → sl a' 24 = .int .i64 (L.length : Int) → sl a' 25 = .int .i64 ((i : Int) + 1) → Q .normal a' w) :
    Code.wp Try.prog (bodyN Try.f6 0) Q ⟨#[u 0, u 1, u 2, u 3, u 4, u 5, u 6, .int .i64 T, u 8, u 9, u 10, u 11, u 12, u 13, u 14, u 15, u 16, u 17, u 18, u 19, u 20, u 21, u 22, .slice A L.length c, .int .i64 (L.length : Int), .int .i64 (i : Int), u 26, u 27, u 28, u 29, u 30, u 31, u 32, u 33, u 34, u 35, u 36, u 37, u 38, u 39, u 40, u 41, u 42, u 43, u 44, u 45, u 46, u 47, u 48, u 49, u 50, u 51, u 52, u 53, u 54, u 55, u 56, u 57, u 58, u 59, u 60, u 61, u 62, u 63, u 64, u 65, u 66, u 67, u 68, u 69, u 70, u 71, u 72, u 73, u 74, u 75, u 76, u 77, u 78, u 79, u 80, u 81, u 82, u 83, u 84, u 85, u 86, u 87, u 88, u 89, u 90, u 91, u 92, u 93, u 94, u 95], []⟩ w := by
  obtain ⟨ad, A0, c0, rfl, hcell, hc0, _⟩ := hC.get i hi
  clear hC
  obtain ⟨n, hn⟩ : ∃ n, (L.getD i []).length = n := ⟨_, rfl⟩
  rw [hn] at hcell hret hQ hb
  clear hn
  obtain ⟨m, hm⟩ : ∃ m, L.length = m := ⟨_, rfl⟩
  rw [hm] at hi hL hQ ⊢
  clear hm
  by_cases h : (n : Int) ≤ 100000 - T
  · have b4 : decide (100000 - T < (n : Int)) = false := decide_eq_false (by omega)
    have b0 : decide ((i : Int) < (m : Int)) = true := decide_eq_true (by omega)
    have b1 : (0 : Int) ≤ (i : Int) := by omega
    have b2 : (i : Int) < (m : Int) := by omega
    have HQ := Aside0.mk (hQ h)
    have b3 : wrap64 (100000 - T) = 100000 - T := by unfold wrap64; omega
    have b6 : wrap64 ((n : Int) + 5) = (n : Int) + 5 := by unfold wrap64; omega
    have b7 : wrap64 (T + ((n : Int) + 5)) = T + ((n : Int) + 5) := by clear b3 b6; unfold wrap64; omega
    have b5 : wrap64 ((i : Int) + 1) = (i : Int) + 1 := by clear b3 b6 b7; unfold wrap64; omega
    clear hret hQ
    conv => arg 2; whnf
    go_wp2
    exact HQ.out _ ⟨rfl, rfl⟩ rfl rfl rfl rfl rfl rfl rfl
  · have b4 : decide (100000 - T < (n : Int)) = true := decide_eq_true (by omega)
    have b0 : decide ((i : Int) < (m : Int)) = true := decide_eq_true (by omega)
    have b1 : (0 : Int) ≤ (i : Int) := by omega
    have b2 : (i : Int) < (m : Int) := by omega
    have HQ := Aside0.mk (hret h)
    have b3 : wrap64 (100000 - T) = 100000 - T := by unfold wrap64; omega
    clear hret hQ
    conv => arg 2; whnf
    go_wp2
    exact HQ.out _ ⟨rfl, rfl⟩ rfl
set_option maxHeartbeats 8000000 in
set_option maxRecDepth 100000 in
theorem exitP1 (u : Nat → Value) (n : Nat) (w : World) (Q : Exit → Act → World → Prop) (hQ : ∀ a', Fm 96 a' → sl a' 0 = u 0 → sl a' 1 = u 1 → sl a' 2 = u 2 → Q (.exit 0) a' w) :
    Code.wp Try.prog (bodyN Try.f6 0) Q ⟨#[u 0, u 1, u 2, u 3, u 4, u 5, u 6, u 7, u 8, u 9, u 10, u 11, u 12, u 13, u 14, u 15, u 16, u 17, u 18, u 19, u 20, u 21, u 22, u 23, .int .i64 (n : Int), .int .i64 (n : Int), u 26, u 27, u 28, u 29, u 30, u 31, u 32, u 33, u 34, u 35, u 36, u 37, u 38, u 39, u 40, u 41, u 42, u 43, u 44, u 45, u 46, u 47, u 48, u 49, u 50, u 51, u 52, u 53, u 54, u 55, u 56, u 57, u 58, u 59, u 60, u 61, u 62, u 63, u 64, u 65, u 66, u 67, u 68, u 69, u 70, u 71, u 72, u 73, u 74, u 75, u 76, u 77, u 78, u 79, u 80, u 81, u 82, u 83, u 84, u 85, u 86, u 87, u 88, u 89, u 90, u 91, u 92, u 93, u 94, u 95], []⟩ w := by
  have c0 : decide ((n : Int) < (n : Int)) = false := by simp
  have HQ := Aside0.mk hQ
  clear hQ
  conv => arg 2; whnf
  go_wp2
  exact HQ.out _ ⟨rfl, rfl⟩ rfl rfl rfl
theorem loopP1 (s0 s1 s2 : Value) (A : Option Addr) (c : Nat) (L : List (List Int)) (hL : L.length ≤ 9223372036854775807) (hbs : ∀ x ∈ L, x.length ≤ 140737488351232) (w : World) (hC : CC w A L)
    (Q : Exit → Act → World → Prop) (hret : ∀ a', Fm 96 a' → sl a' 6 = .bool true → Q .ret a' w)
    (hQ : tot L ≤ 100005 → ∀ a', Fm 96 a' → sl a' 0 = s0 → sl a' 1 = s1 → sl a' 2 = s2 → Q (.exit 0) a' w)
    (a : Act) (h : Fm 96 a ∧ sl a 0 = s0 ∧ sl a 1 = s1 ∧ sl a 2 = s2 ∧ sl a 7 = .int .i64 0 ∧ sl a 23 = .slice A L.length c ∧ sl a 24 = .int .i64 (L.length : Int) ∧ sl a 25 = .int .i64 0) : (Code.loop (bodyN Try.f6 0)).wp Try.prog Q a w := by
  refine wp_loop_up L.length (fun t a w' => w' = w ∧ Fm 96 a ∧ sl a 0 = s0 ∧ sl a 1 = s1 ∧ sl a 2 = s2 ∧ sl a 7 = .int .i64 (tot (L.take t) : Int) ∧ sl a 23 = .slice A L.length c ∧ sl a 24 = .int .i64 (L.length : Int) ∧ sl a 25 = .int .i64 (t : Int) ∧ tot (L.take t) ≤ 100005) ?_ ?_
  · obtain ⟨h0, h1, h2, h3, h4, h5, h6, h7⟩ := h
    exact ⟨rfl, h0, h1, h2, h3, h4, h5, h6, h7, by simp [tot]⟩
  rintro t a w' ht ⟨rfl, hF, h0, h1, h2, h7, h20, h21, h22, hT⟩
  have ha := fm96 hF
  by_cases h64 : t = L.length
  · subst h64
    rw [h21, h22] at ha
    rw [ha]
    rw [List.take_length] at hT
    exact exitP1 (sl a) _ w' _ fun a' b0 b1 b2 b3 => hQ hT _ b0 (b1.trans h0) (b2.trans h1) (b3.trans h2)
  · rw [h7, h20, h21, h22] at ha
    rw [ha]
    have hlt : t < L.length := by omega
    refine roundP1 (sl a) A c L t hlt hL _ ⟨by omega, by omega⟩ (hbs _ (by rw [List.getD_eq_getElem?_getD, List.getElem?_eq_getElem hlt]; exact List.getElem_mem hlt)) w' hC _ ?_ ?_
    · intro _ a' f0 f1
      exact hret a' f0 f1
    · intro hle a' f0 f1 f2 f3 f4 f5 f6 f7
      have e := tot_take L t hlt
      refine ⟨hlt, rfl, f0, f1.trans h0, f2.trans h1, f3.trans h2, ?_, f5, f6, by rw [f7]; congr 1, by omega⟩
      rw [f4, e]
      congr 1 <;> omega
end Go.Proofs.Ytkkgjbafncmohaa.Sha
