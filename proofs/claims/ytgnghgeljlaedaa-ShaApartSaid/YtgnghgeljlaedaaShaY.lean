/-
  Sum of bytes: New, Write, Sum; whatever the pieces, the hash is that of all bytes.
-/
import Derived.Test.YtgnghgeljlaedaaShaX
set_option linter.unusedVariables false
set_option linter.unusedSimpArgs false
namespace Go.Proofs.Ytgnghgeljlaedaa.Sha
open Go.RowKit Go.Proofs.YtgnghgeljlaedaaW.PrintWords Go.Proofs.YtgnghgeljlaedaaW.PrintLast Go.Proofs.YtgnghgeljlaedaaW.PrintMore Go.Proofs.Ytgnghgeljlaedaa.Q Go.Proofs.Ytgnghgeljlaedaa.Fr Go.Proofs.Ytgnghgeljlaedaa.Oct

theorem run_app (q : Nat) : ∀ (S b p : List Int), 64 * q ≤ b.length → run q S (b ++ p) = run q S b := by
  induction q with
  | zero => intros; rfl
  | succ q ih =>
    intro S b p h
    rw [run, run, List.take_append_of_le_length (by omega), List.drop_append_of_le_length (by omega)]
    exact ih _ _ _ (by rw [List.length_drop]; omega)
theorem run_add (a b : Nat) : ∀ (S m : List Int), run (a + b) S m = run b (run a S m) (m.drop (64 * a)) := by
  induction a with
  | zero => intro S m; rw [Nat.zero_add, Nat.mul_zero, List.drop_zero]; rfl
  | succ a ih =>
    intro S m
    rw [show a + 1 + b = (a + b) + 1 by omega, run, ih, run, List.drop_drop, show 64 + 64 * a = 64 * (a + 1) by omega]
/-- What a hash holds to which b was fed. -/
def held (b : List Int) : List Int × List Int × Int := (run (b.length / 64) S0 b, b.drop (64 * (b.length / 64)), (b.length : Int))
theorem run_held (b p : List Int) : run ((b.drop (64 * (b.length / 64)) ++ p).length / 64) (run (b.length / 64) S0 b) (b.drop (64 * (b.length / 64)) ++ p) = run ((b ++ p).length / 64) S0 (b ++ p) := by
  have h1 : (b ++ p).length / 64 = b.length / 64 + (b.drop (64 * (b.length / 64)) ++ p).length / 64 := by
    rw [List.length_append, List.length_append, List.length_drop]; omega
  rw [h1, run_add, run_app _ S0 b p (by omega), List.drop_append_of_le_length (by omega)]
theorem feed_held (b p : List Int) (h : (b ++ p).length < 18446744073709551616) : feed (held b) p = held (b ++ p) := by
  have hl : (b.drop (64 * (b.length / 64)) ++ p).length = b.length - 64 * (b.length / 64) + p.length := by rw [List.length_append, List.length_drop]
  simp only [feed, held]
  rw [run_held]
  refine Prod.ext rfl (Prod.ext ?_ ?_)
  · show (b.drop _ ++ p).drop (64 * ((b.drop (64 * (b.length / 64)) ++ p).length / 64)) = (b ++ p).drop (64 * ((b ++ p).length / 64))
    rw [← List.drop_append_of_le_length (by omega : 64 * (b.length / 64) ≤ b.length), List.drop_drop]
    congr 1
    rw [List.drop_append_of_le_length (by omega), hl, List.length_append]
    omega
  · show IntKind.u64.wrap ((b.length : Int) + (p.length : Int)) = (((b ++ p).length : Nat) : Int)
    rw [List.length_append] at h ⊢
    rw [IntKind.wrap_u64]
    omega
theorem feeds_held (PS : List (List Int)) : ∀ (b : List Int), (b ++ PS.flatten).length < 18446744073709551616 → PS.foldl feed (held b) = held (b ++ PS.flatten) := by
  induction PS with
  | nil => intro b h; rw [List.flatten_nil, List.append_nil]; rfl
  | cons p PS ih =>
    intro b h
    rw [List.flatten_cons, ← List.append_assoc] at h ⊢
    rw [List.foldl_cons, feed_held b p (by rw [List.length_append] at h; omega), ih _ h]
theorem fin_held (b : List Int) : fin (held b).1 (held b).2.1 (held b).2.2 = sha b := by
  have hz : zpad (b.drop (64 * (b.length / 64))).length = zpad b.length := by rw [List.length_drop]; simp only [zpad]; omega
  simp only [fin, held, sha, padded, tailB]
  rw [hz]
  congr 1
  exact run_held b _

theorem held_nil : held [] = (S0, [], 0) := rfl

/-- One list of bytes in a slice of its own. -/
theorem parts_one {w : World} {g : Nat} {A : Option Addr} {c : Nat} {l : List Int} {t : TypeId} {S : Nat → Prop} (hg : w.heap[g]? = some (.cells #[.slice A l.length c] t (0, 0))) (hc : l.length ≤ c) (hr : Rd w A l) (hgS : ¬ S g) (hA : ∀ ad, A = some ad → l ≠ [] → ¬ S ad.block) : Parts w (some ⟨g, 0, none⟩) [l] S := fun i p hp => by
  have hi : i = 0 := by
    have := (List.getElem?_eq_some_iff.1 hp).1
    simpa using this
  subst hi
  obtain rfl : l = p := by simpa using hp
  refine ⟨_, A, c, rfl, ?_, hc, hgS, fun j u hu => ?_⟩
  · rw [add_at, cell_of_row w g _ _ t (0, 0) hg]; rfl
  · obtain ⟨ad, e, h⟩ := hr j u hu
    exact ⟨ad, e, hA ad e (by intro e2; rw [e2] at hu; simp [encs] at hu), h⟩

set_option maxHeartbeats 8000000 in
set_option maxRecDepth 100000 in
theorem ssum_calls (A : Option Addr) (c : Nat) (l : List Int) (w : World) (hr : Rd w A l) (hc : l.length ≤ c) (hl : l.length < 140737488355000) :
    Calls Try.prog 14 #[.slice A l.length c] w fun e w' => ∃ v : Value, e = .returned v ∧ OB w' w.heap.size v (sha l) ∧ Below w.heap.size w w' := by
  have HH := Aside0.mk (And.intro hr hc)
  clear hr hc
  go_enter Try.func14, Try.ntmps14
  go_wp2_with (fail)
  refine (New_calls w).mono ?_
  rintro e w1 ⟨g, rfl, hg, hH, hb1⟩
  have lt1 : g < w1.heap.size := blk_lt hH.heap
  have HN := Aside0.mk (And.intro hH hb1)
  clear hH hb1
  go_wp2_with (fail)
  have hal : Fr (fun _ => False) w1 (w1.alloc (.cells #[Value.slice A l.length c] 23)) := (Fr.refl _ _).alloc _
  have hg2 := heap_alloc_new w1 (.cells #[Value.slice A l.length c] 23)
  have hH2 : HashAt (w1.alloc (.cells #[Value.slice A l.length c] 23)) g w.heap.size (.slice none 0 0) S0 [] 0 := ⟨hal.blk HN.out.1.heap (fun h => h), rfl, QB.nil _ _, by simp [Value.ownBlock]⟩
  have F2 : Fr (fun _ => False) w (w1.alloc (.cells #[Value.slice A l.length c] 23)) := (Fr.of_below HN.out.2 _).trans hal (fun i h => h.elim)
  have hr2 : Rd (w1.alloc (.cells #[Value.slice A l.length c] 23)) A l := HH.out.1.fr F2 (fun ad e h => h)
  have lt2 : (w1.alloc (.cells #[Value.slice A l.length c] 23)).heap.size = w1.heap.size + 1 := by rw [World.size_alloc]
  have hp2 : Parts (w1.alloc (.cells #[Value.slice A l.length c] 23)) (some ⟨w1.heap.size, 0, none⟩) [l] (fun k => k = g ∨ some k = (Value.slice none 0 0).ownBlock) := by
    refine parts_one hg2 HH.out.2 hr2 (fun h => ?_) (fun ad e hne h => ?_)
    · rcases h with h | h
      · omega
      · simp [Value.ownBlock] at h
    · rcases h with h | h
      · obtain ⟨x, r', hr'⟩ := List.exists_cons_of_ne_nil hne
        obtain ⟨ad', e', hc'⟩ := HH.out.1 0 (.int .u8 x) (by rw [hr']; rfl)
        rw [e] at e'
        cases e'
        have := World.block_lt_of_cell? w _ hc'
        rw [addr_block] at this
        omega
      · simp [Value.ownBlock] at h
  generalize w1.alloc (.cells #[Value.slice A l.length c] 23) = w2 at *
  refine (Write_calls g w.heap.size (.slice none 0 0) S0 [] 0 (some ⟨w1.heap.size, 0, none⟩) 1 [l] (by simp) (fun p hp => by have : p = l := (by simpa using hp); rw [this]; omega) w2 hH2 (by simp) (by omega) hp2).mono ?_
  rintro e w3 ⟨rfl, hf3, _, rv', _, hH3⟩
  have ef : [l].foldl feed (S0, [], 0) = held l := by
    have := feeds_held [l] [] (by simp; omega)
    rw [held_nil] at this
    rw [this]; simp
  rw [ef] at hH3
  have F3 : Fr (fun _ => False) w w3 := F2.trans hf3 (fun i h => by
    rcases h with h | h
    · exact .inr (by omega)
    · simp [Value.ownBlock] at h)
  have lt3 := F3.size
  have HK := Aside0.mk (And.intro hH3 F3)
  clear hal hg2 hH2 F2 hr2 hp2 HN hf3 hH3 F3
  go_wp2_with (fail)
  refine (HSum_calls g w.heap.size rv' (held l).1 (held l).2.1 (held l).2.2 (by simp only [held]; omega) (by simp only [held]; omega) (by simp only [held, List.length_drop]; omega) w3 HK.out.1).mono ?_
  rintro e w4 ⟨v, rfl, hq4, hb4⟩
  rw [fin_held] at hq4
  have HR := Aside0.mk (And.intro (OB.lower hq4 lt3) (HK.out.2.trans (Fr.of_below hb4 (fun _ => False)) (fun i h => h.elim)))
  clear hq4 hb4 HK
  go_wp2
  go_ret
  exact ⟨_, rfl, HR.out.1, HR.out.2.below _ (Nat.le_refl _) (fun i h => h.elim)⟩
end Go.Proofs.Ytgnghgeljlaedaa.Sha
