/-
  Bytes of constants; lists of byte lists, read and made in place.
-/
import Derived.Test.YtkkgjbafncmohaaRow
import Derived.Lib.SmallJoins
import Derived.Laws.BytesArg
set_option linter.unusedVariables false
set_option linter.unusedSimpArgs false
namespace Go.Proofs.Ytkkgjbafncmohaa.Sha
open Go.RowKit Go.Proofs.YtkkgjbafncmohaaW.PrintWords Go.Proofs.YtkkgjbafncmohaaW.PrintLast Go.Proofs.YtkkgjbafncmohaaW.PrintMore Go.Proofs.Ytkkgjbafncmohaa.Q Go.Proofs.Ytkkgjbafncmohaa.Fr Go.Proofs.Ytkkgjbafncmohaa.Oct

section
variable {P : Program} {ops : Array Oper} {rest : List Oper} {o o1 o2 : Oper} {a : Act} {Q : Exit → Act → World → Prop} {w : World}
/-- '[]byte("..")' of a constant: two operations. -/
theorem wpList_constb (hP : P = Try.prog) (xs : List Int) (g1 : Region.wanted o1 (yielded ops a.tmps) = true) (g2 : ∀ v, Region.wanted o2 (yielded ops (a.put o1.dst v).tmps) = true)
    (hrun : (execOp a.eval o1).run P w = .ok (.value (.slice (some ⟨w.heap.size, 0, none⟩) xs.length xs.length)) (w.alloc (.cells (encs (Value.int .u8) xs).toArray 5)))
    (x : Operand) (ho2 : o2.op = .convert 22 22 x) (hx : ∀ v, (a.put o1.dst v).eval x = v)
    (h : ∀ g v w1, Rd w1 (some ⟨g, 0, none⟩) xs → Below w.heap.size w w1 → w.heap.size ≤ g → g < w1.heap.size → wpList P ops Q rest ((a.put o1.dst v).put o2.dst (.slice (some ⟨g, 0, none⟩) xs.length xs.length)) w1) : wpList P ops Q (o1 :: o2 :: rest) a w := by
  subst hP
  refine gate_guard g1 (Kd.event_run (o := { o1 with guard := none }) rfl hrun (gate_guard (g2 _) ?_))
  have kc := Go.Joins.run_convert_bytes_const_at (P := Try.prog) w 22 5 (encs (Value.int .u8) xs).toArray xs.length xs.length w.heap.size rfl Try.underlying22 Try.underlying5
  refine Kd.event_run (o := { o2 with guard := none }) (w1 := w.alloc (.cells (encs (Value.int .u8) xs).toArray 5 ((encs (Value.int .u8) xs).toArray.size, (encs (Value.int .u8) xs).toArray.size + 1))) (v := .slice (some ⟨w.heap.size, 0, none⟩) xs.length xs.length) rfl ?_ (h w.heap.size _ _ (Rd.mark (heap_alloc_new _ _)) (below_alloc (Below.refl _ _) _) (Nat.le_refl _) (by rw [World.size_alloc]; omega))
  simp only [execOp, ho2, hx, Sem.run_bind, kc, Result.andThen_ok, Sem.run_pure]
end
/-- A list of byte lists that can be read. -/
abbrev CC (w : World) (A : Option Addr) (L : List (List Int)) : Prop := Kd.C (Kd.slice 5 (Kd.int .u8)) w A L.length L
theorem CC.get {w : World} {A : Option Addr} {L : List (List Int)} (h : CC w A L) (i : Nat) (hi : i < L.length) : ∃ ad A0 c0, A = some ad ∧ w.cell? (ad.add i) = some (.slice A0 (L.getD i []).length c0) ∧ (L.getD i []).length ≤ c0 ∧ Rd w A0 (L.getD i []) := by
  obtain ⟨ad, c, e, hs, ⟨A0, c0, rfl, hl, hr⟩, hc⟩ := ReadsRow.get_ h [] (i : Int) (by omega) (by omega)
  rw [Int.toNat_natCast] at hc hl hr
  refine ⟨ad, A0, c0, e, ?_, hl, Rd.of_C hr⟩
  have := hc 0 _ rfl
  rw [show i * (Kd.slice 5 (Kd.int .u8)).sz + 0 = i from by show i * 1 + 0 = i; omega] at this
  exact this
theorem CC.fr {w w' : World} {A : Option Addr} {L : List (List Int)} (h : CC w A L) (hf : Fr (fun _ => False) w w') : CC w' A L := Kd.C_below h (hf.below _ (Nat.le_refl _) (fun i h => h.elim))
/-- The cells of a list of byte lists. -/
def Vals (w : World) (us : List Value) (L : List (List Int)) : Prop := us.length = L.length ∧ ∀ (j : Nat) (l : List Int), L[j]? = some l → ∃ A0 c0, us[j]? = some (.slice A0 l.length c0) ∧ l.length ≤ c0 ∧ Rd w A0 l ∧ l.length ≤ 9223372036854775807
theorem Vals.nil (w : World) : Vals w [] [] := ⟨rfl, fun j l h => by simp at h⟩
theorem Vals.cons {w : World} {us : List Value} {L : List (List Int)} {A : Option Addr} {n c : Nat} {l : List Int} (hn : n = l.length) (hc : n ≤ c) (hm : n ≤ 9223372036854775807) (hr : Rd w A l) (h : Vals w us L) : Vals w (.slice A n c :: us) (l :: L) := by
  subst hn
  refine ⟨by rw [List.length_cons, List.length_cons, h.1], fun j x hx => ?_⟩
  cases j with
  | zero =>
    simp only [List.getElem?_cons_zero, Option.some.injEq] at hx
    subst hx
    exact ⟨A, c, rfl, hc, hr, hm⟩
  | succ j => exact h.2 j x hx
theorem Vals.append {w : World} {us vs : List Value} {L M : List (List Int)} (h : Vals w us L) (k : Vals w vs M) : Vals w (us ++ vs) (L ++ M) := by
  refine ⟨by rw [List.length_append, List.length_append, h.1, k.1], fun j x hx => ?_⟩
  rcases Nat.lt_or_ge j L.length with hj | hj
  · rw [List.getElem?_append_left hj] at hx
    obtain ⟨A, c, e, r⟩ := h.2 j x hx
    exact ⟨A, c, by rw [List.getElem?_append_left (by rw [h.1]; exact hj)]; exact e, r⟩
  · rw [List.getElem?_append_right hj] at hx
    obtain ⟨A, c, e, r⟩ := k.2 _ x hx
    exact ⟨A, c, by rw [List.getElem?_append_right (by rw [h.1]; exact hj), h.1]; exact e, r⟩
theorem Vals.fr {w w' : World} {us : List Value} {L : List (List Int)} (h : Vals w us L) (hf : Fr (fun _ => False) w w') : Vals w' us L := ⟨h.1, fun j l hl => by
  obtain ⟨A, c, e, hc, hr, hm⟩ := h.2 j l hl
  exact ⟨A, c, e, hc, hr.fr hf (fun _ _ h => h), hm⟩⟩
theorem Vals.one {w : World} {us : List Value} {L : List (List Int)} (h : Vals w us L) : ∀ u ∈ us, u.oneCell' = true := fun u hu => by
  obtain ⟨j, hj, rfl⟩ := List.mem_iff_getElem.1 hu
  obtain ⟨A, c, e, _⟩ := h.2 j (L[j]'(by rw [← h.1]; exact hj)) (List.getElem?_eq_getElem _)
  rw [List.getElem?_eq_getElem hj] at e
  injection e with e
  rw [e]
  rfl
/-- Cells that can be read hold a list of byte lists. -/
theorem Vals.CC {w : World} {us : List Value} {L : List (List Int)} {ad : Addr} (h : Vals w us L) (hl : L.length ≤ 9223372036854775807) (hc : ∀ (j : Nat) (u : Value), us[j]? = some u → w.cell? (ad.add j) = some u) : CC w (some ad) L := by
  refine ⟨rfl, hl, fun _ => ⟨ad, rfl, fun j p hp => ?_⟩⟩
  obtain ⟨A, c, e, hcap, hr, hpl⟩ := h.2 j p hp
  have hj : j < L.length := (List.getElem?_eq_some_iff.1 hp).1
  refine ⟨[.slice A p.length c], rfl, ⟨A, c, rfl, hcap, hr.C hpl⟩, fun i u hu => ?_⟩
  cases i with
  | zero =>
    simp only [List.getElem?_cons_zero, Option.some.injEq] at hu
    subst hu
    show w.cell? (ad.add (j * 1 + 0)) = _
    rw [Nat.mul_one, Nat.add_zero]
    exact hc j _ e
  | succ i => simp at hu
theorem CC.vals {w : World} {A : Option Addr} {L : List (List Int)} (h : CC w A L) : ∃ us, Vals w us L ∧ ∀ (j : Nat) (u : Value), us[j]? = some u → ∃ ad, A = some ad ∧ w.cell? (ad.add j) = some u := by
  by_cases h0 : L = []
  · subst h0
    exact ⟨[], Vals.nil w, fun j u h => by simp at h⟩
  obtain ⟨ad, e, hc⟩ := h.2.2 (List.length_pos_iff.2 h0)
  have hget : ∀ (j : Nat) (l : List Int), L[j]? = some l → ∃ A0 c0, w.cell? (ad.add j) = some (.slice A0 l.length c0) ∧ l.length ≤ c0 ∧ Rd w A0 l ∧ l.length ≤ 9223372036854775807 := fun j l hl => by
    obtain ⟨c, hs, ⟨A0, c0, rfl, hle, hr⟩, hcell⟩ := hc j l hl
    have := hcell 0 _ rfl
    rw [show j * (Kd.slice 5 (Kd.int .u8)).sz + 0 = j from by show j * 1 + 0 = j; omega] at this
    exact ⟨A0, c0, this, hle, Rd.of_C hr, hr.2.1⟩
  refine ⟨(List.range L.length).map (fun j => (w.cell? (ad.add j)).getD undef), ⟨by simp, fun j l hl => ?_⟩, fun j u hu => ⟨ad, e, ?_⟩⟩
  · obtain ⟨A0, c0, hcell, hle, hr⟩ := hget j l hl
    have hj : j < L.length := (List.getElem?_eq_some_iff.1 hl).1
    exact ⟨A0, c0, by simp [hj, hcell], hle, hr⟩
  · have hj : j < L.length := by simpa using (List.getElem?_eq_some_iff.1 hu).1
    obtain ⟨A0, c0, hcell, _⟩ := hget j (L[j]) (List.getElem?_eq_getElem hj)
    simp [hj, hcell] at hu
    rw [← hu]
    exact hcell
/-- A list of slices that was built in place. -/
theorem CC.blk {w : World} {g : Nat} {us : List Value} {L : List (List Int)} {t : TypeId} {fr : Nat × Nat} (h : Vals w us L) (hl : L.length ≤ 9223372036854775807) (hg : w.heap[g]? = some (.cells us.toArray t fr)) : CC w (some ⟨g, 0, none⟩) L :=
  Vals.CC h hl fun j u hu => by
    rw [add_at, Nat.zero_add]
    simp [World.cell?, hg, hu]

theorem own_CC {w : World} {base : Nat} {v : Value} {us : List Value} {L : List (List Int)} (hV : Vals w us L) (h : w.ownsRow base 22 1 v us.length us) (hl : L.length ≤ 9223372036854775807) : ∃ A c, v = .slice A L.length c ∧ L.length ≤ c ∧ CC w A L := by
  have hq := q_of_own h
  obtain ⟨A, c, rfl, hc⟩ := q_slice hq
  rw [hV.1] at hc
  refine ⟨A, c, by rw [hV.1], hc, ?_⟩
  by_cases h0 : L = []
  · subst h0
    exact ⟨rfl, by simp, fun h => by simp at h⟩
  · obtain ⟨ad, rfl, hcell⟩ := q_cells hq (by rw [hV.1]; exact List.length_pos_iff.2 h0)
    exact hV.CC hl hcell
theorem Rd.take {w : World} {A : Option Addr} {ys : List Int} (h : Rd w A ys) (m : Nat) : Rd w A (ys.take m) := fun j u hu => h j u (by
  simp only [encs, List.getElem?_map, List.getElem?_take] at hu ⊢
  split at hu
  · exact hu
  · simp at hu)
theorem take_flat (L : List (List Int)) (t : Nat) (h : t < L.length) : (L.take (t + 1)).flatten = (L.take t).flatten ++ L.getD t [] := by
  rw [List.take_succ_eq_append_getElem h, List.flatten_append]
  simp [List.getD_eq_getElem?_getD, List.getElem?_eq_getElem h]
end Go.Proofs.Ytkkgjbafncmohaa.Sha
