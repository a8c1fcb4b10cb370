/-
  Keys: Text, Sign, Verify.
-/
import Derived.Test.YtnabilhcmplhcaaSd1
import Derived.Test.YtnabilhcmplhcaaOctD
import Derived.Lib.SmallJoins
import Derived.Laws.IdiomStrings
import Derived.Test.YtnabilhcmplhcaaQx4
import Derived.Test.YtnabilhcmplhcaaQx5
import Derived.Test.YtnabilhcmplhcaaQx7
import Derived.Test.YtnabilhcmplhcaaQx4
set_option linter.unusedVariables false
set_option linter.unusedSimpArgs false
namespace Go.Proofs.Ytnabilhcmplhcaa.Sha
open Go.RowKit Go.Proofs.YtnabilhcmplhcaaW.PrintWords Go.Proofs.YtnabilhcmplhcaaW.PrintLast Go.Proofs.YtnabilhcmplhcaaW.PrintMore Go.Proofs.Ytnabilhcmplhcaa.Q Go.Proofs.Ytnabilhcmplhcaa.Fr Go.Proofs.Ytnabilhcmplhcaa.Oct

theorem infoB : (Try.prog.info? 5).map (fun i => (i.zero, i.size, i.bytes)) = some (some (.int .u8 0), 1, 1) := by kernel_rfl
/-- A string's bytes. -/
def strI (s : ByteArray) : List Int := s.data.toList.map (fun x => (x.toNat : Int))
theorem strI_len (s : ByteArray) : (strI s).length = s.size := by simp [strI]
theorem strI_bys (s : ByteArray) : Bys (strI s) := fun x hx => by
  obtain ⟨y, _, rfl⟩ := List.mem_map.1 hx
  have := y.toNat_lt
  exact ⟨by omega, by omega⟩
theorem strI_inj {s t : ByteArray} (h : strI s = strI t) : s = t := by
  have h2 : s.data.toList = t.data.toList := (List.map_inj_right (fun a b e => by
    have : a.toNat = b.toNat := by omega
    exact UInt8.toNat_inj.1 this)).1 h
  cases s; cases t
  simp only [Array.toList_inj] at h2
  rw [h2]
section
variable {P : Program} {ops : Array Oper} {rest : List Oper} {o o1 o2 : Oper} {a : Act} {Q : Exit → Act → World → Prop} {w : World}
theorem wpList_move (hgd : o.guard = none) (x : Operand) (ho : o.op = .move x) (v : Value) (hx : a.eval x = v) (h : wpList P ops Q rest (a.put o.dst v) w) : wpList P ops Q (o :: rest) a w := by
  refine wpList_plain hgd fun K hK => ?_
  unfold Oper.wp
  simp [execOp, ho, hx]
  exact hK _ _ h
/-- '[]byte("..")' of a constant: two operations. -/
theorem wpList_constb (hP : P = Try.prog) (xs : List Int) (g1 : Region.wanted o1 (yielded ops a.tmps) = true) (g2 : ∀ v, Region.wanted o2 (yielded ops (a.put o1.dst v).tmps) = true)
    (hrun : (execOp a.eval o1).run P w = .ok (.value (.slice (some ⟨w.heap.size, 0, none⟩) xs.length xs.length)) (w.alloc (.cells (encs (Value.int .u8) xs).toArray 5)))
    (x : Operand) (ho2 : o2.op = .convert 29 29 x) (hx : ∀ v, (a.put o1.dst v).eval x = v)
    (h : ∀ g v w1, Rd w1 (some ⟨g, 0, none⟩) xs → Below w.heap.size w w1 → w.heap.size ≤ g → g < w1.heap.size → wpList P ops Q rest ((a.put o1.dst v).put o2.dst (.slice (some ⟨g, 0, none⟩) xs.length xs.length)) w1) : wpList P ops Q (o1 :: o2 :: rest) a w := by
  subst hP
  refine gate_guard g1 (Kd.event_run (o := { o1 with guard := none }) rfl hrun (gate_guard (g2 _) ?_))
  have kc := Go.Joins.run_convert_bytes_const_at (P := Try.prog) w 29 5 (encs (Value.int .u8) xs).toArray xs.length xs.length w.heap.size rfl Try.underlying29 Try.underlying5
  refine Kd.event_run (o := { o2 with guard := none }) (w1 := w.alloc (.cells (encs (Value.int .u8) xs).toArray 5 ((encs (Value.int .u8) xs).toArray.size, (encs (Value.int .u8) xs).toArray.size + 1))) (v := .slice (some ⟨w.heap.size, 0, none⟩) xs.length xs.length) rfl ?_ (h w.heap.size _ _ (Rd.mark (heap_alloc_new _ _)) (below_alloc (Below.refl _ _) _) (Nat.le_refl _) (by rw [World.size_alloc]; omega))
  simp only [execOp, ho2, hx, Sem.run_bind, kc, Result.andThen_ok, Sem.run_pure]
/-- '[]byte(s)' of a string. -/
theorem wpList_strb (hP : P = Try.prog) (g1 : Region.wanted o (yielded ops a.tmps) = true) (s : ByteArray) (x : Operand) (ho : o.op = .convert 9 29 x) (hx : a.eval x = .string s)
    (h : ∀ g c w1, Rd w1 (some ⟨g, 0, none⟩) (strI s) → s.size ≤ c → Below w.heap.size w w1 → w.heap.size ≤ g → g < w1.heap.size → wpList P ops Q rest (a.put o.dst (.slice (some ⟨g, 0, none⟩) s.size c)) w1) : wpList P ops Q (o :: rest) a w := by
  subst hP
  have kr := run_bytes_of_string (P := Try.prog) w 9 29 5 s Try.underlying9 Try.underlying29 Try.underlying5
  refine gate_guard g1 (Kd.event_run (o := { o with guard := none }) (w1 := w.drew.alloc (.cells (bytesRow s (grownCap w s.size 0 5)) 5 ((bytesRow s (grownCap w s.size 0 5)).size, (bytesRow s (grownCap w s.size 0 5)).size + 1))) (v := .slice (some ⟨w.heap.size, 0, none⟩) s.size (grownCap w s.size 0 5)) rfl (by simp only [execOp, ho, hx, Sem.run_bind, kr, Result.andThen_ok, Sem.run_pure]) (h w.heap.size _ _ (fun j u hu => ⟨_, rfl, ?_⟩) (grownCap_ge w _ _ _) (below_alloc (below_drew (Below.refl _ _)) _) (Nat.le_refl _) (by rw [World.size_alloc]; show w.heap.size < w.heap.size + 1; omega)))
  have hj : j < s.size := by rw [← strI_len]; simpa [encs] using (List.getElem?_eq_some_iff.1 hu).1
  rw [add_at, Nat.zero_add]
  have hb : (w.drew.alloc (.cells (bytesRow s (grownCap w s.size 0 5)) 5 ((bytesRow s (grownCap w s.size 0 5)).size, (bytesRow s (grownCap w s.size 0 5)).size + 1))).heap[w.heap.size]? = some (.cells (bytesRow s (grownCap w s.size 0 5)) 5 ((bytesRow s (grownCap w s.size 0 5)).size, (bytesRow s (grownCap w s.size 0 5)).size + 1)) := heap_alloc_new w.drew _
  simp only [World.cell?, hb]
  rw [← hu]
  have hj2 : j < s.data.size := hj
  simp [bytesRow, strI, encs, Array.getElem?_append, hj2]
  rw [if_pos hj]
  rfl
end
/-- A list of byte lists that can be read. -/
abbrev CC (w : World) (A : Option Addr) (L : List (List Int)) : Prop := Kd.C (Kd.slice 5 (Kd.int .u8)) w A L.length L
theorem CC.fr {w w' : World} {A : Option Addr} {L : List (List Int)} (h : CC w A L) (hf : Fr (fun _ => False) w w') : CC w' A L := Kd.C_below h (hf.below _ (Nat.le_refl _) (fun i h => h.elim))
/-- The cells of a list of byte lists. -/
def Vals (w : World) (us : List Value) (L : List (List Int)) : Prop := us.length = L.length ∧ ∀ (j : Nat) (l : List Int), L[j]? = some l → ∃ A0 c0, us[j]? = some (.slice A0 l.length c0) ∧ l.length ≤ c0 ∧ Rd w A0 l ∧ l.length ≤ 9223372036854775807
theorem Vals.nil (w : World) : Vals w [] [] := ⟨rfl, fun j l h => by simp at h⟩
theorem Vals.cons {w : World} {us : List Value} {L : List (List Int)} {A : Option Addr} {n c : Nat} {l : List Int} (hn : n = l.length) (hc : n ≤ c) (hm : n ≤ 9223372036854775807) (hr : Rd w A l) (h : Vals w us L) : Vals w (.slice A n c :: us) (l :: L) := by
  subst hn
  refine ⟨by rw [List.length_cons, List.length_cons, h.1], fun j x hx => ?_⟩
  cases j with
  | zero =>
    simp only [List.getElem?_cons_zero, Option.some.injEq] at hx
    subst hx
    exact ⟨A, c, rfl, hc, hr, hm⟩
  | succ j => exact h.2 j x hx
theorem Vals.append {w : World} {us vs : List Value} {L M : List (List Int)} (h : Vals w us L) (k : Vals w vs M) : Vals w (us ++ vs) (L ++ M) := by
  refine ⟨by rw [List.length_append, List.length_append, h.1, k.1], fun j x hx => ?_⟩
  rcases Nat.lt_or_ge j L.length with hj | hj
  · rw [List.getElem?_append_left hj] at hx
    obtain ⟨A, c, e, r⟩ := h.2 j x hx
    exact ⟨A, c, by rw [List.getElem?_append_left (by rw [h.1]; exact hj)]; exact e, r⟩
  · rw [List.getElem?_append_right hj] at hx
    obtain ⟨A, c, e, r⟩ := k.2 _ x hx
    exact ⟨A, c, by rw [List.getElem?_append_right (by rw [h.1]; exact hj), h.1]; exact e, r⟩
theorem Vals.fr {w w' : World} {us : List Value} {L : List (List Int)} (h : Vals w us L) (hf : Fr (fun _ => False) w w') : Vals w' us L := ⟨h.1, fun j l hl => by
  obtain ⟨A, c, e, hc, hr, hm⟩ := h.2 j l hl
  exact ⟨A, c, e, hc, hr.fr hf (fun _ _ h => h), hm⟩⟩
theorem Vals.one {w : World} {us : List Value} {L : List (List Int)} (h : Vals w us L) : ∀ u ∈ us, u.oneCell' = true := fun u hu => by
  obtain ⟨j, hj, rfl⟩ := List.mem_iff_getElem.1 hu
  obtain ⟨A, c, e, _⟩ := h.2 j (L[j]'(by rw [← h.1]; exact hj)) (List.getElem?_eq_getElem _)
  rw [List.getElem?_eq_getElem hj] at e
  injection e with e
  rw [e]
  rfl
/-- Cells that can be read hold a list of byte lists. -/
theorem Vals.CC {w : World} {us : List Value} {L : List (List Int)} {ad : Addr} (h : Vals w us L) (hl : L.length ≤ 9223372036854775807) (hc : ∀ (j : Nat) (u : Value), us[j]? = some u → w.cell? (ad.add j) = some u) : CC w (some ad) L := by
  refine ⟨rfl, hl, fun _ => ⟨ad, rfl, fun j p hp => ?_⟩⟩
  obtain ⟨A, c, e, hcap, hr, hpl⟩ := h.2 j p hp
  have hj : j < L.length := (List.getElem?_eq_some_iff.1 hp).1
  refine ⟨[.slice A p.length c], rfl, ⟨A, c, rfl, hcap, hr.C hpl⟩, fun i u hu => ?_⟩
  cases i with
  | zero =>
    simp only [List.getElem?_cons_zero, Option.some.injEq] at hu
    subst hu
    show w.cell? (ad.add (j * 1 + 0)) = _
    rw [Nat.mul_one, Nat.add_zero]
    exact hc j _ e
  | succ i => simp at hu
theorem CC.vals {w : World} {A : Option Addr} {L : List (List Int)} (h : CC w A L) : ∃ us, Vals w us L ∧ ∀ (j : Nat) (u : Value), us[j]? = some u → ∃ ad, A = some ad ∧ w.cell? (ad.add j) = some u := by
  by_cases h0 : L = []
  · subst h0
    exact ⟨[], Vals.nil w, fun j u h => by simp at h⟩
  obtain ⟨ad, e, hc⟩ := h.2.2 (List.length_pos_iff.2 h0)
  have hget : ∀ (j : Nat) (l : List Int), L[j]? = some l → ∃ A0 c0, w.cell? (ad.add j) = some (.slice A0 l.length c0) ∧ l.length ≤ c0 ∧ Rd w A0 l ∧ l.length ≤ 9223372036854775807 := fun j l hl => by
    obtain ⟨c, hs, ⟨A0, c0, rfl, hle, hr⟩, hcell⟩ := hc j l hl
    have := hcell 0 _ rfl
    rw [show j * (Kd.slice 5 (Kd.int .u8)).sz + 0 = j from by show j * 1 + 0 = j; omega] at this
    exact ⟨A0, c0, this, hle, Rd.of_C hr, hr.2.1⟩
  refine ⟨(List.range L.length).map (fun j => (w.cell? (ad.add j)).getD undef), ⟨by simp, fun j l hl => ?_⟩, fun j u hu => ⟨ad, e, ?_⟩⟩
  · obtain ⟨A0, c0, hcell, hle, hr⟩ := hget j l hl
    have hj : j < L.length := (List.getElem?_eq_some_iff.1 hl).1
    exact ⟨A0, c0, by simp [hj, hcell], hle, hr⟩
  · have hj : j < L.length := by simpa using (List.getElem?_eq_some_iff.1 hu).1
    obtain ⟨A0, c0, hcell, _⟩ := hget j (L[j]) (List.getElem?_eq_getElem hj)
    simp [hj, hcell] at hu
    rw [← hu]
    exact hcell
section
variable {P : Program} {ops : Array Oper} {rest : List Oper} {o o1 o2 : Oper} {a : Act} {Q : Exit → Act → World → Prop} {w : World}
theorem infoL : (Try.prog.info? 29).map (fun i => (i.zero, i.size, i.bytes)) = some (some (.slice none 0 0), 1, 24) := by kernel_rfl
/-- append(v, ys...) of lists of byte lists. -/
theorem wpList_apps (hP : P = Try.prog) (hgd : o.guard = none) (base : Nat) (s x : Operand) (ho : o.op = .call { callee := .builtin .append, args := #[s, x], argTypes := #[86, 86] })
    (v : Value) (us : List Value) (hs : a.eval s = v) (hq : w.ownsRow base 29 1 v us.length us) (A : Option Addr) (m c : Nat) (vs : List Value) (hx : a.eval x = .slice A m c) (hm : m = vs.length) (hy : ∀ (j : Nat) (u : Value), vs[j]? = some u → ∃ ad, A = some ad ∧ w.cell? (ad.add j) = some u) (h1 : ∀ u ∈ vs, u.oneCell' = true) (hl : us.length + vs.length ≤ 5864062014805) (hb : base ≤ w.heap.size)
    (h : ∀ v1 w1, w1.ownsRow base 29 1 v1 (us ++ vs).length (us ++ vs) → Fr (fun k => some k = v.ownBlock) w w1 → wpList P ops Q rest (a.put o.dst v1) w1) : wpList P ops Q (o :: rest) a w := by
  subst hP hm
  obtain ⟨i0, hi0, h0, h2, h3⟩ := info_parts infoL
  by_cases hne : vs = []
  · subst hne
    obtain ⟨A', c', rfl, hc'⟩ := q_slice (q_of_own hq)
    have hr : (Builtin.append_ #[86, 86] o.type #[.slice A' us.length c', .slice A ([] : List Value).length c]).run Try.prog w = .ok (.slice A' us.length c') w := by
      cases A <;> cases A' <;> simp [Builtin.append_, run_underlying Try.underlying86, sizeOf, typeInfo, hi0, Builtin.lenOf, Builtin.firstCells, hc', storeCells, loadCells, loadCellsFrom, Result.andThen]
    refine wpList_plain hgd fun K hK => ?_
    unfold Oper.wp execOp
    simp only [ho, resolve, invoke, builtin, Sem.run_bind, Sem.run_pure, Result.andThen_ok, List.map_toArray, List.map_cons, List.map_nil, hs, hx, hr]
    exact hK _ _ (h _ w (by rw [List.append_nil]; exact hq) (Fr.refl _ _))
  · obtain ⟨y, ys', rfl⟩ := List.exists_cons_of_ne_nil hne
    obtain ⟨ad, hA, _⟩ := hy 0 y rfl
    subst hA
    obtain ⟨v1, w1, hr, hq1, hg, _, hat⟩ := run_append_own_at (P := Try.prog) w base 86 o.type 29 i0 (.slice none 0 0) 1 24 Try.underlying86 hi0 h0 h2 h3 rfl (by decide) v us.length _ hq ad (y :: ys').length c (y :: ys') (by rw [Nat.mul_one])
      (fun j u hu => by obtain ⟨ad', e, h⟩ := hy j u hu; cases e; exact h) h1 (by simp only [maxLen]; omega) (by omega) hb
    have hq2 : w1.ownsRow base 29 1 v1 (us ++ y :: ys').length (us ++ y :: ys') := by
      rw [List.length_append]
      exact hq1
    refine wpList_plain hgd fun K hK => ?_
    unfold Oper.wp execOp
    simp only [ho, resolve, invoke, builtin, Sem.run_bind, Sem.run_pure, Result.andThen_ok, List.map_toArray, List.map_cons, List.map_nil, hs, hx, hr]
    exact hK _ _ (h v1 w1 hq2 (Fr.of_grown hg))
end
/-- A list of slices that was built in place. -/
theorem CC.blk {w : World} {g : Nat} {us : List Value} {L : List (List Int)} {t : TypeId} {fr : Nat × Nat} (h : Vals w us L) (hl : L.length ≤ 9223372036854775807) (hg : w.heap[g]? = some (.cells us.toArray t fr)) : CC w (some ⟨g, 0, none⟩) L :=
  Vals.CC h hl fun j u hu => by
    rw [add_at, Nat.zero_add]
    simp [World.cell?, hg, hu]

def sgnB : List Int := [115, 105, 103, 110]
def digB : List Int := [100, 105, 103, 101, 115, 116]
/-- What a key signs. -/
def txtA (k : Int) (dom : ByteArray) (l : List (List Int)) : List Int := if 0 ≤ k ∧ k ≤ 127 then packA (sgnB :: (intA k).1 :: strI dom :: l) else []
/-- The digest. -/
def digA (dom : ByteArray) (l : List (List Int)) : List Int := sha (packA (digB :: strI dom :: l))

set_option maxHeartbeats 8000000 in
set_option maxRecDepth 100000 in
theorem text_calls (k : Int) (dom : ByteArray) (A : Option Addr) (c : Nat) (l : List (List Int)) (w : World) (hC : CC w A l) (hc : l.length ≤ c) (hs : szL l + dom.size ≤ 2097000) :
    Calls Try.prog 60 #[.int .i64 k, .string dom, .slice A l.length c] w fun e w' => ∃ v : Value, e = .returned v ∧ OB w' w.heap.size v (txtA k dom l) ∧ Below w.heap.size w w' := by
  have HC := Aside0.mk (And.intro hC (And.intro hc hs))
  clear hC hc hs
  by_cases hk : 0 ≤ k ∧ k ≤ 127
  · rw [txtA, if_pos hk]
    have hr : key_right.f k = some true := by unfold key_right.f; rw [if_pos hk.1, decide_eq_true hk.2]
    have HK := Aside0.mk (And.intro hr hk)
    clear hr hk
    go_enter Try.func60, Try.ntmps60
    go_wp2_with (fail)
    refine (key_right.calls k true w HK.out.1).mono ?_
    rintro e w1 ⟨rfl, hd1⟩
    have H1 := Aside0.mk hd1.below
    clear hd1
    go_wp2_with (fail)
    refine (octet_Int.calls 8 k (intA k).1 (intA k).2 w1 (int_f k 8 (Nat.le_refl _))).mono ?_
    rintro e w2 ⟨v2, rfl, hR2, hb2⟩
    have hO2 : OB w2 w1.heap.size v2 (intA k).1 := Kd.own_of_R hR2
    obtain ⟨A2, c2, rfl, hc2⟩ := hO2.slice
    have F2 := (Fr.of_below H1.out (fun _ => False)).trans (Fr.of_below hb2 (fun _ => False)) (fun _ h => h.elim)
    have hl2 := intA_len k
    obtain ⟨n2, hn2⟩ : ∃ n2, (intA k).1.length = n2 := ⟨_, rfl⟩
    rw [hn2] at hO2 hc2 hl2 ⊢
    have H2 := Aside0.mk (And.intro F2 (And.intro (QB.rd (q_of_own hO2)) hn2))
    clear H1 hR2 hb2 hO2 F2 hn2
    go_wp2_with (first | ((with_reducible refine gate_dst (N := 17) rfl ?_); refine wpList_constb rfl sgnB (by rfl) (fun _ => by rfl) (by first | (go_simp; done) | (go_simp; rfl) | (go_simp; exact ⟨rfl, rfl⟩)) _ (by rfl) (fun _ => rfl) ?_; intro g3 v3 w3 hr3 hb3 hg3 hg3') | ((with_reducible refine gate_dst (N := 21) rfl ?_); refine wpList_strb rfl (by rfl) dom _ (by rfl) (by rfl) ?_; intro g4 c4 w4 hr4 hc4 hb4 hg4 hg4'))
    have f3 := Fr.of_below hb3 (fun _ => False)
    have f4 := Fr.of_below hb4 (fun _ => False)
    have hg5 := heap_alloc_new w4 (.cells #[.slice (some ⟨g3, 0, none⟩) sgnB.length sgnB.length, .slice A2 n2 c2, .slice (some ⟨g4, 0, none⟩) dom.size c4] 29)
    have hb5 := below_alloc (Below.refl w4.heap.size w4) (.cells #[.slice (some ⟨g3, 0, none⟩) sgnB.length sgnB.length, .slice A2 n2 c2, .slice (some ⟨g4, 0, none⟩) dom.size c4] 29)
    generalize w4.alloc (.cells #[.slice (some ⟨g3, 0, none⟩) sgnB.length sgnB.length, .slice A2 n2 c2, .slice (some ⟨g4, 0, none⟩) dom.size c4] 29) = w5 at *
    have f5 := Fr.of_below hb5 (fun _ => False)
    have f25 := ((f3.trans f4 (fun _ h => h.elim)).trans f5 (fun _ h => h.elim))
    have hV : Vals w5 [.slice (some ⟨g3, 0, none⟩) sgnB.length sgnB.length, .slice A2 n2 c2, .slice (some ⟨g4, 0, none⟩) dom.size c4] [sgnB, (intA k).1, strI dom] :=
      Vals.cons rfl (Nat.le_refl _) (by decide) (hr3.fr (f4.trans f5 (fun _ h => h.elim)) (fun _ _ h => h)) (Vals.cons H2.out.2.2.symm hc2 (by omega) (H2.out.2.1.fr f25 (fun _ _ h => h)) (Vals.cons (strI_len dom).symm hc4 (by have := HC.out; omega) (hr4.fr f5 (fun _ _ h => h)) (Vals.nil _)))
    have hC5 := CC.blk hV (by simp) hg5
    have z2 : szL [sgnB, (intA k).1, strI dom] ≤ 20 + dom.size := by simp only [szL, List.map_cons, List.map_nil, List.sum_cons, List.sum_nil, strI_len]; have : sgnB.length = 4 := rfl; have := H2.out.2.2; omega
    have H5 := Aside0.mk (And.intro (H2.out.1.trans f25 (fun _ h => h.elim)) (And.intro hC5 z2))
    clear H2 hr3 hb3 hr4 hb4 f3 f4 f5 f25 hg5 hb5 hV hC5 z2 hc2 hc4 hl2
    refine (octet_Pack.calls 20 (some ⟨w4.heap.size, 0, none⟩) 3 [sgnB, (intA k).1, strI dom] (packA [sgnB, (intA k).1, strI dom]) w5 H5.out.2.1 (by simp) (pack_f _ (by have := H5.out; have := HC.out; omega) 20 (by simp))).mono ?_
    rintro e w6 ⟨v6, rfl, hR6, hb6⟩
    have hO6 : OB w6 w5.heap.size v6 (packA [sgnB, (intA k).1, strI dom]) := Kd.own_of_R hR6
    have F6 := H5.out.1.trans (Fr.of_below hb6 (fun _ => False)) (fun _ h => h.elim)
    have hp6 := packA_len [sgnB, (intA k).1, strI dom]
    have H6 := Aside0.mk (And.intro F6 (And.intro hO6 (And.intro hb6.size (And.intro H5.out.1.size (Nat.le_trans hp6 (Nat.mul_le_mul_left 5 H5.out.2.2))))))
    clear H5 hR6 hb6 hO6 F6 hp6
    go_wp2_with (fail)
    refine (octet_Pack.calls (l.length + 9) A c l (packA l) w6 (HC.out.1.fr H6.out.1) HC.out.2.1 (pack_f _ (by have := HC.out; omega) _ (Nat.le_refl _))).mono ?_
    rintro e w7 ⟨v7, rfl, hR7, hb7⟩
    have hO7 : OB w7 w6.heap.size v7 (packA l) := Kd.own_of_R hR7
    obtain ⟨A7, c7, rfl, hc7⟩ := hO7.slice
    have H7 := Aside0.mk (And.intro (H6.out.1.trans (Fr.of_below hb7 (fun _ => False)) (fun _ h => h.elim)) (And.intro (H6.out.2.1.fr (Fr.of_below hb7 (fun _ => False)) (fun _ _ h => h)) (And.intro (QB.rd (q_of_own hO7)) (And.intro hb7.size H6.out.2.2))))
    have hp7 := packA_len l
    clear H6 hR7 hb7 hO7
    go_wp2_with (first | ((with_reducible refine gate_builtin (b := .append) (xs := #[.tmp 23, .tmp 25]) rfl ?_); at_builtin; refine Aside0.out ?_))
    refine ⟨?_⟩
    refine wpList_appe rfl (by rfl) w5.heap.size _ _ (by rfl) infoB v6 (packA [sgnB, (intA k).1, strI dom]) (by rfl) H7.out.2.1 A7 (packA l).length c7 (packA l) (by rfl) rfl H7.out.2.2.1 (by have := H7.out; have := HC.out; omega) (by have := H7.out; omega) ?_
    intro v8 w8 hO8 hf8 hat8
    have e8 : packA [sgnB, (intA k).1, strI dom] ++ packA l = packA (sgnB :: (intA k).1 :: strI dom :: l) := by rw [← packA_append]; rfl
    rw [e8] at hO8
    have F8 : Fr (fun _ => False) w w8 := H7.out.1.trans hf8 (fun i hi => .inr (by have := H7.out.2.1.base i hi.symm; have := H7.out.2.2.2.2.2.1; omega))
    have H8 := Aside0.mk (And.intro (hO8.lower H7.out.2.2.2.2.2.1) F8)
    clear H7 hO8 hf8 hat8 F8 e8 hp7
    go_wp2
    go_ret
    exact ⟨_, rfl, H8.out.1, H8.out.2.below _ (Nat.le_refl _) (fun i h => h.elim)⟩
  · rw [txtA, if_neg hk]
    have hr : key_right.f k = some false := by
      unfold key_right.f
      by_cases h0 : 0 ≤ k
      · rw [if_pos h0, decide_eq_false (by omega)]
      · rw [if_neg h0]
    have HK := Aside0.mk hr
    clear hr hk
    go_enter Try.func60, Try.ntmps60
    go_wp2_with (fail)
    refine (key_right.calls k false w HK.out).mono ?_
    rintro e w1 ⟨rfl, hd1⟩
    have H1 := Aside0.mk hd1.below
    clear hd1
    go_wp2
    go_ret
    exact ⟨_, rfl, OB.nil _ _, H1.out⟩
end Go.Proofs.Ytnabilhcmplhcaa.Sha

namespace Go.Proofs.Ytnabilhcmplhcaa.Sha
open Go.RowKit Go.Proofs.YtnabilhcmplhcaaW.PrintWords Go.Proofs.YtnabilhcmplhcaaW.PrintLast Go.Proofs.YtnabilhcmplhcaaW.PrintMore Go.Proofs.Ytnabilhcmplhcaa.Q Go.Proofs.Ytnabilhcmplhcaa.Fr Go.Proofs.Ytnabilhcmplhcaa.Oct

theorem right_f (k : Int) : key_right.f k = some (decide (0 ≤ k ∧ k ≤ 127)) := by
  unfold key_right.f
  by_cases h0 : 0 ≤ k
  · rw [if_pos h0]
    congr 1
    simp [h0]
  · rw [if_neg h0]
    congr 1
    simp [h0]
theorem txtA_len (k : Int) (dom : ByteArray) (l : List (List Int)) (hs : szL l + dom.size ≤ 2097000) : (txtA k dom l).length ≤ 10485760 := by
  unfold txtA
  split
  · have h := packA_len (sgnB :: (intA k).1 :: strI dom :: l)
    have : sgnB.length = 4 := rfl
    have := intA_len k
    simp only [szL_cons, strI_len] at h
    omega
  · simp
theorem sha_len (b : List Int) : (sha b).length = 32 := by rw [sha, outB_len, run_len]; rfl
theorem sha_bys (b : List Int) : Bys (sha b) := Bys_out _
/-- A signature. -/
def sgA (k : Int) (dom : ByteArray) (l : List (List Int)) : List Int := if 0 ≤ k ∧ k ≤ 127 then sha (txtA k dom l) else []
theorem sgA_len (k : Int) (dom : ByteArray) (l : List (List Int)) : (sgA k dom l).length ≤ 32 := by
  unfold sgA
  split
  · rw [sha_len]; omega
  · simp
theorem sgA_bys (k : Int) (dom : ByteArray) (l : List (List Int)) : Bys (sgA k dom l) := by
  unfold sgA
  split
  · exact sha_bys _
  · exact Bys.nil
set_option maxHeartbeats 8000000 in
set_option maxRecDepth 100000 in
theorem sign_calls (k : Int) (dom : ByteArray) (A : Option Addr) (c : Nat) (l : List (List Int)) (w : World) (hC : CC w A l) (hc : l.length ≤ c) (hs : szL l + dom.size ≤ 2097000) :
    Calls Try.prog 54 #[.int .i64 k, .string dom, .slice A l.length c] w fun e w' => ∃ v : Value, e = .returned v ∧ OB w' w.heap.size v (sgA k dom l) ∧ Below w.heap.size w w' := by
  have HC := Aside0.mk (And.intro hC (And.intro hc hs))
  clear hC hc hs
  have hr := right_f k
  unfold sgA
  by_cases hk : 0 ≤ k ∧ k ≤ 127
  · rw [if_pos hk]
    rw [decide_eq_true hk] at hr
    have HK := Aside0.mk hr
    clear hr hk
    go_enter Try.func54, Try.ntmps54
    go_wp2_with (fail)
    refine (key_right.calls k true w HK.out).mono ?_
    rintro e w1 ⟨rfl, hd1⟩
    have H1 := Aside0.mk (Fr.of_below hd1.below (fun _ => False))
    clear hd1
    go_wp2_with (fail)
    refine (text_calls k dom A c l w1 (HC.out.1.fr H1.out) HC.out.2.1 HC.out.2.2).mono ?_
    rintro e w2 ⟨v2, rfl, hO2, hb2⟩
    obtain ⟨A2, c2, rfl, hc2⟩ := hO2.slice
    have H2 := Aside0.mk (And.intro (H1.out.trans (Fr.of_below hb2 (fun _ => False)) (fun _ h => h.elim)) (QB.rd (q_of_own hO2)))
    clear H1 hO2 hb2
    have hl := txtA_len k dom l HC.out.2.2
    have HL := Aside0.mk hl
    clear hl
    go_wp2_with (fail)
    refine (ssum_calls A2 c2 (txtA k dom l) w2 H2.out.2 hc2 (by have := HL.out; omega)).mono ?_
    rintro e w3 ⟨v3, rfl, hO3, hb3⟩
    have H3 := Aside0.mk (And.intro (hO3.lower H2.out.1.size) (H2.out.1.trans (Fr.of_below hb3 (fun _ => False)) (fun _ h => h.elim)))
    clear H2 hO3 hb3
    go_wp2
    go_ret
    exact ⟨_, rfl, H3.out.1, H3.out.2.below _ (Nat.le_refl _) (fun i h => h.elim)⟩
  · rw [if_neg hk]
    rw [decide_eq_false hk] at hr
    have HK := Aside0.mk hr
    clear hr hk
    go_enter Try.func54, Try.ntmps54
    go_wp2_with (fail)
    refine (key_right.calls k false w HK.out).mono ?_
    rintro e w1 ⟨rfl, hd1⟩
    have H1 := Aside0.mk hd1.below
    clear hd1
    go_wp2
    go_ret
    exact ⟨_, rfl, OB.nil _ _, H1.out⟩
set_option maxHeartbeats 8000000 in
set_option maxRecDepth 100000 in
theorem verify_calls (k : Int) (dom : ByteArray) (As : Option Addr) (cs : Nat) (s : List Int) (A : Option Addr) (c : Nat) (l : List (List Int)) (w : World) (hS : Rd w As s) (hcs : s.length ≤ cs) (hsl : s.length ≤ 9223372036854775807) (hsb : Bys s) (hC : CC w A l) (hc : l.length ≤ c) (hs : szL l + dom.size ≤ 2097000) :
    Calls Try.prog 47 #[.int .i64 k, .slice As s.length cs, .string dom, .slice A l.length c] w fun e w' => e = .returned (.bool (decide (0 ≤ k ∧ k ≤ 127) && decide (s = sgA k dom l))) ∧ Below w.heap.size w w' := by
  have HC := Aside0.mk (And.intro hC (And.intro hc (And.intro hs (And.intro hS (And.intro hsl hsb)))))
  clear hC hc hs hS hsl hsb
  have hr := right_f k
  by_cases hk : 0 ≤ k ∧ k ≤ 127
  · rw [decide_eq_true hk] at hr ⊢
    rw [Bool.true_and]
    have HK := Aside0.mk hr
    clear hr hk
    obtain ⟨b, hb⟩ : ∃ b, decide (s = sgA k dom l) = b := ⟨_, rfl⟩
    have HB := Aside0.mk hb
    rw [hb]
    clear hb
    go_enter Try.func47, Try.ntmps47
    go_wp2_with (fail)
    refine (key_right.calls k true w HK.out).mono ?_
    rintro e w1 ⟨rfl, hd1⟩
    have H1 := Aside0.mk (Fr.of_below hd1.below (fun _ => False))
    clear hd1
    go_wp2_with (fail)
    refine (sign_calls k dom A c l w1 (HC.out.1.fr H1.out) HC.out.2.1 HC.out.2.2.1).mono ?_
    rintro e w2 ⟨v2, rfl, hO2, hb2⟩
    obtain ⟨A2, c2, rfl, hc2⟩ := hO2.slice
    have H2 := Aside0.mk (And.intro (H1.out.trans (Fr.of_below hb2 (fun _ => False)) (fun _ h => h.elim)) (QB.rd (q_of_own hO2)))
    clear H1 hO2 hb2
    have hl := sgA_len k dom l
    have HL := Aside0.mk hl
    clear hl
    go_wp2_with (fail)
    refine (bytes_Equal.calls As cs s A2 c2 (sgA k dom l) b w2 ((HC.out.2.2.2.1.fr H2.out.1 (fun _ _ h => h)).C HC.out.2.2.2.2.1) hcs (H2.out.2.C (by have := HL.out; omega)) hc2 (by unfold bytes_Equal.f; rw [same_iff HC.out.2.2.2.2.2 (sgA_bys _ _ _), HB.out])).mono ?_
    rintro e w3 ⟨rfl, hd3⟩
    have H3 := Aside0.mk (H2.out.1.trans (Fr.of_below hd3.below (fun _ => False)) (fun _ h => h.elim))
    clear H2 hd3
    go_wp2
    go_ret
    exact ⟨by first | rfl | simp, H3.out.below _ (Nat.le_refl _) (fun i h => h.elim)⟩
  · rw [decide_eq_false hk] at hr ⊢
    rw [Bool.false_and]
    have HK := Aside0.mk hr
    clear hr hk
    go_enter Try.func47, Try.ntmps47
    go_wp2_with (fail)
    refine (key_right.calls k false w HK.out).mono ?_
    rintro e w1 ⟨rfl, hd1⟩
    have H1 := Aside0.mk hd1.below
    clear hd1
    go_wp2
    go_ret
    exact ⟨rfl, H1.out⟩
theorem Parts.blk {w : World} {g : Nat} {us : List Value} {PS : List (List Int)} {t : TypeId} {fr : Nat × Nat} {S : Nat → Prop} (h : Vals w us PS) (hg : w.heap[g]? = some (.cells us.toArray t fr)) (hgS : ¬ S g) (hA : ∀ (A : Option Addr) (n c : Nat), Value.slice A n c ∈ us → ∀ ad, A = some ad → ¬ S ad.block) : Parts w (some ⟨g, 0, none⟩) PS S := fun i p hp => by
  obtain ⟨A0, c0, e, hc, hr, _⟩ := h.2 i p hp
  refine ⟨_, A0, c0, rfl, ?_, hc, hgS, fun j u hu => ?_⟩
  · rw [add_at, Nat.zero_add]
    simp [World.cell?, hg, e]
  · obtain ⟨ad0, e0, h0⟩ := hr j u hu
    exact ⟨ad0, e0, hA _ _ _ (List.mem_of_getElem? e) ad0 e0, h0⟩
theorem digB_bys : Bys digB := by unfold Bys digB; decide
theorem sgnB_bys : Bys sgnB := by unfold Bys sgnB; decide
theorem own_CC {w : World} {base : Nat} {v : Value} {us : List Value} {L : List (List Int)} (hV : Vals w us L) (h : w.ownsRow base 29 1 v us.length us) (hl : L.length ≤ 9223372036854775807) : ∃ A c, v = .slice A L.length c ∧ L.length ≤ c ∧ CC w A L := by
  have hq := q_of_own h
  obtain ⟨A, c, rfl, hc⟩ := q_slice hq
  rw [hV.1] at hc
  refine ⟨A, c, by rw [hV.1], hc, ?_⟩
  by_cases h0 : L = []
  · subst h0
    exact ⟨rfl, by simp, fun h => by simp at h⟩
  · obtain ⟨ad, rfl, hcell⟩ := q_cells hq (by rw [hV.1]; exact List.length_pos_iff.2 h0)
    exact hV.CC hl hcell
end Go.Proofs.Ytnabilhcmplhcaa.Sha
