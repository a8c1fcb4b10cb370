/-
  ShaPieces: however bytes are cut, the hash is the same. What its walk wants.
-/
import Derived.Test.YtgnghgeljlaedaaShaAp
import Derived.Test.YtgnghgeljlaedaaKeyB
import Derived.Test.YtgnghgeljlaedaaQx1
import Derived.Test.YtgnghgeljlaedaaQx3
set_option linter.unusedVariables false
set_option linter.unusedSimpArgs false
namespace Go.Proofs.Ytgnghgeljlaedaa.Sha
open Go.RowKit Go.Proofs.YtgnghgeljlaedaaW.PrintWords Go.Proofs.YtgnghgeljlaedaaW.PrintLast Go.Proofs.YtgnghgeljlaedaaW.PrintMore Go.Proofs.Ytgnghgeljlaedaa.Q Go.Proofs.Ytgnghgeljlaedaa.Fr Go.Proofs.Ytgnghgeljlaedaa.Oct

set_option maxRecDepth 100000 in
theorem fm79 {a : Act} (h : Fm 79 a) : a = ⟨#[sl a 0, sl a 1, sl a 2, sl a 3, sl a 4, sl a 5, sl a 6, sl a 7, sl a 8, sl a 9, sl a 10, sl a 11, sl a 12, sl a 13, sl a 14, sl a 15, sl a 16, sl a 17, sl a 18, sl a 19, sl a 20, sl a 21, sl a 22, sl a 23, sl a 24, sl a 25, sl a 26, sl a 27, sl a 28, sl a 29, sl a 30, sl a 31, sl a 32, sl a 33, sl a 34, sl a 35, sl a 36, sl a 37, sl a 38, sl a 39, sl a 40, sl a 41, sl a 42, sl a 43, sl a 44, sl a 45, sl a 46, sl a 47, sl a 48, sl a 49, sl a 50, sl a 51, sl a 52, sl a 53, sl a 54, sl a 55, sl a 56, sl a 57, sl a 58, sl a 59, sl a 60, sl a 61, sl a 62, sl a 63, sl a 64, sl a 65, sl a 66, sl a 67, sl a 68, sl a 69, sl a 70, sl a 71, sl a 72, sl a 73, sl a 74, sl a 75, sl a 76, sl a 77, sl a 78], []⟩ := by
  obtain ⟨T, D⟩ := a
  obtain ⟨h1, h2⟩ := h
  obtain rfl : D = [] := h2
  obtain ⟨l⟩ := T
  have h1 : l.length = 79 := h1
  congr 2
  refine List.ext_getElem? fun i => ?_
  by_cases hi : i < 79
  · have hx : ∀ j, j < 79 → l[j]? = some (sl ⟨⟨l⟩, []⟩ j) := fun j hj => by
      have hl : j < l.length := by omega
      simp [sl, Array.getD_eq_getD_getElem?, List.getElem?_eq_getElem hl]
    rw [hx i hi]
    have : ∀ (s : Nat → Value) (i : Nat), i < 79 → ((List.range 79).map s)[i]? = some (s i) := fun s i hi => by simp [hi]
    exact (this _ i hi).symm
  · have h2 : ∀ (s : Nat → Value), ((List.range 79).map s)[i]? = none := fun s => by simp; omega
    exact (List.getElem?_eq_none (by omega)).trans (h2 _).symm
section
variable {P : Program} {ops : Array Oper} {rest : List Oper} {o o1 o2 o3 : Oper} {a : Act} {Q : Exit → Act → World → Prop} {w : World}
/-- '[]byte{}'. -/
theorem wpList_lit0 (hgd : o.guard = none) (hrun : (execOp a.eval o).run P w = .ok (.value (.slice (some ⟨w.heap.size, 0, none⟩) 0 0)) (w.alloc (.cells #[] 5)))
    (h : ∀ v1 w1, OB w1 w.heap.size v1 [] → Below w.heap.size w w1 → wpList P ops Q rest (a.put o.dst v1) w1) : wpList P ops Q (o :: rest) a w := by
  refine Kd.event_run hgd hrun (h _ _ ?_ (below_alloc (Below.refl _ _) _))
  show (w.alloc (.cells #[] 5)).ownsRow w.heap.size 5 1 (.slice (some ⟨w.heap.size, 0, none⟩) 0 0) 0 []
  simpa using World.ownsRow_lit (base := w.heap.size) (e := 5) (size := 1) w #[] 0 (Nat.le_refl _) (by decide) (by simp)
/-- 'append([]byte{}, x...)': three operations. -/
theorem wpList_copyb (hP : P = Try.prog) (g1 : Region.wanted o1 (yielded ops a.tmps) = true) (g2 : ∀ v, Region.wanted o2 (yielded ops (a.put o1.dst v).tmps) = true) (g3 : ∀ v u, Region.wanted o3 (yielded ops ((a.put o1.dst v).put o2.dst u).tmps) = true)
    (hrun : (execOp a.eval o1).run P w = .ok (.value (.slice (some ⟨w.heap.size, 0, none⟩) 0 0)) (w.alloc (.cells #[] 5)))
    (x : Operand) (ho2 : o2.op = .move x) (A : Option Addr) (m c : Nat) (ys : List Int) (hx : ∀ v, (a.put o1.dst v).eval x = .slice A m c) (hm : m = ys.length) (hy : Rd w A ys)
    (s y : Operand) (ho3 : o3.op = .call { callee := .builtin .append, args := #[s, y], argTypes := #[23, 23] }) (h3s : ∀ v u, ((a.put o1.dst v).put o2.dst u).eval s = v) (h3y : ∀ v u, ((a.put o1.dst v).put o2.dst u).eval y = u)
    (hl : ys.length ≤ 140737488355328)
    (h : ∀ v v1 w1, OB w1 w.heap.size v1 ys → Below w.heap.size w w1 → wpList P ops Q rest (((a.put o1.dst v).put o2.dst (.slice A m c)).put o3.dst v1) w1) : wpList P ops Q (o1 :: o2 :: o3 :: rest) a w := by
  refine gate_guard g1 (wpList_lit0 (o := { o1 with guard := none }) rfl hrun fun v w1 hO1 hb1 => gate_guard (g2 v) (wpList_move (o := { o2 with guard := none }) rfl x ho2 _ (hx v) (gate_guard (g3 v _) ?_)))
  have z1 := hb1.size
  refine wpList_appe (o := { o3 with guard := none }) hP rfl w.heap.size s y ho3 infoB v [] (h3s _ _) hO1 A m c ys (h3y _ _) hm (hy.fr (Fr.of_below hb1 (fun _ => False)) (fun _ _ h => h)) (by simp only [List.length_nil]; omega) (by omega) ?_
  intro v1 w2 hO2 hf2 _
  rw [List.nil_append] at hO2
  exact h v v1 w2 hO2 (((Fr.of_below hb1 (fun _ => False)).trans hf2 (fun k hk => .inr (hO1.base k hk.symm))).below _ (Nat.le_refl _) (fun i h => h.elim))
end
theorem CC.get {w : World} {A : Option Addr} {L : List (List Int)} (h : CC w A L) (i : Nat) (hi : i < L.length) : ∃ ad A0 c0, A = some ad ∧ w.cell? (ad.add i) = some (.slice A0 (L.getD i []).length c0) ∧ (L.getD i []).length ≤ c0 ∧ Rd w A0 (L.getD i []) := by
  obtain ⟨ad, c, e, hs, ⟨A0, c0, rfl, hl, hr⟩, hc⟩ := ReadsRow.get_ h [] (i : Int) (by omega) (by omega)
  rw [Int.toNat_natCast] at hc hl hr
  refine ⟨ad, A0, c0, e, ?_, hl, Rd.of_C hr⟩
  have := hc 0 _ rfl
  rw [show i * (Kd.slice 5 (Kd.int .u8)).sz + 0 = i from by show i * 1 + 0 = i; omega] at this
  exact this
theorem take_flat (L : List (List Int)) (t : Nat) (h : t < L.length) : (L.take (t + 1)).flatten = (L.take t).flatten ++ L.getD t [] := by
  rw [List.take_succ_eq_append_getElem h, List.flatten_append]
  simp [List.getD_eq_getElem?_getD, List.getElem?_eq_getElem h]
theorem same_calls (l : List Int) (A0 : Option Addr) (c0 : Nat) (A1 : Option Addr) (c1 : Nat) (w : World) (h0 : Rd w A0 l) (hc0 : l.length ≤ c0) (h1 : Rd w A1 l) (hc1 : l.length ≤ c1) (hl : l.length ≤ 9223372036854775807) :
    Calls Try.prog 13 #[.slice A0 l.length c0, .slice A1 l.length c1] w fun e w' => e = .returned (.bool true) ∧ Below w.heap.size w w' := by
  refine (catenaryref01_Same.calls A0 c0 l A1 c1 l true w (h0.C hl) hc0 (h1.C hl) hc1 (Oct.same_self _)).mono ?_
  rintro e w' ⟨rfl, hd⟩
  exact ⟨rfl, hd.below⟩
/-- A copy of a list: a row of one's own whose cells can be read; no element lies in the list's own block. -/
theorem copy_own (L : List (List Int)) (A : Option Addr) (c : Nat) (w : World) (h : CC w A L) (hc : L.length ≤ c) (hs : szL L ≤ 2097152) :
    Calls Try.prog 19 #[.slice A L.length c] w fun e w' => ∃ (v : Value) (us : List Value), e = .returned v ∧ w'.ownsRow w.heap.size 23 1 v us.length us ∧ Vals w' us L ∧ (∀ u ∈ us, ∀ k, u.ownBlock = some k → w.heap.size ≤ k) ∧ Below w.heap.size w w' := by
  have hl := szL_len L
  refine (catenaryref01_Copy.calls (L.length + 1) A c L L w h hc (copy_f L (fun x m => by have := szL_mem m; omega) (by omega) _ (Nat.le_refl _))).mono ?_
  rintro e w' ⟨v, rfl, hS, hb⟩
  obtain ⟨_, us, ho, hr⟩ := Kd.R_bound (Kd.S_R hS)
  have ho : w'.ownsRow w.heap.size 23 1 v L.length us := ho
  have hlen : us.length = L.length := by have := ho.1; omega
  have hel : ∀ (j : Nat) (l : List Int), L[j]? = some l → ∃ A0 c0, us[j]? = some (.slice A0 l.length c0) ∧ l.length ≤ c0 ∧ Rd w' A0 l ∧ l.length ≤ 9223372036854775807 ∧ ∀ k, (Value.slice A0 l.length c0).ownBlock = some k → w.heap.size ≤ k := fun j l hj => by
    obtain ⟨v', e1, hR⟩ := hr.2 j l hj
    have e1 : (us.drop (j * 1)).take 1 = [v'] := e1
    rw [Nat.mul_one] at e1
    have e2 : us[j]? = some v' := by
      have := congrArg (fun x : List Value => x[0]?) e1
      simpa using this
    have hok := hR.1
    obtain ⟨A0, c0, rfl, hle, hC⟩ := Kd.R_reads hR
    exact ⟨A0, c0, e2, hle, Rd.of_C hC, hC.2.1, fun k hk => (hok k hk).1.2.1⟩
  refine ⟨v, us, rfl, by rw [hlen]; exact ho, ⟨hlen, fun j l hj => ?_⟩, fun u hu k hk => ?_, hb⟩
  · obtain ⟨A0, c0, h1, h2, h3, h4, _⟩ := hel j l hj
    exact ⟨A0, c0, h1, h2, h3, h4⟩
  · obtain ⟨j, hj, rfl⟩ := List.mem_iff_getElem.1 hu
    obtain ⟨A0, c0, h1, _, _, _, h5⟩ := hel j (L[j]'(by omega)) (List.getElem?_eq_getElem _)
    rw [List.getElem?_eq_getElem hj] at h1
    rw [Option.some.inj h1] at hk
    exact h5 k hk
/-- The pieces lie in a row of one's own. -/
theorem Parts.own {w : World} {base : Nat} {v : Value} {us : List Value} {PS : List (List Int)} {S : Nat → Prop} (hV : Vals w us PS) (h : w.ownsRow base 23 1 v us.length us) (hS : ∀ k, v.ownBlock = some k → ¬ S k) (hA : ∀ u ∈ us, ∀ k, u.ownBlock = some k → ¬ S k) : ∃ A c, v = .slice A PS.length c ∧ Parts w A PS S := by
  have hq := q_of_own h
  obtain ⟨A, c, rfl, hc⟩ := q_slice hq
  refine ⟨A, c, by rw [hV.1], fun i p hp => ?_⟩
  obtain ⟨A0, c0, e, hc0, hr, _⟩ := hV.2 i p hp
  have hi : i < PS.length := (List.getElem?_eq_some_iff.1 hp).1
  obtain ⟨ad, rfl, hcell⟩ := q_cells hq (by rw [hV.1]; omega)
  refine ⟨ad, A0, c0, rfl, hcell i _ e, hc0, hS _ rfl, fun j u hu => ?_⟩
  obtain ⟨ad0, e0, h0⟩ := hr j u hu
  exact ⟨ad0, e0, hA _ (List.mem_of_getElem? e) ad0.block (by rw [e0]; rfl), h0⟩
/-- What the loop keeps. -/
structure Pc (w W : World) (gh gg : Nat) (rh vall : Value) (b : List Int) : Prop where
  st : St w W gh gg rh (.slice none 0 0) b []
  row : OB W w.heap.size vall b
  far : ∀ k, vall.ownBlock = some k → ¬ Fp gh rh k ∧ ¬ Fp gg (.slice none 0 0) k
set_option maxHeartbeats 8000000 in
set_option maxRecDepth 100000 in
theorem roundPY (u : Nat → Value) (A : Option Addr) (c : Nat) (L : List (List Int)) (i : Nat) (hi : i < L.length) (hn : L.length < 50) (hL : L.length ≤ 4611686018427387904) (w W : World) (hC : CC w A L) (gh gg : Nat) (rh vall : Value) (b : List Int) (hlen : b.length + (L.getD i []).length ≤ 4194304) (H : Pc w W gh gg rh vall b)
    (Q : Exit → Act → World → Prop) (hQ : ∀ a' W' rh' vall', Fm 79 a' → sl a' 0 = .slice A L.length c → sl a' 1 = u 1 → sl a' 5 = .pointer (some ⟨gh, 0, none⟩) → sl a' 6 = u 6 → sl a' 7 = vall' → sl a' 21 = .slice A L.length c → sl a' 22 = .int .i64 (L.length : Int) → sl a' 23 = .int .i64 ((i : Int) + 1) → Pc w W' gh gg rh' vall' (b ++ L.getD i []) → Q .normal a' W') :
    Code.wp Try.prog (bodyN Try.f5 0) Q ⟨#[.slice A L.length c, u 1, u 2, u 3, u 4, .pointer (some ⟨gh, 0, none⟩), u 6, vall, u 8, u 9, u 10, u 11, u 12, u 13, u 14, u 15, u 16, u 17, u 18, u 19, u 20, .slice A L.length c, .int .i64 (L.length : Int), .int .i64 (i : Int), u 24, u 25, u 26, u 27, u 28, u 29, u 30, u 31, u 32, u 33, u 34, u 35, u 36, u 37, u 38, u 39, u 40, u 41, u 42, u 43, u 44, u 45, u 46, u 47, u 48, u 49, u 50, u 51, u 52, u 53, u 54, u 55, u 56, u 57, u 58, u 59, u 60, u 61, u 62, u 63, u 64, u 65, u 66, u 67, u 68, u 69, u 70, u 71, u 72, u 73, u 74, u 75, u 76, u 77, u 78], []⟩ W := by
  obtain ⟨ad, A0, c0, rfl, hcell0, hc0, hr⟩ := hC.get i hi
  have hcell := H.st.F.cell hcell0 (fun h => h)
  clear hC hcell0
  obtain ⟨p, hp⟩ : ∃ p, L.getD i [] = p := ⟨_, rfl⟩
  rw [hp] at hcell hc0 hr hlen hQ
  clear hp
  obtain ⟨m, hm⟩ : ∃ m, L.length = m := ⟨_, rfl⟩
  rw [hm] at hi hL hQ hn ⊢
  clear hm
  have b0 : decide ((i : Int) < (m : Int)) = true := decide_eq_true (by omega)
  have b1 : (0 : Int) ≤ (i : Int) := by omega
  have b2 : (i : Int) < (m : Int) := by omega
  have b9 : decide ((m : Int) < 50) = true := decide_eq_true (by omega)
  have HH := Aside0.mk (And.intro H (And.intro hr (And.intro hlen hQ)))
  clear H hr hlen hQ
  have b5 : wrap64 ((i : Int) + 1) = (i : Int) + 1 := by unfold wrap64; omega
  have B5 := Aside0.mk b5
  clear b5
  conv => arg 2; whnf
  go_wp2_with (first | ((with_reducible refine gate_dst (N := 28) rfl ?_); refine wpList_copyb rfl (by rfl) (fun _ => by rfl) (fun _ _ => by rfl) (by first | (go_simp; done) | (go_simp; rfl)) _ (by rfl) A0 p.length c0 p (fun _ => rfl) rfl (HH.out.2.1.fr HH.out.1.st.F (fun _ _ h => h)) _ _ (by rfl) (fun _ _ => rfl) (fun _ _ => rfl) (by have := HH.out.2.2.1; omega) ?_; intro u3 v3 w3 hO3 hb3; obtain ⟨A3, c3, rfl, hc3⟩ := hO3.slice))
  have hg4 := heap_alloc_new w3 (.cells #[.slice A3 p.length c3] 23)
  have hb4 := below_alloc (Below.refl w3.heap.size w3) (.cells #[.slice A3 p.length c3] 23)
  generalize w3.alloc (.cells #[.slice A3 p.length c3] 23) = w4 at *
  have f3 := Fr.of_below hb3 (fun _ => False)
  have f4 := Fr.of_below hb4 (fun _ => False)
  have f34 := f3.trans f4 (fun _ h => h.elim)
  have s4 := HH.out.1.st.fr f34 (fun k hk => hk.elim)
  have z3 := hb3.size
  have z4 := hb4.size
  have z0 := HH.out.1.st.F.size
  have hpar : Parts w4 (some ⟨w3.heap.size, 0, none⟩) [p] (Fp gh rh) := parts_one hg4 hc3 ((QB.rd (q_of_own hO3)).fr f4 (fun _ _ h => h)) (fun h => by have := HH.out.1.st.hh.lt _ h; omega) (fun ad e _ h => by have h1 := hO3.base ad.block (by rw [e]; rfl); have h2 := HH.out.1.st.hh.lt _ h; omega)
  have o4 : OB w4 w.heap.size vall b := HH.out.1.row.fr f34 (fun _ _ h => h)
  have lt0 : ∀ k, vall.ownBlock = some k → k < W.heap.size := fun k hk => q_lt (q_of_own HH.out.1.row) k hk
  have H4 := Aside0.mk (And.intro s4 (And.intro hpar (And.intro o4 (And.intro lt0 (by omega : W.heap.size ≤ w4.heap.size)))))
  clear hO3 hb3 hg4 hb4 f3 f4 f34 s4 hpar o4 lt0 z3 z4 z0 hc3
  have hwr := write_holds gh w.heap.size rh b (some ⟨w3.heap.size, 0, none⟩) 1 [p] (by simp) (fun q hq => by have : q = p := (by simpa using hq); rw [this]; have := HH.out.2.2.1; omega) w4 H4.out.1.hh H4.out.1.F.size H4.out.2.1 (by have := HH.out.2.2.1; simp; omega)
  rw [show b ++ [p].flatten = b ++ p by simp] at hwr
  refine hwr.mono ?_
  clear hwr
  rintro e w5 ⟨rfl, hf5, rh5, hh5, hn5⟩
  have s5 := H4.out.1.write_h hf5 hh5 hn5
  have o5 : OB w5 w.heap.size vall b := H4.out.2.2.1.fr hf5 (fun k hk h => (HH.out.1.far k hk).1 h)
  have far5 : ∀ k, vall.ownBlock = some k → ¬ Fp gh rh5 k ∧ ¬ Fp gg (.slice none 0 0) k := fun k hk => ⟨fun h => (hn5 k h).elim (HH.out.1.far k hk).1 (fun h => by have := H4.out.2.2.2.1 k hk; have := H4.out.2.2.2.2; omega), (HH.out.1.far k hk).2⟩
  have H5 := Aside0.mk (And.intro s5 (And.intro o5 far5))
  clear H4 hf5 hh5 hn5 s5 o5 far5
  go_wp2_with (first | ((with_reducible refine gate_builtin (b := .append) (xs := #[.tmp 33, .tmp 34]) rfl ?_); at_builtin; refine Aside0.out ?_))
  refine ⟨?_⟩
  refine wpList_appe rfl (by rfl) w.heap.size _ _ (by rfl) infoB vall b (by rfl) H5.out.2.1 A0 p.length c0 p (by rfl) rfl (HH.out.2.1.fr H5.out.1.F (fun _ _ h => h)) (by have := HH.out.2.2.1; omega) H5.out.1.F.size ?_
  intro v6 w6 hO6 hf6 hat6
  have s6 := H5.out.1.fr hf6 (fun k hk => ⟨H5.out.2.1.base k hk.symm, (H5.out.2.2 k hk.symm).1, (H5.out.2.2 k hk.symm).2⟩)
  have far6 : ∀ k, v6.ownBlock = some k → ¬ Fp gh rh5 k ∧ ¬ Fp gg (.slice none 0 0) k := fun k hk => hat6.elim (fun h => H5.out.2.2 k (by rw [← h]; exact hk)) (fun ⟨q, h, hq⟩ => by
    rw [hk] at h
    cases h
    exact ⟨fun h => by have := H5.out.1.hh.lt _ h; omega, fun h => by have := H5.out.1.hg.lt _ h; omega⟩)
  have H6 := Aside0.mk (Pc.mk s6 hO6 far6)
  clear H5 hO6 hf6 hat6 s6 far6
  go_wp2_with (fail)
  refine (sum_holds gh w.heap.size rh5 (b ++ p) w6 H6.out.st.hh).mono ?_
  rintro e w7 ⟨v7, rfl, hO7, hb7⟩
  obtain ⟨A7, c7, rfl, hc7⟩ := hO7.slice
  have f7 := Fr.of_below hb7 (fun _ => False)
  have H7 := Aside0.mk (And.intro (Pc.mk (H6.out.st.fr f7 (fun k hk => hk.elim)) (H6.out.row.fr f7 (fun _ _ h => h)) H6.out.far) (QB.rd (q_of_own hO7)))
  clear H6 hO7 hb7 f7
  obtain ⟨A6, c6, rfl, hc6⟩ := H7.out.1.row.slice
  obtain ⟨bp, hbp⟩ : ∃ bp, b ++ p = bp := ⟨_, rfl⟩
  have hbpl : bp.length ≤ 4194304 := by rw [← hbp, List.length_append]; exact HH.out.2.2.1
  rw [hbp] at H7 hc6 hc7 ⊢
  have HB := Aside0.mk (And.intro hbp hbpl)
  clear hbp hbpl
  go_wp2_with (fail)
  refine (ssum_calls A6 c6 bp w7 (QB.rd (q_of_own H7.out.1.row)) hc6 (by have := HB.out.2; omega)).mono ?_
  rintro e w8 ⟨v8, rfl, hO8, hb8⟩
  obtain ⟨A8, c8, rfl, hc8⟩ := hO8.slice
  have f8 := Fr.of_below hb8 (fun _ => False)
  have H8 := Aside0.mk (And.intro (Pc.mk (H7.out.1.st.fr f8 (fun k hk => hk.elim)) (H7.out.1.row.fr f8 (fun _ _ h => h)) H7.out.1.far) (And.intro (H7.out.2.fr f8 (fun _ _ h => h)) (QB.rd (q_of_own hO8))))
  clear H7 hO8 hb8 f8
  go_wp2_with (fail)
  refine (same_calls (sha bp) A7 c7 A8 c8 w8 H8.out.2.1 hc7 H8.out.2.2 hc8 (by rw [sha_len]; decide)).mono ?_
  rintro e w9 ⟨rfl, hb9⟩
  have f9 := Fr.of_below hb9 (fun _ => False)
  have H9 := Aside0.mk (Pc.mk (H8.out.1.st.fr f9 (fun k hk => hk.elim)) (H8.out.1.row.fr f9 (fun _ _ h => h)) H8.out.1.far)
  clear H8 hb9 f9 hc7 hc8
  have b5 := B5.out
  go_wp2
  exact HH.out.2.2.2 _ _ rh5 _ ⟨rfl, rfl⟩ rfl rfl rfl rfl rfl rfl rfl rfl (by rw [HB.out.1]; exact H9.out)
set_option maxHeartbeats 8000000 in
set_option maxRecDepth 100000 in
theorem roundPZ (u : Nat → Value) (A : Option Addr) (c : Nat) (L : List (List Int)) (i : Nat) (hi : i < L.length) (hn : ¬ L.length < 50) (hL : L.length ≤ 4611686018427387904) (w W : World) (hC : CC w A L) (gh gg : Nat) (rh vall : Value) (b : List Int) (hlen : b.length + (L.getD i []).length ≤ 4194304) (H : Pc w W gh gg rh vall b)
    (Q : Exit → Act → World → Prop) (hQ : ∀ a' W' rh' vall', Fm 79 a' → sl a' 0 = .slice A L.length c → sl a' 1 = u 1 → sl a' 5 = .pointer (some ⟨gh, 0, none⟩) → sl a' 6 = u 6 → sl a' 7 = vall' → sl a' 21 = .slice A L.length c → sl a' 22 = .int .i64 (L.length : Int) → sl a' 23 = .int .i64 ((i : Int) + 1) → Pc w W' gh gg rh' vall' (b ++ L.getD i []) → Q .normal a' W') :
    Code.wp Try.prog (bodyN Try.f5 0) Q ⟨#[.slice A L.length c, u 1, u 2, u 3, u 4, .pointer (some ⟨gh, 0, none⟩), u 6, vall, u 8, u 9, u 10, u 11, u 12, u 13, u 14, u 15, u 16, u 17, u 18, u 19, u 20, .slice A L.length c, .int .i64 (L.length : Int), .int .i64 (i : Int), u 24, u 25, u 26, u 27, u 28, u 29, u 30, u 31, u 32, u 33, u 34, u 35, u 36, u 37, u 38, u 39, u 40, u 41, u 42, u 43, u 44, u 45, u 46, u 47, u 48, u 49, u 50, u 51, u 52, u 53, u 54, u 55, u 56, u 57, u 58, u 59, u 60, u 61, u 62, u 63, u 64, u 65, u 66, u 67, u 68, u 69, u 70, u 71, u 72, u 73, u 74, u 75, u 76, u 77, u 78], []⟩ W := by
  obtain ⟨ad, A0, c0, rfl, hcell0, hc0, hr⟩ := hC.get i hi
  have hcell := H.st.F.cell hcell0 (fun h => h)
  clear hC hcell0
  obtain ⟨p, hp⟩ : ∃ p, L.getD i [] = p := ⟨_, rfl⟩
  rw [hp] at hcell hc0 hr hlen hQ
  clear hp
  obtain ⟨m, hm⟩ : ∃ m, L.length = m := ⟨_, rfl⟩
  rw [hm] at hi hL hQ hn ⊢
  clear hm
  have b0 : decide ((i : Int) < (m : Int)) = true := decide_eq_true (by omega)
  have b1 : (0 : Int) ≤ (i : Int) := by omega
  have b2 : (i : Int) < (m : Int) := by omega
  have b9 : decide ((m : Int) < 50) = false := decide_eq_false (by omega)
  have HH := Aside0.mk (And.intro H (And.intro hr (And.intro hlen hQ)))
  clear H hr hlen hQ
  have b5 : wrap64 ((i : Int) + 1) = (i : Int) + 1 := by unfold wrap64; omega
  have B5 := Aside0.mk b5
  clear b5
  conv => arg 2; whnf
  go_wp2_with (first | ((with_reducible refine gate_dst (N := 28) rfl ?_); refine wpList_copyb rfl (by rfl) (fun _ => by rfl) (fun _ _ => by rfl) (by first | (go_simp; done) | (go_simp; rfl)) _ (by rfl) A0 p.length c0 p (fun _ => rfl) rfl (HH.out.2.1.fr HH.out.1.st.F (fun _ _ h => h)) _ _ (by rfl) (fun _ _ => rfl) (fun _ _ => rfl) (by have := HH.out.2.2.1; omega) ?_; intro u3 v3 w3 hO3 hb3; obtain ⟨A3, c3, rfl, hc3⟩ := hO3.slice))
  have hg4 := heap_alloc_new w3 (.cells #[.slice A3 p.length c3] 23)
  have hb4 := below_alloc (Below.refl w3.heap.size w3) (.cells #[.slice A3 p.length c3] 23)
  generalize w3.alloc (.cells #[.slice A3 p.length c3] 23) = w4 at *
  have f3 := Fr.of_below hb3 (fun _ => False)
  have f4 := Fr.of_below hb4 (fun _ => False)
  have f34 := f3.trans f4 (fun _ h => h.elim)
  have s4 := HH.out.1.st.fr f34 (fun k hk => hk.elim)
  have z3 := hb3.size
  have z4 := hb4.size
  have z0 := HH.out.1.st.F.size
  have hpar : Parts w4 (some ⟨w3.heap.size, 0, none⟩) [p] (Fp gh rh) := parts_one hg4 hc3 ((QB.rd (q_of_own hO3)).fr f4 (fun _ _ h => h)) (fun h => by have := HH.out.1.st.hh.lt _ h; omega) (fun ad e _ h => by have h1 := hO3.base ad.block (by rw [e]; rfl); have h2 := HH.out.1.st.hh.lt _ h; omega)
  have o4 : OB w4 w.heap.size vall b := HH.out.1.row.fr f34 (fun _ _ h => h)
  have lt0 : ∀ k, vall.ownBlock = some k → k < W.heap.size := fun k hk => q_lt (q_of_own HH.out.1.row) k hk
  have H4 := Aside0.mk (And.intro s4 (And.intro hpar (And.intro o4 (And.intro lt0 (by omega : W.heap.size ≤ w4.heap.size)))))
  clear hO3 hb3 hg4 hb4 f3 f4 f34 s4 hpar o4 lt0 z3 z4 z0 hc3
  have hwr := write_holds gh w.heap.size rh b (some ⟨w3.heap.size, 0, none⟩) 1 [p] (by simp) (fun q hq => by have : q = p := (by simpa using hq); rw [this]; have := HH.out.2.2.1; omega) w4 H4.out.1.hh H4.out.1.F.size H4.out.2.1 (by have := HH.out.2.2.1; simp; omega)
  rw [show b ++ [p].flatten = b ++ p by simp] at hwr
  refine hwr.mono ?_
  clear hwr
  rintro e w5 ⟨rfl, hf5, rh5, hh5, hn5⟩
  have s5 := H4.out.1.write_h hf5 hh5 hn5
  have o5 : OB w5 w.heap.size vall b := H4.out.2.2.1.fr hf5 (fun k hk h => (HH.out.1.far k hk).1 h)
  have far5 : ∀ k, vall.ownBlock = some k → ¬ Fp gh rh5 k ∧ ¬ Fp gg (.slice none 0 0) k := fun k hk => ⟨fun h => (hn5 k h).elim (HH.out.1.far k hk).1 (fun h => by have := H4.out.2.2.2.1 k hk; have := H4.out.2.2.2.2; omega), (HH.out.1.far k hk).2⟩
  have H5 := Aside0.mk (And.intro s5 (And.intro o5 far5))
  clear H4 hf5 hh5 hn5 s5 o5 far5
  go_wp2_with (first | ((with_reducible refine gate_builtin (b := .append) (xs := #[.tmp 33, .tmp 34]) rfl ?_); at_builtin; refine Aside0.out ?_))
  refine ⟨?_⟩
  refine wpList_appe rfl (by rfl) w.heap.size _ _ (by rfl) infoB vall b (by rfl) H5.out.2.1 A0 p.length c0 p (by rfl) rfl (HH.out.2.1.fr H5.out.1.F (fun _ _ h => h)) (by have := HH.out.2.2.1; omega) H5.out.1.F.size ?_
  intro v6 w6 hO6 hf6 hat6
  have s6 := H5.out.1.fr hf6 (fun k hk => ⟨H5.out.2.1.base k hk.symm, (H5.out.2.2 k hk.symm).1, (H5.out.2.2 k hk.symm).2⟩)
  have far6 : ∀ k, v6.ownBlock = some k → ¬ Fp gh rh5 k ∧ ¬ Fp gg (.slice none 0 0) k := fun k hk => hat6.elim (fun h => H5.out.2.2 k (by rw [← h]; exact hk)) (fun ⟨q, h, hq⟩ => by
    rw [hk] at h
    cases h
    exact ⟨fun h => by have := H5.out.1.hh.lt _ h; omega, fun h => by have := H5.out.1.hg.lt _ h; omega⟩)
  have H6 := Aside0.mk (Pc.mk s6 hO6 far6)
  clear H5 hO6 hf6 hat6 s6 far6
  have b5 := B5.out
  go_wp2
  exact HH.out.2.2.2 _ _ rh5 v6 ⟨rfl, rfl⟩ rfl rfl rfl rfl rfl rfl rfl rfl H6.out
end Go.Proofs.Ytgnghgeljlaedaa.Sha
