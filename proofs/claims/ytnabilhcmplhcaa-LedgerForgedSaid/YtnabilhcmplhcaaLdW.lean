/-
  LedgerForged.
-/
import Derived.Test.YtnabilhcmplhcaaLgM4
import Derived.Test.YtnabilhcmplhcaaLdX
import Derived.Test.YtnabilhcmplhcaaLdA
set_option linter.unusedVariables false
set_option linter.unusedSimpArgs false
namespace Go.Proofs.Ytnabilhcmplhcaa.Sha
open Go.RowKit Go.Proofs.YtnabilhcmplhcaaW.PrintWords Go.Proofs.YtnabilhcmplhcaaW.PrintLast Go.Proofs.YtnabilhcmplhcaaW.PrintMore Go.Proofs.Ytnabilhcmplhcaa.Q Go.Proofs.Ytnabilhcmplhcaa.Fr Go.Proofs.Ytnabilhcmplhcaa.Oct
open Go.Maps Go.ChangeMaps
open Go.Proofs.Ytnabilhcmplhcaa.Open (okV)

set_option maxRecDepth 100000 in
theorem fm68 {a : Act} (h : Fm 68 a) : a = ⟨#[sl a 0, sl a 1, sl a 2, sl a 3, sl a 4, sl a 5, sl a 6, sl a 7, sl a 8, sl a 9, sl a 10, sl a 11, sl a 12, sl a 13, sl a 14, sl a 15, sl a 16, sl a 17, sl a 18, sl a 19, sl a 20, sl a 21, sl a 22, sl a 23, sl a 24, sl a 25, sl a 26, sl a 27, sl a 28, sl a 29, sl a 30, sl a 31, sl a 32, sl a 33, sl a 34, sl a 35, sl a 36, sl a 37, sl a 38, sl a 39, sl a 40, sl a 41, sl a 42, sl a 43, sl a 44, sl a 45, sl a 46, sl a 47, sl a 48, sl a 49, sl a 50, sl a 51, sl a 52, sl a 53, sl a 54, sl a 55, sl a 56, sl a 57, sl a 58, sl a 59, sl a 60, sl a 61, sl a 62, sl a 63, sl a 64, sl a 65, sl a 66, sl a 67], []⟩ := by
  obtain ⟨T, D⟩ := a
  obtain ⟨h1, h2⟩ := h
  obtain rfl : D = [] := h2
  obtain ⟨l⟩ := T
  have h1 : l.length = 68 := h1
  congr 2
  refine List.ext_getElem? fun i => ?_
  by_cases hi : i < 68
  · have hx : ∀ j, j < 68 → l[j]? = some (sl ⟨⟨l⟩, []⟩ j) := fun j hj => by
      have hl : j < l.length := by omega
      simp [sl, Array.getD_eq_getD_getElem?, List.getElem?_eq_getElem hl]
    rw [hx i hi]
    have : ∀ (s : Nat → Value) (i : Nat), i < 68 → ((List.range 68).map s)[i]? = some (s i) := fun s i hi => by simp [hi]
    exact (this _ i hi).symm
  · have h2 : ∀ (s : Nat → Value), ((List.range 68).map s)[i]? = none := fun s => by simp; omega
    exact (List.getElem?_eq_none (by omega)).trans (h2 _).symm
/-- What the loop keeps. -/
structure Kf (w W : World) (gb gr gl bm : Nat) (view turn : Int) (S : List Sn) : Prop where
  F : Fr (fun _ => False) w W
  hb : W.heap[gb]? = some (.cells #[.int .i64 view, .int .i64 turn] 28 (0, 0))
  hr : W.heap[gr]? = some (.cells #[.int .i64 2, .int .i64 1, .slice none 0 0, .slice none 0 0] 31 (0, 0))
  ld : ∃ D Bs, LdAt W w.heap.size gl bm D S Bs
theorem Kf.below {w W W' : World} {gb gr gl bm : Nat} {view turn : Int} {S : List Sn} (h : Kf w W gb gr gl bm view turn S) (hf : Fr (fun _ => False) W W') : Kf w W' gb gr gl bm view turn S := by
  obtain ⟨D, Bs, hl⟩ := h.ld
  exact ⟨h.F.trans hf (fun _ e => e.elim), hf.blk h.hb (fun e => e), hf.blk h.hr (fun e => e), D, Bs, hl.fr0 hf⟩
theorem Kf.note {w W W' : World} {gb gr gl bm : Nat} {view turn : Int} {S S' : List Sn} (h : Kf w W gb gr gl bm view turn S) {D : DataW Unit} {Bs : List Nat} (hl : LdAt W w.heap.size gl bm D S Bs) (hf : Fr (LF bm Bs) W W') {D' : DataW Unit} {Bs' : List Nat} (hl' : LdAt W' w.heap.size gl bm D' S' Bs') : Kf w W' gb gr gl bm view turn S' :=
  ⟨h.F.trans hf (fun k hk => .inr (hl.lf_ge hk)), hf.blk h.hb (LF.not hl h.hb (by decide)), hf.blk h.hr (LF.not hl h.hr (by decide)), D', Bs', hl'⟩
theorem at55 {w : World} {A : Option Addr} {l : List S55} {i : Nat} {x : S55} (h : Kd.C k55 w A l.length l) (hx : l[i]? = some x) : ∃ ad A1 c1, A = some ad ∧ w.cell? (ad.add (i * 2)) = some (.int .i64 x.f0) ∧ w.cell? ⟨(ad.add (i * 2)).block, (ad.add (i * 2)).off + 1, none⟩ = some (.slice A1 x.f1.length c1) ∧ x.f1.length ≤ c1 ∧ Rd w A1 x.f1 := by
  have hlt := (List.getElem?_eq_some_iff.1 hx).1
  obtain ⟨ad, A1, c1, rfl, h1, h2, h3, h4⟩ := at_T55 h (i : Int) (by omega) (by omega)
  have e : rd_T55 l (i : Int) = x := by simp [rd_T55, List.getD_eq_getElem?_getD, hx]
  rw [e] at h1 h2 h3 h4
  exact ⟨ad, A1, c1, rfl, h1, h2, h3, Rd.of_C h4⟩
theorem steps_no {kind view turn slot c s : Int} {op sg : List Int} {S : List Sn} {v : Int × List Int} {S' : List Sn} {E : List Ev} (h : Steps kind view turn slot c s op sg S [] [v] S' E) (hn : vrA kind view turn slot (bodyA c s op sg) v.1 v.2 = false) : S' = S ∧ E = [] := by
  obtain ⟨S1, E1, h1, rfl, rfl⟩ := h
  rcases h1 with ⟨_, h2, h3⟩ | ⟨h, _⟩ | ⟨h, _⟩ | ⟨h, _⟩ | ⟨h, _⟩
  · exact ⟨h2, h3⟩
  all_goals (rw [hn] at h; cases h)
/-- A vote at a place where nothing was seen is no evidence. -/
theorem steps_free {kind view turn slot c s : Int} {op sg : List Int} {S : List Sn} {v : Int × List Int} {S' : List Sn} {E : List Ev} (h : Steps kind view turn slot c s op sg S [] [v] S' E) (hn : plK kind view turn slot v.1 ∉ S.map Sn.key) : E = [] := by
  obtain ⟨S1, E1, h1, rfl, rfl⟩ := h
  rcases h1 with ⟨_, _, h3⟩ | ⟨_, _, _, _, h3⟩ | ⟨_, _, _, _, h3⟩ | ⟨_, i, x, hi, hk, _⟩ | ⟨_, i, x, hi, hk, _⟩
  · exact h3
  · exact h3
  · exact h3
  · exact absurd (List.mem_map.2 ⟨x, List.mem_of_getElem? hi, hk⟩) hn
  · exact absurd (List.mem_map.2 ⟨x, List.mem_of_getElem? hi, hk⟩) hn
set_option maxHeartbeats 8000000 in
set_option maxRecDepth 100000 in
theorem roundWt (u : Nat → Value) (view turn slot : Int) (A : Option Addr) (cv : Nat) (l : List S55) (i : Nat) (x : S55) (hx : l[i]? = some x) (w W : World) (gb gr gl bm : Nat) (S : List Sn) (hC : Kd.C k55 w A l.length l) (hl : l.length ≤ 100) (hok : okV x) (hz : x.f1.length ≤ 140737488355327)
    (wv : (Lit.int .i64 view).wf = true) (wt : (Lit.int .i64 turn).wf = true) (wl : (Lit.int .i64 slot).wf = true) (H : Kf w W gb gr gl bm view turn S) (hvr : vrA 2 view turn slot (bodyA 2 1 [] []) x.f0 x.f1 = true)
    (Q : Exit → Act → World → Prop) (hQ : ∀ a' W', Fm 68 a' → sl a' 1 = .int .i64 slot → sl a' 3 = .pointer (some ⟨gb, 0, none⟩) → sl a' 7 = .pointer (some ⟨gl, 0, none⟩) → sl a' 8 = .pointer (some ⟨gr, 0, none⟩) → sl a' 28 = .slice A l.length cv → sl a' 29 = .int .i64 (l.length : Int) → sl a' 30 = .int .i64 ((i : Int) + 1) → Kf w W' gb gr gl bm view turn S → Q .normal a' W') :
    Code.wp Try.prog (bodyN Try.f7 0) Q ⟨#[u 0, .int .i64 slot, u 2, .pointer (some ⟨gb, 0, none⟩), u 4, u 5, u 6, .pointer (some ⟨gl, 0, none⟩), .pointer (some ⟨gr, 0, none⟩), u 9, u 10, u 11, u 12, u 13, u 14, u 15, u 16, u 17, u 18, u 19, u 20, u 21, u 22, u 23, u 24, u 25, u 26, u 27, .slice A l.length cv, .int .i64 (l.length : Int), .int .i64 (i : Int), u 31, u 32, u 33, u 34, u 35, u 36, u 37, u 38, u 39, u 40, u 41, u 42, u 43, u 44, u 45, u 46, u 47, u 48, u 49, u 50, u 51, u 52, u 53, u 54, u 55, u 56, u 57, u 58, u 59, u 60, u 61, u 62, u 63, u 64, u 65, u 66, u 67], []⟩ W := by
  obtain ⟨ad, A3, c3, rfl, x0, x1, hc3, hr3⟩ := at55 hC hx
  replace x0 := H.F.cell x0 (fun e => e)
  replace x1 := H.F.cell x1 (fun e => e)
  replace hr3 := hr3.lies H.F
  obtain ⟨m, hm⟩ : ∃ m, l.length = m := ⟨_, rfl⟩
  have hi : i < m := by rw [← hm]; exact (List.getElem?_eq_some_iff.1 hx).1
  rw [hm] at hl hQ ⊢
  have b0 : decide ((i : Int) < (m : Int)) = true := decide_eq_true (by omega)
  have b1 : (0 : Int) ≤ (i : Int) := by omega
  have b2 : (i : Int) < (m : Int) := by omega
  have b5 : wrap64 ((i : Int) + 1) = (i : Int) + 1 := by unfold wrap64; omega
  have B5 := Aside0.mk b5
  have HW := Aside0.mk (And.intro wv (And.intro wt (And.intro wl (And.intro hz (And.intro hok.2 hok.1)))))
  have HH := Aside0.mk (And.intro H (And.intro hr3 hQ))
  have HV := Aside0.mk hvr
  clear b5 hm H hr3 hQ wv wt wl hz hok hvr hC hx hl
  conv => arg 2; whnf
  go_wp2_with (first | ((with_reducible refine gate_dst (N := 10) rfl ?_); refine wpList_alloc_abs (by rfl) 55 (by rfl) (.agg Z2v) (by kernel_rfl) ?_; intro w2 hb2 hs2 hg2) | ((with_reducible refine gate_store (p := 10) rfl ?_); refine Aside0.out ?_))
  refine ⟨?_⟩
  refine wpList_store_abs (by rfl) 55 _ _ (by rfl) W.heap.size #[.int .i64 x.f0, .slice A3 x.f1.length c3] (by rfl) (by rfl) 55 Z2v hg2 (by kernel_rfl) (by rfl) (by simp [Value.oneCell']) ?_
  intro w3 hf3 hs3 hg3
  have F3 : Fr (fun _ => False) W w3 := (Fr.of_below hb2 (fun _ => False)).trans hf3 (fun k hk => .inr (by omega))
  have H3 := Aside0.mk (And.intro (HH.out.1.below F3) (And.intro (HH.out.2.1.lies F3) hg3))
  clear hb2 hs2 hg2 hf3 hs3 hg3 F3 x0 x1
  go_wp2_with (fail)
  have hS : ∀ w', Fr (fun _ => False) w3 w' → w'.cell? ⟨gb, 0, none⟩ = some (.int .i64 view) ∧ w'.cell? ⟨gb, 1, none⟩ = some (.int .i64 turn) ∧ w'.cell? ⟨gr, 0, none⟩ = some (.int .i64 2) ∧ w'.cell? ⟨gr, 1, none⟩ = some (.int .i64 1) ∧ w'.cell? ⟨gr, 2, none⟩ = some (.slice none 0 0) ∧ w'.cell? ⟨gr, 3, none⟩ = some (.slice none 0 0) ∧ w'.cell? ⟨W.heap.size, 0, none⟩ = some (.int .i64 x.f0) ∧ w'.cell? ⟨W.heap.size, 1, none⟩ = some (.slice A3 x.f1.length c3) := fun w' hf => by
    have h1 := hf.blk H3.out.1.hb (fun h => h)
    have h2 := hf.blk H3.out.1.hr (fun h => h)
    have h3 := hf.blk H3.out.2.2 (fun h => h)
    simp [World.cell?, h1, h2, h3]
  have hs0 := hS _ (Fr.refl _ _)
  have HS := Aside0.mk hS
  clear hS
  refine wp_region_noPanic ?_
  refine wp_region_held_drew (S := (fun w' => w'.cell? ⟨gb, 0, none⟩ = some (.int .i64 view) ∧ w'.cell? ⟨gb, 1, none⟩ = some (.int .i64 turn) ∧ w'.cell? ⟨gr, 0, none⟩ = some (.int .i64 2) ∧ w'.cell? ⟨gr, 1, none⟩ = some (.int .i64 1) ∧ w'.cell? ⟨gr, 2, none⟩ = some (.slice none 0 0) ∧ w'.cell? ⟨gr, 3, none⟩ = some (.slice none 0 0) ∧ w'.cell? ⟨W.heap.size, 0, none⟩ = some (.int .i64 x.f0) ∧ w'.cell? ⟨W.heap.size, 1, none⟩ = some (.slice A3 x.f1.length c3))) (by kernel_rfl) hs0 (fun hHeld => ?_)
  refine wpAnyH_take (i := 0) (oi := ⟨some 34, _, _, _, _, _⟩) (v := (.agg #[.int .i64 view, .int .i64 turn])) rfl (by kernel_rfl) (by kernel_rfl) (by kernel_rfl) (fun _ _ _ h => h) (Or.inl ⟨by rfl, by (intro w' hSw; (try dsimp only at hSw); go_simp)⟩) (by assumption) ?_
  try simp only [Act.put, List.setIfInBounds_toArray, List.set_cons_zero, List.set_cons_succ]
  refine wpAnyH_take (i := 1) (oi := ⟨some 35, _, _, _, _, _⟩) (v := (.int .i64 slot)) rfl (by kernel_rfl) (by kernel_rfl) (by kernel_rfl) (fun _ _ _ h => h) (Or.inl ⟨by rfl, by (intro w' hSw; (try dsimp only at hSw); go_simp)⟩) (by assumption) ?_
  try simp only [Act.put, List.setIfInBounds_toArray, List.set_cons_zero, List.set_cons_succ]
  refine wpAnyH_take (i := 2) (oi := ⟨some 36, _, _, _, _, _⟩) (v := (.agg #[.int .i64 2, .int .i64 1, .slice none 0 0, .slice none 0 0])) rfl (by kernel_rfl) (by kernel_rfl) (by kernel_rfl) (fun _ _ _ h => h) (Or.inl ⟨by rfl, by (intro w' hSw; (try dsimp only at hSw); go_simp)⟩) (by assumption) ?_
  try simp only [Act.put, List.setIfInBounds_toArray, List.set_cons_zero, List.set_cons_succ]
  refine wpAnyH_take (i := 4) (oi := ⟨some 38, _, _, _, _, _⟩) (v := (.agg #[.int .i64 x.f0, .slice A3 x.f1.length c3])) rfl (by kernel_rfl) (by kernel_rfl) (by kernel_rfl) (fun _ _ _ h => h) (Or.inl ⟨by rfl, by (intro w' hSw; (try dsimp only at hSw); go_simp)⟩) (by assumption) ?_
  try simp only [Act.put, List.setIfInBounds_toArray, List.set_cons_zero, List.set_cons_succ]
  refine wpAnyH_ready (rs := [3]) (by kernel_rfl) (by simp) ?_
  refine AllReadyH.cons (o := ⟨some 37, _, _, _, _, _⟩) rfl (fun K hK => ?_) AllReadyH.nil
  go_simp
  go_at_call 21
  refine (body_calls 2 1 none 0 [] none 0 [] w3.drew (Rd.nil _ _) (Nat.le_refl _) (Rd.nil _ _) (Nat.le_refl _) (by decide)).mono ?_
  rintro e w4 ⟨Ab, cb, rfl, hcb, hO4, hb4⟩
  have f4 : Fr (fun _ => False) w3 w4 := (Fr.refl (fun _ => False) w3).of_drew.then_below hb4
  have hs4 := HS.out _ f4
  have H4 := Aside0.mk (And.intro f4 (QB.rd (q_of_own hO4)))
  clear hO4 hb4 f4
  refine hK.out _ _ hs4 (fun hHeld => ?_)
  try simp only [Act.put, List.setIfInBounds_toArray, List.set_cons_zero, List.set_cons_succ]
  refine wpAnyH_ready (rs := [5]) (by kernel_rfl) (by simp) ?_
  refine AllReadyH.cons (o := ⟨some 39, _, _, _, _, _⟩) rfl (fun K hK => ?_) AllReadyH.nil
  go_simp
  go_at_call 20
  have hrc := right_calls 2 view turn slot Ab cb (bodyA 2 1 [] []) x.f0 A3 c3 x.f1 w4 H4.out.2 hcb (by have := bodyA_len 2 1 [] []; simp only [List.length_nil] at this; omega) (H3.out.2.1.lies H4.out.1) hc3 (by have := HW.out.2.2.2.1; omega) HW.out.2.2.2.2.1
  rw [HV.out] at hrc
  refine hrc.mono ?_
  clear hrc
  rintro e w5 ⟨rfl, hb5⟩
  have f5 : Fr (fun _ => False) w3 w5 := H4.out.1.then_below hb5
  have hs5 := HS.out _ f5
  refine hK.out _ _ hs5 (fun hHeld => ?_)
  try simp only [Act.put, List.setIfInBounds_toArray, List.set_cons_zero, List.set_cons_succ]
  refine wpAnyH_done (by kernel_rfl) ?_ _
  refine NoPanic.normal ?_
  have H5 := Aside0.mk (And.intro (H3.out.1.below f5) (And.intro (H3.out.2.1.lies f5) f5))
  clear hs0 hs4 hHeld hb5 H4 f5
  clear hs5
  have b5 := B5.out
  go_wp2
  exact HH.out.2.2 _ _ ⟨rfl, rfl⟩ rfl rfl rfl rfl rfl rfl (congrArg (Value.int .i64) B5.out) H5.out.1
set_option maxHeartbeats 8000000 in
set_option maxRecDepth 100000 in
theorem roundWf (u : Nat → Value) (view turn slot : Int) (A : Option Addr) (cv : Nat) (l : List S55) (i : Nat) (x : S55) (hx : l[i]? = some x) (w W : World) (gb gr gl bm : Nat) (S : List Sn) (hC : Kd.C k55 w A l.length l) (hl : l.length ≤ 100) (hok : okV x) (hz : x.f1.length ≤ 140737488355327)
    (wv : (Lit.int .i64 view).wf = true) (wt : (Lit.int .i64 turn).wf = true) (wl : (Lit.int .i64 slot).wf = true) (H : Kf w W gb gr gl bm view turn S) (hvr : vrA 2 view turn slot (bodyA 2 1 [] []) x.f0 x.f1 = false)
    (Q : Exit → Act → World → Prop) (hQ : ∀ a' W', Fm 68 a' → sl a' 1 = .int .i64 slot → sl a' 3 = .pointer (some ⟨gb, 0, none⟩) → sl a' 7 = .pointer (some ⟨gl, 0, none⟩) → sl a' 8 = .pointer (some ⟨gr, 0, none⟩) → sl a' 28 = .slice A l.length cv → sl a' 29 = .int .i64 (l.length : Int) → sl a' 30 = .int .i64 ((i : Int) + 1) → Kf w W' gb gr gl bm view turn S → Q .normal a' W') :
    Code.wp Try.prog (bodyN Try.f7 0) Q ⟨#[u 0, .int .i64 slot, u 2, .pointer (some ⟨gb, 0, none⟩), u 4, u 5, u 6, .pointer (some ⟨gl, 0, none⟩), .pointer (some ⟨gr, 0, none⟩), u 9, u 10, u 11, u 12, u 13, u 14, u 15, u 16, u 17, u 18, u 19, u 20, u 21, u 22, u 23, u 24, u 25, u 26, u 27, .slice A l.length cv, .int .i64 (l.length : Int), .int .i64 (i : Int), u 31, u 32, u 33, u 34, u 35, u 36, u 37, u 38, u 39, u 40, u 41, u 42, u 43, u 44, u 45, u 46, u 47, u 48, u 49, u 50, u 51, u 52, u 53, u 54, u 55, u 56, u 57, u 58, u 59, u 60, u 61, u 62, u 63, u 64, u 65, u 66, u 67], []⟩ W := by
  obtain ⟨ad, A3, c3, rfl, x0, x1, hc3, hr3⟩ := at55 hC hx
  replace x0 := H.F.cell x0 (fun e => e)
  replace x1 := H.F.cell x1 (fun e => e)
  replace hr3 := hr3.lies H.F
  obtain ⟨m, hm⟩ : ∃ m, l.length = m := ⟨_, rfl⟩
  have hi : i < m := by rw [← hm]; exact (List.getElem?_eq_some_iff.1 hx).1
  rw [hm] at hl hQ ⊢
  have b0 : decide ((i : Int) < (m : Int)) = true := decide_eq_true (by omega)
  have b1 : (0 : Int) ≤ (i : Int) := by omega
  have b2 : (i : Int) < (m : Int) := by omega
  have b5 : wrap64 ((i : Int) + 1) = (i : Int) + 1 := by unfold wrap64; omega
  have B5 := Aside0.mk b5
  have HW := Aside0.mk (And.intro wv (And.intro wt (And.intro wl (And.intro hz (And.intro hok.2 hok.1)))))
  have HH := Aside0.mk (And.intro H (And.intro hr3 hQ))
  have HV := Aside0.mk hvr
  clear b5 hm H hr3 hQ wv wt wl hz hok hvr hC hx hl
  conv => arg 2; whnf
  go_wp2_with (first | ((with_reducible refine gate_dst (N := 10) rfl ?_); refine wpList_alloc_abs (by rfl) 55 (by rfl) (.agg Z2v) (by kernel_rfl) ?_; intro w2 hb2 hs2 hg2) | ((with_reducible refine gate_store (p := 10) rfl ?_); refine Aside0.out ?_))
  refine ⟨?_⟩
  refine wpList_store_abs (by rfl) 55 _ _ (by rfl) W.heap.size #[.int .i64 x.f0, .slice A3 x.f1.length c3] (by rfl) (by rfl) 55 Z2v hg2 (by kernel_rfl) (by rfl) (by simp [Value.oneCell']) ?_
  intro w3 hf3 hs3 hg3
  have F3 : Fr (fun _ => False) W w3 := (Fr.of_below hb2 (fun _ => False)).trans hf3 (fun k hk => .inr (by omega))
  have H3 := Aside0.mk (And.intro (HH.out.1.below F3) (And.intro (HH.out.2.1.lies F3) hg3))
  clear hb2 hs2 hg2 hf3 hs3 hg3 F3 x0 x1
  go_wp2_with (fail)
  have hS : ∀ w', Fr (fun _ => False) w3 w' → w'.cell? ⟨gb, 0, none⟩ = some (.int .i64 view) ∧ w'.cell? ⟨gb, 1, none⟩ = some (.int .i64 turn) ∧ w'.cell? ⟨gr, 0, none⟩ = some (.int .i64 2) ∧ w'.cell? ⟨gr, 1, none⟩ = some (.int .i64 1) ∧ w'.cell? ⟨gr, 2, none⟩ = some (.slice none 0 0) ∧ w'.cell? ⟨gr, 3, none⟩ = some (.slice none 0 0) ∧ w'.cell? ⟨W.heap.size, 0, none⟩ = some (.int .i64 x.f0) ∧ w'.cell? ⟨W.heap.size, 1, none⟩ = some (.slice A3 x.f1.length c3) := fun w' hf => by
    have h1 := hf.blk H3.out.1.hb (fun h => h)
    have h2 := hf.blk H3.out.1.hr (fun h => h)
    have h3 := hf.blk H3.out.2.2 (fun h => h)
    simp [World.cell?, h1, h2, h3]
  have hs0 := hS _ (Fr.refl _ _)
  have HS := Aside0.mk hS
  clear hS
  refine wp_region_noPanic ?_
  refine wp_region_held_drew (S := (fun w' => w'.cell? ⟨gb, 0, none⟩ = some (.int .i64 view) ∧ w'.cell? ⟨gb, 1, none⟩ = some (.int .i64 turn) ∧ w'.cell? ⟨gr, 0, none⟩ = some (.int .i64 2) ∧ w'.cell? ⟨gr, 1, none⟩ = some (.int .i64 1) ∧ w'.cell? ⟨gr, 2, none⟩ = some (.slice none 0 0) ∧ w'.cell? ⟨gr, 3, none⟩ = some (.slice none 0 0) ∧ w'.cell? ⟨W.heap.size, 0, none⟩ = some (.int .i64 x.f0) ∧ w'.cell? ⟨W.heap.size, 1, none⟩ = some (.slice A3 x.f1.length c3))) (by kernel_rfl) hs0 (fun hHeld => ?_)
  refine wpAnyH_take (i := 0) (oi := ⟨some 34, _, _, _, _, _⟩) (v := (.agg #[.int .i64 view, .int .i64 turn])) rfl (by kernel_rfl) (by kernel_rfl) (by kernel_rfl) (fun _ _ _ h => h) (Or.inl ⟨by rfl, by (intro w' hSw; (try dsimp only at hSw); go_simp)⟩) (by assumption) ?_
  try simp only [Act.put, List.setIfInBounds_toArray, List.set_cons_zero, List.set_cons_succ]
  refine wpAnyH_take (i := 1) (oi := ⟨some 35, _, _, _, _, _⟩) (v := (.int .i64 slot)) rfl (by kernel_rfl) (by kernel_rfl) (by kernel_rfl) (fun _ _ _ h => h) (Or.inl ⟨by rfl, by (intro w' hSw; (try dsimp only at hSw); go_simp)⟩) (by assumption) ?_
  try simp only [Act.put, List.setIfInBounds_toArray, List.set_cons_zero, List.set_cons_succ]
  refine wpAnyH_take (i := 2) (oi := ⟨some 36, _, _, _, _, _⟩) (v := (.agg #[.int .i64 2, .int .i64 1, .slice none 0 0, .slice none 0 0])) rfl (by kernel_rfl) (by kernel_rfl) (by kernel_rfl) (fun _ _ _ h => h) (Or.inl ⟨by rfl, by (intro w' hSw; (try dsimp only at hSw); go_simp)⟩) (by assumption) ?_
  try simp only [Act.put, List.setIfInBounds_toArray, List.set_cons_zero, List.set_cons_succ]
  refine wpAnyH_take (i := 4) (oi := ⟨some 38, _, _, _, _, _⟩) (v := (.agg #[.int .i64 x.f0, .slice A3 x.f1.length c3])) rfl (by kernel_rfl) (by kernel_rfl) (by kernel_rfl) (fun _ _ _ h => h) (Or.inl ⟨by rfl, by (intro w' hSw; (try dsimp only at hSw); go_simp)⟩) (by assumption) ?_
  try simp only [Act.put, List.setIfInBounds_toArray, List.set_cons_zero, List.set_cons_succ]
  refine wpAnyH_ready (rs := [3]) (by kernel_rfl) (by simp) ?_
  refine AllReadyH.cons (o := ⟨some 37, _, _, _, _, _⟩) rfl (fun K hK => ?_) AllReadyH.nil
  go_simp
  go_at_call 21
  refine (body_calls 2 1 none 0 [] none 0 [] w3.drew (Rd.nil _ _) (Nat.le_refl _) (Rd.nil _ _) (Nat.le_refl _) (by decide)).mono ?_
  rintro e w4 ⟨Ab, cb, rfl, hcb, hO4, hb4⟩
  have f4 : Fr (fun _ => False) w3 w4 := (Fr.refl (fun _ => False) w3).of_drew.then_below hb4
  have hs4 := HS.out _ f4
  have H4 := Aside0.mk (And.intro f4 (QB.rd (q_of_own hO4)))
  clear hO4 hb4 f4
  refine hK.out _ _ hs4 (fun hHeld => ?_)
  try simp only [Act.put, List.setIfInBounds_toArray, List.set_cons_zero, List.set_cons_succ]
  refine wpAnyH_ready (rs := [5]) (by kernel_rfl) (by simp) ?_
  refine AllReadyH.cons (o := ⟨some 39, _, _, _, _, _⟩) rfl (fun K hK => ?_) AllReadyH.nil
  go_simp
  go_at_call 20
  have hrc := right_calls 2 view turn slot Ab cb (bodyA 2 1 [] []) x.f0 A3 c3 x.f1 w4 H4.out.2 hcb (by have := bodyA_len 2 1 [] []; simp only [List.length_nil] at this; omega) (H3.out.2.1.lies H4.out.1) hc3 (by have := HW.out.2.2.2.1; omega) HW.out.2.2.2.2.1
  rw [HV.out] at hrc
  refine hrc.mono ?_
  clear hrc
  rintro e w5 ⟨rfl, hb5⟩
  have f5 : Fr (fun _ => False) w3 w5 := H4.out.1.then_below hb5
  have hs5 := HS.out _ f5
  refine hK.out _ _ hs5 (fun hHeld => ?_)
  try simp only [Act.put, List.setIfInBounds_toArray, List.set_cons_zero, List.set_cons_succ]
  refine wpAnyH_done (by kernel_rfl) ?_ _
  refine NoPanic.normal ?_
  have H5 := Aside0.mk (And.intro (H3.out.1.below f5) (And.intro (H3.out.2.1.lies f5) f5))
  clear hs0 hs4 hHeld hb5 H4 f5
  obtain ⟨D, Bs, hld⟩ := H5.out.1.ld
  have HD := Aside0.mk hld
  clear hld
  go_wp2_with (fail)
  refine wp_region_noPanic ?_
  refine wp_region_held_drew (S := (fun w' => w'.cell? ⟨gb, 0, none⟩ = some (.int .i64 view) ∧ w'.cell? ⟨gb, 1, none⟩ = some (.int .i64 turn) ∧ w'.cell? ⟨gr, 0, none⟩ = some (.int .i64 2) ∧ w'.cell? ⟨gr, 1, none⟩ = some (.int .i64 1) ∧ w'.cell? ⟨gr, 2, none⟩ = some (.slice none 0 0) ∧ w'.cell? ⟨gr, 3, none⟩ = some (.slice none 0 0) ∧ w'.cell? ⟨W.heap.size, 0, none⟩ = some (.int .i64 x.f0) ∧ w'.cell? ⟨W.heap.size, 1, none⟩ = some (.slice A3 x.f1.length c3))) (by kernel_rfl) hs5 (fun hHeld => ?_)
  refine wpAnyH_take (i := 0) (oi := ⟨some 40, _, _, _, _, _⟩) (v := (.pointer (some ⟨gl, 0, none⟩))) rfl (by kernel_rfl) (by kernel_rfl) (by kernel_rfl) (fun _ _ _ h => h) (Or.inl ⟨by rfl, by (intro w' hSw; (try dsimp only at hSw); go_simp)⟩) (by assumption) ?_
  try simp only [Act.put, List.setIfInBounds_toArray, List.set_cons_zero, List.set_cons_succ]
  refine wpAnyH_take (i := 1) (oi := ⟨some 41, _, _, _, _, _⟩) (v := (.agg #[.int .i64 view, .int .i64 turn])) rfl (by kernel_rfl) (by kernel_rfl) (by kernel_rfl) (fun _ _ _ h => h) (Or.inl ⟨by rfl, by (intro w' hSw; (try dsimp only at hSw); go_simp)⟩) (by assumption) ?_
  try simp only [Act.put, List.setIfInBounds_toArray, List.set_cons_zero, List.set_cons_succ]
  refine wpAnyH_take (i := 2) (oi := ⟨some 42, _, _, _, _, _⟩) (v := (.int .i64 slot)) rfl (by kernel_rfl) (by kernel_rfl) (by kernel_rfl) (fun _ _ _ h => h) (Or.inl ⟨by rfl, by (intro w' hSw; (try dsimp only at hSw); go_simp)⟩) (by assumption) ?_
  try simp only [Act.put, List.setIfInBounds_toArray, List.set_cons_zero, List.set_cons_succ]
  refine wpAnyH_take (i := 3) (oi := ⟨some 43, _, _, _, _, _⟩) (v := (.agg #[.int .i64 2, .int .i64 1, .slice none 0 0, .slice none 0 0])) rfl (by kernel_rfl) (by kernel_rfl) (by kernel_rfl) (fun _ _ _ h => h) (Or.inl ⟨by rfl, by (intro w' hSw; (try dsimp only at hSw); go_simp)⟩) (by assumption) ?_
  try simp only [Act.put, List.setIfInBounds_toArray, List.set_cons_zero, List.set_cons_succ]
  refine wpAnyH_take (i := 4) (oi := ⟨some 44, _, _, _, _, _⟩) (v := (.agg #[.int .i64 x.f0, .slice A3 x.f1.length c3])) rfl (by kernel_rfl) (by kernel_rfl) (by kernel_rfl) (fun _ _ _ h => h) (Or.inl ⟨by rfl, by (intro w' hSw; (try dsimp only at hSw); go_simp)⟩) (by assumption) ?_
  try simp only [Act.put, List.setIfInBounds_toArray, List.set_cons_zero, List.set_cons_succ]
  refine wpAnyH_ready (rs := [5]) (by kernel_rfl) (by simp) ?_
  refine AllReadyH.cons (o := ⟨some 45, _, _, _, _, _⟩) rfl (fun K hK => ?_) AllReadyH.nil
  go_simp
  have hg6 : (w5.alloc (.cells #[.int .i64 x.f0, .slice A3 x.f1.length c3] 55)).drew.heap[w5.heap.size]? = _ := heap_alloc_new w5 (.cells #[.int .i64 x.f0, .slice A3 x.f1.length c3] 55)
  have f6 : Fr (fun _ => False) w5 (w5.alloc (.cells #[.int .i64 x.f0, .slice A3 x.f1.length c3] 55)).drew := ((Fr.refl (fun _ => False) w5).alloc _).of_drew
  generalize (w5.alloc (.cells #[.int .i64 x.f0, .slice A3 x.f1.length c3] 55)).drew = w6 at *
  have hs6 := HS.out _ (H5.out.2.2.trans f6 (fun _ e => e.elim))
  have H6 := Aside0.mk (And.intro f6 (C_one hg6 hc3 (H5.out.2.1.lies f6) (by have := HW.out.2.2.2.1; omega)))
  clear hg6 f6
  refine hK.out _ _ hs6 (fun hHeld => ?_)
  try simp only [Act.put, List.setIfInBounds_toArray, List.set_cons_zero, List.set_cons_succ]
  refine wpAnyH_ready (rs := [6]) (by kernel_rfl) (by simp) ?_
  refine AllReadyH.cons (o := ⟨some 46, _, _, _, _, _⟩) rfl (fun K hK => ?_) AllReadyH.nil
  go_simp
  go_at_call 14
  refine (copyv_calls (some ⟨w5.heap.size, 0, none⟩) 1 [(⟨x.f0, x.f1⟩ : S55)] w6 H6.out.2 (Nat.le_refl _) (by simp) (fun y hy => by
    have : y = ⟨x.f0, x.f1⟩ := by simpa using hy
    subst this
    exact Nat.lt_of_le_of_lt HW.out.2.2.2.1 (by decide))).mono ?_
  rintro e w7 ⟨B7, d7, rfl, hd7, hvc7, hb7⟩
  have f7 : Fr (fun _ => False) w5 w7 := H6.out.1.then_below hb7
  have hs7 := HS.out _ (H5.out.2.2.trans f7 (fun _ e => e.elim))
  have H7 := Aside0.mk (And.intro f7 hvc7)
  clear f7 hvc7 hb7
  refine hK.out _ _ hs7 (fun hHeld => ?_)
  try simp only [Act.put, List.setIfInBounds_toArray, List.set_cons_zero, List.set_cons_succ]
  refine wpAnyH_ready (rs := [7]) (by kernel_rfl) (by simp) ?_
  refine AllReadyH.cons (o := ⟨some 47, _, _, _, _, _⟩) rfl (fun K hK => ?_) AllReadyH.nil
  go_simp
  go_at_call 12
  refine (note_calls 2 view turn slot 2 1 none 0 [] none 0 [] B7 d7 [(x.f0, x.f1)] (by simp) w7 w.heap.size gl bm _ _ _ (HD.out.fr0 H7.out.1) (H5.out.1.below H7.out.1).F.size (.inl rfl) (Rd.nil _ _) (Rd.nil _ _) H7.out.2 (by simp) (by simp) (by simp) Bys.nil Bys.nil (fun v hv => by
    have : v = (x.f0, x.f1) := by simpa using hv
    subst this
    exact ⟨HW.out.2.2.2.1, HW.out.2.2.2.2.1, HW.out.2.2.2.2.2⟩) HW.out.1 HW.out.2.1 HW.out.2.2.1).mono ?_
  rintro e w8 ⟨D8, S8, Bs8, x8, E8, rfl, L8, nb8, ev8, st8, f8⟩
  obtain ⟨rfl, rfl⟩ := steps_no st8 HV.out
  obtain ⟨A8, c8, rfl⟩ := evrow_len ev8
  have hL7 := HD.out.fr0 H7.out.1
  have K8 := (H5.out.1.below H7.out.1).note hL7 f8 L8
  have hg8 := f8.blk ((H5.out.2.2.trans H7.out.1 (fun _ e => e.elim)).blk H3.out.2.2 (fun e => e)) (LF.not hL7 ((H5.out.2.2.trans H7.out.1 (fun _ e => e.elim)).blk H3.out.2.2 (fun e => e)) (by decide))
  have hs8 : w8.cell? ⟨gb, 0, none⟩ = some (.int .i64 view) ∧ w8.cell? ⟨gb, 1, none⟩ = some (.int .i64 turn) ∧ w8.cell? ⟨gr, 0, none⟩ = some (.int .i64 2) ∧ w8.cell? ⟨gr, 1, none⟩ = some (.int .i64 1) ∧ w8.cell? ⟨gr, 2, none⟩ = some (.slice none 0 0) ∧ w8.cell? ⟨gr, 3, none⟩ = some (.slice none 0 0) ∧ w8.cell? ⟨W.heap.size, 0, none⟩ = some (.int .i64 x.f0) ∧ w8.cell? ⟨W.heap.size, 1, none⟩ = some (.slice A3 x.f1.length c3) := by
    have h1 := K8.hb
    have h2 := K8.hr
    simp [World.cell?, h1, h2, hg8]
  have H8 := Aside0.mk K8
  clear L8 nb8 ev8 st8 f8 K8 hg8 hL7
  refine hK.out _ _ hs8 (fun hHeld => ?_)
  try simp only [Act.put, List.setIfInBounds_toArray, List.set_cons_zero, List.set_cons_succ]
  refine wpAnyH_take (i := 8) (oi := ⟨some 48, _, _, _, _, _⟩) (v := (.int .i64 0)) rfl (by kernel_rfl) (by kernel_rfl) (by kernel_rfl) (fun _ _ _ h => h) (Or.inl ⟨by rfl, by (intro w' hSw; (try dsimp only at hSw); go_simp)⟩) (by assumption) ?_
  try simp only [Act.put, List.setIfInBounds_toArray, List.set_cons_zero, List.set_cons_succ]
  refine wpAnyH_take (i := 9) (oi := ⟨some 49, _, _, _, _, _⟩) (v := (.bool false)) rfl (by kernel_rfl) (by kernel_rfl) (by kernel_rfl) (fun _ _ _ h => h) (Or.inl ⟨by rfl, by (intro w' hSw; (try dsimp only at hSw); go_simp)⟩) (by assumption) ?_
  try simp only [Act.put, List.setIfInBounds_toArray, List.set_cons_zero, List.set_cons_succ]
  refine wpAnyH_done (by kernel_rfl) ?_ _
  refine NoPanic.normal ?_
  clear hs5 hs6 hs7 hs8 hHeld
  have b5 := B5.out
  go_wp2
  exact HH.out.2.2 _ _ ⟨rfl, rfl⟩ rfl rfl rfl rfl rfl rfl (congrArg (Value.int .i64) B5.out) H8.out
set_option maxHeartbeats 8000000 in
set_option maxRecDepth 100000 in
theorem exitFg (u : Nat → Value) (n : Nat) (w : World) (Q : Exit → Act → World → Prop) (hQ : ∀ a', Fm 68 a' → sl a' 1 = u 1 → sl a' 3 = u 3 → sl a' 7 = u 7 → sl a' 8 = u 8 → Q (.exit 0) a' w) :
    Code.wp Try.prog (bodyN Try.f7 0) Q ⟨#[u 0, u 1, u 2, u 3, u 4, u 5, u 6, u 7, u 8, u 9, u 10, u 11, u 12, u 13, u 14, u 15, u 16, u 17, u 18, u 19, u 20, u 21, u 22, u 23, u 24, u 25, u 26, u 27, u 28, .int .i64 (n : Int), .int .i64 (n : Int), u 31, u 32, u 33, u 34, u 35, u 36, u 37, u 38, u 39, u 40, u 41, u 42, u 43, u 44, u 45, u 46, u 47, u 48, u 49, u 50, u 51, u 52, u 53, u 54, u 55, u 56, u 57, u 58, u 59, u 60, u 61, u 62, u 63, u 64, u 65, u 66, u 67], []⟩ w := by
  have c0 : decide ((n : Int) < (n : Int)) = false := by simp
  have HQ := Aside0.mk hQ
  clear hQ
  conv => arg 2; whnf
  go_wp2
  exact HQ.out _ ⟨rfl, rfl⟩ rfl rfl rfl rfl
theorem loopFg (view turn slot : Int) (A : Option Addr) (cv : Nat) (l : List S55) (w : World) (gb gr gl bm : Nat) (S : List Sn) (hC : Kd.C k55 w A l.length l) (hl : l.length ≤ 100) (hok : ∀ x ∈ l, okV x) (hz : ∀ x ∈ l, x.f1.length ≤ 140737488355327)
    (wv : (Lit.int .i64 view).wf = true) (wt : (Lit.int .i64 turn).wf = true) (wl : (Lit.int .i64 slot).wf = true)
    (Q : Exit → Act → World → Prop) (hQ : ∀ a' W', Fm 68 a' → sl a' 1 = .int .i64 slot → sl a' 3 = .pointer (some ⟨gb, 0, none⟩) → sl a' 7 = .pointer (some ⟨gl, 0, none⟩) → sl a' 8 = .pointer (some ⟨gr, 0, none⟩) → Kf w W' gb gr gl bm view turn S → Q (.exit 0) a' W')
    (a : Act) (W : World) (h : Fm 68 a ∧ sl a 1 = .int .i64 slot ∧ sl a 3 = .pointer (some ⟨gb, 0, none⟩) ∧ sl a 7 = .pointer (some ⟨gl, 0, none⟩) ∧ sl a 8 = .pointer (some ⟨gr, 0, none⟩) ∧ sl a 28 = .slice A l.length cv ∧ sl a 29 = .int .i64 (l.length : Int) ∧ sl a 30 = .int .i64 0 ∧ Kf w W gb gr gl bm view turn S) : (Code.loop (bodyN Try.f7 0)).wp Try.prog Q a W := by
  refine wp_loop_up l.length (fun t a W => Fm 68 a ∧ sl a 1 = .int .i64 slot ∧ sl a 3 = .pointer (some ⟨gb, 0, none⟩) ∧ sl a 7 = .pointer (some ⟨gl, 0, none⟩) ∧ sl a 8 = .pointer (some ⟨gr, 0, none⟩) ∧ sl a 28 = .slice A l.length cv ∧ sl a 29 = .int .i64 (l.length : Int) ∧ sl a 30 = .int .i64 (t : Int) ∧ Kf w W gb gr gl bm view turn S) ?_ ?_
  · exact h
  rintro t a W ht ⟨hF, h1, h3, h7, h8, h28, h29, h30, hK⟩
  have ha := fm68 hF
  by_cases h64 : t = l.length
  · subst h64
    rw [h29, h30] at ha
    rw [ha]
    exact exitFg (sl a) _ W _ fun a' b0 b1 b3 b7 b8 => hQ _ _ b0 (b1.trans h1) (b3.trans h3) (b7.trans h7) (b8.trans h8) hK
  · rw [h1, h3, h7, h8, h28, h29, h30] at ha
    rw [ha]
    have hi : t < l.length := by omega
    have hx : l[t]? = some l[t] := List.getElem?_eq_getElem hi
    have hm := List.getElem_mem hi
    by_cases hvr : vrA 2 view turn slot (bodyA 2 1 [] []) l[t].f0 l[t].f1 = true
    · exact roundWt (sl a) view turn slot A cv l t _ hx w W gb gr gl bm S hC hl (hok _ hm) (hz _ hm) wv wt wl hK hvr _ (fun a' W' c0 c1 c3 c7 c8 c28 c29 c30 cK => ⟨by omega, c0, c1, c3, c7, c8, c28, c29, by rw [c30]; congr 1, cK⟩)
    · have hvr : vrA 2 view turn slot (bodyA 2 1 [] []) l[t].f0 l[t].f1 = false := by simpa using hvr
      exact roundWf (sl a) view turn slot A cv l t _ hx w W gb gr gl bm S hC hl (hok _ hm) (hz _ hm) wv wt wl hK hvr _ (fun a' W' c0 c1 c3 c7 c8 c28 c29 c30 cK => ⟨by omega, c0, c1, c3, c7, c8, c28, c29, by rw [c30]; congr 1, cK⟩)
theorem steps_put {kind view turn slot c s : Int} {op sg : List Int} {S : List Sn} {v : Int × List Int} {S' : List Sn} {E : List Ev} (h : Steps kind view turn slot c s op sg S [] [v] S' E) (hr : vrA kind view turn slot (bodyA c s op sg) v.1 v.2 = true) (hn : plK kind view turn slot v.1 ∉ S.map Sn.key) (hl : S.length < 8192) : S' = S ++ [⟨kind, view, turn, slot, v.1, c, s, op, sg, v.2, false⟩] ∧ E = [] := by
  obtain ⟨S1, E1, h1, rfl, rfl⟩ := h
  rcases h1 with ⟨h, _⟩ | ⟨_, _, _, h2, h3⟩ | ⟨_, _, h, _⟩ | ⟨_, i, x, hi, hk, _⟩ | ⟨_, i, x, hi, hk, _⟩
  · rw [hr] at h; cases h
  · exact ⟨h2, h3⟩
  · omega
  · exact absurd (List.mem_map.2 ⟨x, List.mem_of_getElem? hi, hk⟩) hn
  · exact absurd (List.mem_map.2 ⟨x, List.mem_of_getElem? hi, hk⟩) hn
set_option maxHeartbeats 8000000 in
set_option maxRecDepth 100000 in
theorem forged_row (view turn slot : Int) (A : Option Addr) (cv : Nat) (l : List S55) (w : World) (hC : Kd.C k55 w A l.length l) (hlc : l.length ≤ cv) (wv : (Lit.int .i64 view).wf = true) (wt : (Lit.int .i64 turn).wf = true) (wl : (Lit.int .i64 slot).wf = true) (hok : ∀ x ∈ l, okV x) (hz : ∀ x ∈ l, x.f1.length ≤ reachBytes) :
    Calls Try.prog 7 #[.agg #[.int .i64 view, .int .i64 turn], .int .i64 slot, .slice A l.length cv] w fun e w' => e = .returned (.bool true) ∧ Below w.heap.size w w' := by
  have HW := Aside0.mk (And.intro wv (And.intro wt (And.intro wl (And.intro hok (show ∀ x ∈ l, x.f1.length ≤ 140737488355327 from fun x hx => by have := hz x hx; unfold reachBytes at this; omega)))))
  have hb1 := below_alloc (Below.refl w.heap.size w) (.cells #[.int .i64 view, .int .i64 turn] 28)
  have hg1 := heap_alloc_new w (.cells #[.int .i64 view, .int .i64 turn] 28)
  have HC := Aside0.mk hC
  clear hC wv wt wl hok hz hlc
  go_enter Try.func7, Try.ntmps7
  go_wp2_with (fail)
  generalize w.alloc (.cells #[.int .i64 view, .int .i64 turn] 28) = w1 at *
  have H1 := Aside0.mk (And.intro hg1 (Fr.of_below hb1 (fun _ => False)))
  obtain ⟨gb, hgb⟩ : ∃ g, w.heap.size = g := ⟨_, rfl⟩
  rw [hgb] at H1
  simp only [hgb]
  clear hb1 hg1 hgb
  refine (lalive_calls w1).mono ?_
  rintro e w2 ⟨rfl, hb2⟩
  have H2 := Aside0.mk (And.intro ((Fr.of_below hb2 (fun _ => False)).blk H1.out.1 (fun e => e)) (H1.out.2.then_below hb2))
  clear hb2 H1
  by_cases hn : 100 < l.length
  · obtain ⟨m, hm⟩ : ∃ m, l.length = m := ⟨_, rfl⟩
    rw [hm] at hn ⊢
    have c0 : decide ((100 : Int) < (m : Int)) = true := decide_eq_true (by omega)
    have c1 : decide ((m : Int) > 100) = true := decide_eq_true (by omega)
    clear hm
    go_wp2
    go_ret
    exact ⟨rfl, frB H2.out.2⟩
  obtain ⟨m, hm⟩ : ∃ m, l.length = m := ⟨_, rfl⟩
  have hn2 : l.length ≤ 100 := by omega
  have HN := Aside0.mk (And.intro hm hn2)
  rw [hm] at hn hn2 ⊢
  have c0 : decide ((100 : Int) < (m : Int)) = false := decide_eq_false (by omega)
  have c1 : decide ((m : Int) > 100) = false := decide_eq_false (by omega)
  clear hn hn2 hm
  go_wp2_with (fail)
  refine (lnew_calls w2).mono ?_
  rintro e w3 ⟨gl, bm, rfl, hL3, hb3⟩
  have H3 := Aside0.mk (And.intro ((Fr.of_below hb3 (fun _ => False)).blk H2.out.1 (fun e => e)) (And.intro (H2.out.2.then_below hb3) (And.intro hL3 H2.out.2.size)))
  clear hL3 hb3 H2 c0 c1
  go_wp2_with (first | ((with_reducible refine gate_dst (N := 8) rfl ?_); refine wpList_alloc_abs (by rfl) 31 (by rfl) (.agg Z4q) (by kernel_rfl) ?_; intro w4 hb4 hs4 hg4) | ((with_reducible refine gate_store (p := 8) rfl ?_); refine Aside0.out ?_))
  refine ⟨?_⟩
  refine wpList_store_abs (by rfl) 31 _ _ (by rfl) w3.heap.size #[.int .i64 2, .int .i64 1, .slice none 0 0, .slice none 0 0] (by rfl) (by rfl) 31 Z4q hg4 (by kernel_rfl) (by rfl) (by simp [Value.oneCell']) ?_
  intro w5 hf5 hs5 hg5
  have F5 : Fr (fun _ => False) w3 w5 := (Fr.of_below hb4 (fun _ => False)).trans hf5 (fun k hk => .inr (by omega))
  have H5 := Aside0.mk (And.intro (F5.blk H3.out.1 (fun e => e)) (And.intro hg5 (And.intro (H3.out.2.1.trans F5 (fun _ e => e.elim)) (H3.out.2.2.1.fr0 F5))))
  have HD := Aside0.mk H5.out.2.2.2
  have HG := Aside0.mk (Nat.le_trans (Fr.of_below hb4 (fun _ => False)).size (Nat.le_refl _) |> fun (_ : w3.heap.size ≤ w4.heap.size) => show w2.heap.size ≤ w5.heap.size from by
    have := H3.out.2.2.1.own.lt
    have := H3.out.2.2.1.hbm
    have := F5.size
    omega)
  have HZ := Aside0.mk H3.out.2.2.2
  obtain ⟨gr, hgr⟩ : ∃ g, w3.heap.size = g := ⟨_, rfl⟩
  rw [hgr] at H5 ⊢
  clear H3 hb4 hs4 hg4 hf5 hs5 hg5 F5 hgr
  go_wp2_with (fail)
  have hS : ∀ w', Fr (fun _ => False) w5 w' → w'.cell? ⟨gb, 0, none⟩ = some (.int .i64 view) ∧ w'.cell? ⟨gb, 1, none⟩ = some (.int .i64 turn) ∧ w'.cell? ⟨gr, 0, none⟩ = some (.int .i64 2) ∧ w'.cell? ⟨gr, 1, none⟩ = some (.int .i64 1) ∧ w'.cell? ⟨gr, 2, none⟩ = some (.slice none 0 0) ∧ w'.cell? ⟨gr, 3, none⟩ = some (.slice none 0 0) := fun w' hf => by
    have h1 := hf.blk H5.out.1 (fun h => h)
    have h2 := hf.blk H5.out.2.1 (fun h => h)
    simp [World.cell?, h1, h2]
  have HA : ∀ w1, Fr (fun _ => False) w5 w1 → Calls Try.prog 19 #[.agg #[.int .i64 view, .int .i64 turn], .int .i64 slot, .agg #[.int .i64 0, .int .i64 0, .slice none 0 0, .slice none 0 0], .int .i64 5] w1 fun e w2 => ∃ A5 c5, e = .returned (.agg #[.int .i64 5, .slice A5 (vsA 2 view turn slot (bodyA 0 0 [] []) 5).length c5]) ∧ (w2.cell? ⟨gb, 0, none⟩ = some (.int .i64 view) ∧ w2.cell? ⟨gb, 1, none⟩ = some (.int .i64 turn) ∧ w2.cell? ⟨gr, 0, none⟩ = some (.int .i64 2) ∧ w2.cell? ⟨gr, 1, none⟩ = some (.int .i64 1) ∧ w2.cell? ⟨gr, 2, none⟩ = some (.slice none 0 0) ∧ w2.cell? ⟨gr, 3, none⟩ = some (.slice none 0 0)) ∧ Aside0 (Fr (fun _ => False) w5 w2 ∧ (vsA 2 view turn slot (bodyA 0 0 [] []) 5).length ≤ c5 ∧ Rd w2 A5 (vsA 2 view turn slot (bodyA 0 0 [] []) 5)) := by
    intro w1 hf1
    refine (made_calls view turn slot 0 0 none 0 [] none 0 [] 5 w1 (Rd.nil _ _) (Nat.le_refl _) (Rd.nil _ _) (Nat.le_refl _) (by decide)).mono ?_
    rintro e w2 ⟨A5, c5, rfl, hc5, hO, hb⟩
    have f2 := hf1.trans (Fr.of_below hb (fun _ => False)) (fun _ h => h.elim)
    exact ⟨A5, c5, rfl, hS _ f2, ⟨f2, hc5, QB.rd (q_of_own hO)⟩⟩
  have HS := Aside0.mk hS
  have hs0 := hS _ (Fr.refl _ _)
  have HA := Aside0.mk HA
  clear hS
  refine wp_region_held_drew (S := (fun w' => w'.cell? ⟨gb, 0, none⟩ = some (.int .i64 view) ∧ w'.cell? ⟨gb, 1, none⟩ = some (.int .i64 turn) ∧ w'.cell? ⟨gr, 0, none⟩ = some (.int .i64 2) ∧ w'.cell? ⟨gr, 1, none⟩ = some (.int .i64 1) ∧ w'.cell? ⟨gr, 2, none⟩ = some (.slice none 0 0) ∧ w'.cell? ⟨gr, 3, none⟩ = some (.slice none 0 0))) (by kernel_rfl) hs0 (fun hHeld => ?_)
  refine wpAnyH_take (i := 0) (oi := ⟨some 18, _, _, _, _, _⟩) (v := (.pointer (some ⟨gl, 0, none⟩))) rfl (by kernel_rfl) (by kernel_rfl) (by kernel_rfl) (fun _ _ _ h => h) (Or.inl ⟨by rfl, by (intro w' hSw; (try dsimp only at hSw); go_simp)⟩) (by assumption) ?_
  try simp only [Act.put, List.setIfInBounds_toArray, List.set_cons_zero, List.set_cons_succ]
  refine wpAnyH_take (i := 1) (oi := ⟨some 19, _, _, _, _, _⟩) (v := (.agg #[.int .i64 view, .int .i64 turn])) rfl (by kernel_rfl) (by kernel_rfl) (by kernel_rfl) (fun _ _ _ h => h) (Or.inl ⟨by rfl, by (intro w' hSw; (try dsimp only at hSw); go_simp)⟩) (by assumption) ?_
  try simp only [Act.put, List.setIfInBounds_toArray, List.set_cons_zero, List.set_cons_succ]
  refine wpAnyH_take (i := 2) (oi := ⟨some 20, _, _, _, _, _⟩) (v := (.int .i64 slot)) rfl (by kernel_rfl) (by kernel_rfl) (by kernel_rfl) (fun _ _ _ h => h) (Or.inl ⟨by rfl, by (intro w' hSw; (try dsimp only at hSw); go_simp)⟩) (by assumption) ?_
  try simp only [Act.put, List.setIfInBounds_toArray, List.set_cons_zero, List.set_cons_succ]
  refine wpAnyH_take (i := 3) (oi := ⟨some 21, _, _, _, _, _⟩) (v := (.agg #[.int .i64 0, .int .i64 0, .slice none 0 0, .slice none 0 0])) rfl (by kernel_rfl) (by kernel_rfl) (by kernel_rfl) (fun _ _ _ h => h) (Or.inl ⟨by rfl, by (intro w' hSw; (try dsimp only at hSw); go_simp)⟩) (by assumption) ?_
  try simp only [Act.put, List.setIfInBounds_toArray, List.set_cons_zero, List.set_cons_succ]
  refine wpAnyH_take (i := 4) (oi := ⟨some 22, _, _, _, _, _⟩) (v := (.agg #[.int .i64 view, .int .i64 turn])) rfl (by kernel_rfl) (by kernel_rfl) (by kernel_rfl) (fun _ _ _ h => h) (Or.inl ⟨by rfl, by (intro w' hSw; (try dsimp only at hSw); go_simp)⟩) (by assumption) ?_
  try simp only [Act.put, List.setIfInBounds_toArray, List.set_cons_zero, List.set_cons_succ]
  refine wpAnyH_take (i := 5) (oi := ⟨some 23, _, _, _, _, _⟩) (v := (.int .i64 slot)) rfl (by kernel_rfl) (by kernel_rfl) (by kernel_rfl) (fun _ _ _ h => h) (Or.inl ⟨by rfl, by (intro w' hSw; (try dsimp only at hSw); go_simp)⟩) (by assumption) ?_
  try simp only [Act.put, List.setIfInBounds_toArray, List.set_cons_zero, List.set_cons_succ]
  refine wpAnyH_take (i := 6) (oi := ⟨some 24, _, _, _, _, _⟩) (v := (.agg #[.int .i64 0, .int .i64 0, .slice none 0 0, .slice none 0 0])) rfl (by kernel_rfl) (by kernel_rfl) (by kernel_rfl) (fun _ _ _ h => h) (Or.inl ⟨by rfl, by (intro w' hSw; (try dsimp only at hSw); go_simp)⟩) (by assumption) ?_
  try simp only [Act.put, List.setIfInBounds_toArray, List.set_cons_zero, List.set_cons_succ]
  refine wpAnyH_ready (rs := [7]) (by kernel_rfl) (by simp) ?_
  refine AllReadyH.cons (o := ⟨some 25, _, _, _, _, _⟩) rfl (fun K hK => ?_) AllReadyH.nil
  go_simp
  go_at_call 19
  refine (HA.out _ (Fr.refl _ _).of_drew).mono ?_
  rintro e w6 ⟨A6, c6, rfl, hs1, H6⟩
  refine hK.out _ _ hs1 (fun hHeld => ?_)
  try simp only [Act.put, List.setIfInBounds_toArray, List.set_cons_zero, List.set_cons_succ]
  refine wpAnyH_ready (rs := [8]) (by kernel_rfl) (by simp) ?_
  refine AllReadyH.cons (o := ⟨some 26, _, _, _, _, _⟩) rfl (fun K hK => ?_) AllReadyH.nil
  go_simp
  have hgv := heap_alloc_new w6 (.cells #[.int .i64 5, .slice A6 (vsA 2 view turn slot (bodyA 0 0 [] []) 5).length c6] 55)
  have hbv := below_alloc (Below.refl w6.heap.size w6) (.cells #[.int .i64 5, .slice A6 (vsA 2 view turn slot (bodyA 0 0 [] []) 5).length c6] 55)
  generalize w6.alloc (.cells #[.int .i64 5, .slice A6 (vsA 2 view turn slot (bodyA 0 0 [] []) 5).length c6] 55) = w7 at *
  have fv := Fr.of_below hbv (fun _ => False)
  have F7 := H6.out.1.trans fv (fun _ h => h.elim)
  have hs2 := HS.out _ F7
  refine hK.out _ _ hs2 (fun hHeld => ?_)
  try simp only [Act.put, List.setIfInBounds_toArray, List.set_cons_zero, List.set_cons_succ]
  refine wpAnyH_ready (rs := [9]) (by kernel_rfl) (by simp) ?_
  refine AllReadyH.cons (o := ⟨some 27, _, _, _, _, _⟩) rfl (fun K hK => ?_) AllReadyH.nil
  go_simp
  go_at_call 12
  refine (note_calls 2 view turn slot 0 0 none 0 [] none 0 [] (some ⟨w6.heap.size, 0, none⟩) 1 [(5, vsA 2 view turn slot (bodyA 0 0 [] []) 5)] (by simp) w7 _ gl bm _ _ _ (HD.out.fr0 F7) (Nat.le_trans HG.out F7.size) (.inl rfl) (Rd.nil _ _) (Rd.nil _ _) (VC.one hgv H6.out.2.1 (H6.out.2.2.lies fv)) (by simp) (by simp) (by simp) Bys.nil Bys.nil (fun v hv => by
    have : v = (5, vsA 2 view turn slot (bodyA 0 0 [] []) 5) := by simpa using hv
    subst this
    exact ⟨Nat.le_trans (vsA_len 2 view turn slot _ 5) (by decide), vsA_bys 2 view turn slot _ 5, rfl⟩) HW.out.1 HW.out.2.1 HW.out.2.2.1).mono ?_
  rintro e w8 ⟨D8, S8, Bs8, x8, E8, rfl, L8, nb8, ev8, st8, f8⟩
  have hL7 := HD.out.fr0 F7
  have hgb8 := f8.blk (F7.blk H5.out.1 (fun e => e)) (LF.not hL7 (F7.blk H5.out.1 (fun e => e)) (by decide))
  have hgr8 := f8.blk (F7.blk H5.out.2.1 (fun e => e)) (LF.not hL7 (F7.blk H5.out.2.1 (fun e => e)) (by decide))
  have hs3 : w8.cell? ⟨gb, 0, none⟩ = some (.int .i64 view) ∧ w8.cell? ⟨gb, 1, none⟩ = some (.int .i64 turn) ∧ w8.cell? ⟨gr, 0, none⟩ = some (.int .i64 2) ∧ w8.cell? ⟨gr, 1, none⟩ = some (.int .i64 1) ∧ w8.cell? ⟨gr, 2, none⟩ = some (.slice none 0 0) ∧ w8.cell? ⟨gr, 3, none⟩ = some (.slice none 0 0) := by simp [World.cell?, hgb8, hgr8]
  refine hK.out _ _ hs3 (fun hHeld => ?_)
  try simp only [Act.put, List.setIfInBounds_toArray, List.set_cons_zero, List.set_cons_succ]
  refine wpAnyH_done (by kernel_rfl) ?_ _
  obtain ⟨rfl, rfl⟩ := steps_put st8 (vrA_made (show (0 : Int) ≤ 5 by decide) (show (5 : Int) ≤ 15 by decide)) (by simp) (by simp)
  have K8 : Kf w w8 gb gr gl bm view turn [(⟨2, view, turn, slot, 5, 0, 0, [], [], vsA 2 view turn slot (bodyA 0 0 [] []) 5, false⟩ : Sn)] := ⟨(H5.out.2.2.1.trans F7 (fun _ e => e.elim)).trans f8 (fun k hk => .inr (Nat.le_trans HZ.out (hL7.lf_ge hk))), hgb8, hgr8, _, _, L8.lower HZ.out⟩
  have HK := Aside0.mk K8
  clear HA HS hs0 hs1 hs2 hs3 hHeld H6 hgv hbv fv F7 hL7 L8 nb8 ev8 st8 f8 hgb8 hgr8 K8 H5 HD HG HZ
  try simp only [List.nil_append] at HK
  obtain ⟨S, hS⟩ : ∃ S, [(⟨2, view, turn, slot, 5, 0, 0, [], [], vsA 2 view turn slot (bodyA 0 0 [] []) 5, false⟩ : Sn)] = S := ⟨_, rfl⟩
  rw [hS] at HK
  go_wp2_with (fail)
  obtain ⟨hm, hn2⟩ := HN.out
  rw [← hm]
  refine loopFg view turn slot A cv l w gb gr gl bm S HC.out hn2 HW.out.2.2.2.1 HW.out.2.2.2.2 HW.out.1 HW.out.2.1 HW.out.2.2.1 _ ?_ _ _ ⟨⟨rfl, rfl⟩, rfl, rfl, rfl, rfl, rfl, rfl, rfl, HK.out⟩
  intro a' w9 hFm j1 j3 j7 j8 hK9
  rw [fm68 hFm, j1, j3, j7, j8]
  clear hFm j1 j3 j7 j8 HK hm hn2
  have H9 := Aside0.mk (And.intro hK9.hb (And.intro hK9.hr hK9))
  clear hK9
  go_wp2_with (fail)
  have hS : ∀ w', Fr (fun _ => False) w9 w' → w'.cell? ⟨gb, 0, none⟩ = some (.int .i64 view) ∧ w'.cell? ⟨gb, 1, none⟩ = some (.int .i64 turn) ∧ w'.cell? ⟨gr, 0, none⟩ = some (.int .i64 2) ∧ w'.cell? ⟨gr, 1, none⟩ = some (.int .i64 1) ∧ w'.cell? ⟨gr, 2, none⟩ = some (.slice none 0 0) ∧ w'.cell? ⟨gr, 3, none⟩ = some (.slice none 0 0) := fun w' hf => by
    have h1 := hf.blk H9.out.1 (fun h => h)
    have h2 := hf.blk H9.out.2.1 (fun h => h)
    simp [World.cell?, h1, h2]
  have HA : ∀ w1, Fr (fun _ => False) w9 w1 → Calls Try.prog 19 #[.agg #[.int .i64 view, .int .i64 turn], .int .i64 slot, .agg #[.int .i64 2, .int .i64 1, .slice none 0 0, .slice none 0 0], .int .i64 5] w1 fun e w2 => ∃ A5 c5, e = .returned (.agg #[.int .i64 5, .slice A5 (vsA 2 view turn slot (bodyA 2 1 [] []) 5).length c5]) ∧ (w2.cell? ⟨gb, 0, none⟩ = some (.int .i64 view) ∧ w2.cell? ⟨gb, 1, none⟩ = some (.int .i64 turn) ∧ w2.cell? ⟨gr, 0, none⟩ = some (.int .i64 2) ∧ w2.cell? ⟨gr, 1, none⟩ = some (.int .i64 1) ∧ w2.cell? ⟨gr, 2, none⟩ = some (.slice none 0 0) ∧ w2.cell? ⟨gr, 3, none⟩ = some (.slice none 0 0)) ∧ Aside0 (Fr (fun _ => False) w9 w2 ∧ (vsA 2 view turn slot (bodyA 2 1 [] []) 5).length ≤ c5 ∧ Rd w2 A5 (vsA 2 view turn slot (bodyA 2 1 [] []) 5)) := by
    intro w1 hf1
    refine (made_calls view turn slot 2 1 none 0 [] none 0 [] 5 w1 (Rd.nil _ _) (Nat.le_refl _) (Rd.nil _ _) (Nat.le_refl _) (by decide)).mono ?_
    rintro e w2 ⟨A5, c5, rfl, hc5, hO, hb⟩
    have f2 := hf1.trans (Fr.of_below hb (fun _ => False)) (fun _ h => h.elim)
    exact ⟨A5, c5, rfl, hS _ f2, ⟨f2, hc5, QB.rd (q_of_own hO)⟩⟩
  have HS := Aside0.mk hS
  have hs0 := hS _ (Fr.refl _ _)
  have HA := Aside0.mk HA
  clear hS
  have HLn : ∀ w1, Fr (fun _ => False) w9 w1 → Calls Try.prog 17 #[.pointer (some ⟨gl, 0, none⟩)] w1 fun e w2 => e = .returned (.int .i64 1) ∧ (w2.cell? ⟨gb, 0, none⟩ = some (.int .i64 view) ∧ w2.cell? ⟨gb, 1, none⟩ = some (.int .i64 turn) ∧ w2.cell? ⟨gr, 0, none⟩ = some (.int .i64 2) ∧ w2.cell? ⟨gr, 1, none⟩ = some (.int .i64 1) ∧ w2.cell? ⟨gr, 2, none⟩ = some (.slice none 0 0) ∧ w2.cell? ⟨gr, 3, none⟩ = some (.slice none 0 0)) ∧ Aside0 (Fr (fun _ => False) w9 w2) := by
    intro w1 hf1
    obtain ⟨D, Bs, hld⟩ := H9.out.2.2.ld
    refine (llen_calls w1 w.heap.size gl bm D S Bs (hld.fr0 hf1)).mono ?_
    rintro e w2 ⟨rfl, hb⟩
    have f2 := hf1.then_below hb
    exact ⟨by rw [← hS]; rfl, HS.out _ f2, ⟨f2⟩⟩
  have HLn := Aside0.mk HLn
  obtain ⟨D, Bs, hld⟩ := H9.out.2.2.ld
  have HD := Aside0.mk hld
  have HG := Aside0.mk H9.out.2.2.F.size
  clear hld
  refine wp_region_held_drew (S := (fun w' => w'.cell? ⟨gb, 0, none⟩ = some (.int .i64 view) ∧ w'.cell? ⟨gb, 1, none⟩ = some (.int .i64 turn) ∧ w'.cell? ⟨gr, 0, none⟩ = some (.int .i64 2) ∧ w'.cell? ⟨gr, 1, none⟩ = some (.int .i64 1) ∧ w'.cell? ⟨gr, 2, none⟩ = some (.slice none 0 0) ∧ w'.cell? ⟨gr, 3, none⟩ = some (.slice none 0 0))) (by kernel_rfl) hs0 (fun hHeld => ?_)
  refine wpAnyH_take (i := 0) (oi := ⟨some 51, _, _, _, _, _⟩) (v := (.pointer (some ⟨gl, 0, none⟩))) rfl (by kernel_rfl) (by kernel_rfl) (by kernel_rfl) (fun _ _ _ h => h) (Or.inl ⟨by rfl, by (intro w' hSw; (try dsimp only at hSw); go_simp)⟩) (by assumption) ?_
  try simp only [Act.put, List.setIfInBounds_toArray, List.set_cons_zero, List.set_cons_succ]
  refine wpAnyH_ready (rs := [1]) (by kernel_rfl) (by simp) ?_
  refine AllReadyH.cons (o := ⟨some 52, _, _, _, _, _⟩) rfl (fun K hK => ?_) AllReadyH.nil
  go_simp
  go_at_call 17
  refine (HLn.out _ (Fr.refl _ _).of_drew).mono ?_
  rintro e w19 ⟨rfl, hs9, H19⟩
  refine hK.out _ _ hs9 (fun hHeld => ?_)
  try simp only [Act.put, List.setIfInBounds_toArray, List.set_cons_zero, List.set_cons_succ]
  refine wpAnyH_take (i := 2) (oi := ⟨some 53, _, _, _, _, _⟩) (v := (.bool true)) rfl (by kernel_rfl) (by kernel_rfl) (by kernel_rfl) (fun _ _ _ h => h) (Or.inl ⟨by rfl, by (intro w' hSw; (try dsimp only at hSw); go_simp)⟩) (by assumption) ?_
  try simp only [Act.put, List.setIfInBounds_toArray, List.set_cons_zero, List.set_cons_succ]
  refine wpAnyH_take (i := 3) (oi := ⟨some 54, _, _, _, _, _⟩) (v := (.bool true)) rfl (by kernel_rfl) (by kernel_rfl) (by kernel_rfl) (fun _ _ _ h => h) (Or.inl ⟨by rfl, by (intro w' hSw; (try dsimp only at hSw); go_simp)⟩) (by assumption) ?_
  try simp only [Act.put, List.setIfInBounds_toArray, List.set_cons_zero, List.set_cons_succ]
  refine wpAnyH_take (i := 4) (oi := ⟨some 55, _, _, _, _, _⟩) (v := (.pointer (some ⟨gl, 0, none⟩))) rfl (by kernel_rfl) (by kernel_rfl) (by kernel_rfl) (fun _ _ _ h => h) (Or.inl ⟨by rfl, by (intro w' hSw; (try dsimp only at hSw); go_simp)⟩) (by assumption) ?_
  try simp only [Act.put, List.setIfInBounds_toArray, List.set_cons_zero, List.set_cons_succ]
  refine wpAnyH_take (i := 5) (oi := ⟨some 56, _, _, _, _, _⟩) (v := (.agg #[.int .i64 view, .int .i64 turn])) rfl (by kernel_rfl) (by kernel_rfl) (by kernel_rfl) (fun _ _ _ h => h) (Or.inl ⟨by rfl, by (intro w' hSw; (try dsimp only at hSw); go_simp)⟩) (by assumption) ?_
  try simp only [Act.put, List.setIfInBounds_toArray, List.set_cons_zero, List.set_cons_succ]
  refine wpAnyH_take (i := 6) (oi := ⟨some 57, _, _, _, _, _⟩) (v := (.int .i64 slot)) rfl (by kernel_rfl) (by kernel_rfl) (by kernel_rfl) (fun _ _ _ h => h) (Or.inl ⟨by rfl, by (intro w' hSw; (try dsimp only at hSw); go_simp)⟩) (by assumption) ?_
  try simp only [Act.put, List.setIfInBounds_toArray, List.set_cons_zero, List.set_cons_succ]
  refine wpAnyH_take (i := 7) (oi := ⟨some 58, _, _, _, _, _⟩) (v := (.agg #[.int .i64 2, .int .i64 1, .slice none 0 0, .slice none 0 0])) rfl (by kernel_rfl) (by kernel_rfl) (by kernel_rfl) (fun _ _ _ h => h) (Or.inl ⟨by rfl, by (intro w' hSw; (try dsimp only at hSw); go_simp)⟩) (by assumption) ?_
  try simp only [Act.put, List.setIfInBounds_toArray, List.set_cons_zero, List.set_cons_succ]
  refine wpAnyH_take (i := 8) (oi := ⟨some 59, _, _, _, _, _⟩) (v := (.agg #[.int .i64 view, .int .i64 turn])) rfl (by kernel_rfl) (by kernel_rfl) (by kernel_rfl) (fun _ _ _ h => h) (Or.inl ⟨by rfl, by (intro w' hSw; (try dsimp only at hSw); go_simp)⟩) (by assumption) ?_
  try simp only [Act.put, List.setIfInBounds_toArray, List.set_cons_zero, List.set_cons_succ]
  refine wpAnyH_take (i := 9) (oi := ⟨some 60, _, _, _, _, _⟩) (v := (.int .i64 slot)) rfl (by kernel_rfl) (by kernel_rfl) (by kernel_rfl) (fun _ _ _ h => h) (Or.inl ⟨by rfl, by (intro w' hSw; (try dsimp only at hSw); go_simp)⟩) (by assumption) ?_
  try simp only [Act.put, List.setIfInBounds_toArray, List.set_cons_zero, List.set_cons_succ]
  refine wpAnyH_take (i := 10) (oi := ⟨some 61, _, _, _, _, _⟩) (v := (.agg #[.int .i64 2, .int .i64 1, .slice none 0 0, .slice none 0 0])) rfl (by kernel_rfl) (by kernel_rfl) (by kernel_rfl) (fun _ _ _ h => h) (Or.inl ⟨by rfl, by (intro w' hSw; (try dsimp only at hSw); go_simp)⟩) (by assumption) ?_
  try simp only [Act.put, List.setIfInBounds_toArray, List.set_cons_zero, List.set_cons_succ]
  refine wpAnyH_ready (rs := [11]) (by kernel_rfl) (by simp) ?_
  refine AllReadyH.cons (o := ⟨some 62, _, _, _, _, _⟩) rfl (fun K hK => ?_) AllReadyH.nil
  go_simp
  go_at_call 19
  refine (HA.out _ H19.out).mono ?_
  rintro e w10 ⟨A10, c10, rfl, hs1, H10⟩
  refine hK.out _ _ hs1 (fun hHeld => ?_)
  try simp only [Act.put, List.setIfInBounds_toArray, List.set_cons_zero, List.set_cons_succ]
  refine wpAnyH_ready (rs := [12]) (by kernel_rfl) (by simp) ?_
  refine AllReadyH.cons (o := ⟨some 63, _, _, _, _, _⟩) rfl (fun K hK => ?_) AllReadyH.nil
  go_simp
  have hgv := heap_alloc_new w10 (.cells #[.int .i64 5, .slice A10 (vsA 2 view turn slot (bodyA 2 1 [] []) 5).length c10] 55)
  have hbv := below_alloc (Below.refl w10.heap.size w10) (.cells #[.int .i64 5, .slice A10 (vsA 2 view turn slot (bodyA 2 1 [] []) 5).length c10] 55)
  generalize w10.alloc (.cells #[.int .i64 5, .slice A10 (vsA 2 view turn slot (bodyA 2 1 [] []) 5).length c10] 55) = w11 at *
  have fv := Fr.of_below hbv (fun _ => False)
  have F11 := H10.out.1.trans fv (fun _ h => h.elim)
  have hs2 := HS.out _ F11
  refine hK.out _ _ hs2 (fun hHeld => ?_)
  try simp only [Act.put, List.setIfInBounds_toArray, List.set_cons_zero, List.set_cons_succ]
  refine wpAnyH_ready (rs := [13]) (by kernel_rfl) (by simp) ?_
  refine AllReadyH.cons (o := ⟨some 64, _, _, _, _, _⟩) rfl (fun K hK => ?_) AllReadyH.nil
  go_simp
  go_at_call 12
  refine (note_calls 3 view turn slot 2 1 none 0 [] none 0 [] (some ⟨w10.heap.size, 0, none⟩) 1 [(5, vsA 2 view turn slot (bodyA 2 1 [] []) 5)] (by simp) w11 _ gl bm _ _ _ (HD.out.fr0 F11) (Nat.le_trans HG.out F11.size) (.inr rfl) (Rd.nil _ _) (Rd.nil _ _) (VC.one hgv H10.out.2.1 (H10.out.2.2.lies fv)) (by simp) (by simp) (by simp) Bys.nil Bys.nil (fun v hv => by
    have : v = (5, vsA 2 view turn slot (bodyA 2 1 [] []) 5) := by simpa using hv
    subst this
    exact ⟨Nat.le_trans (vsA_len 2 view turn slot _ 5) (by decide), vsA_bys 2 view turn slot _ 5, rfl⟩) HW.out.1 HW.out.2.1 HW.out.2.2.1).mono ?_
  rintro e w12 ⟨D12, S12, Bs12, x12, E12, rfl, L12, nb12, ev12, st12, f12⟩
  have hL11 := HD.out.fr0 F11
  obtain rfl := steps_free st12 (by
    rw [← hS]
    intro e
    have e : plK 3 view turn slot 5 = plK 2 view turn slot 5 := List.mem_singleton.1 e
    have := (plK_inj (show (Lit.int .i64 3).wf = true from rfl) HW.out.1 HW.out.2.1 HW.out.2.2.1 rfl rfl HW.out.1 HW.out.2.1 HW.out.2.2.1 rfl e).1
    omega)
  obtain ⟨A12, c12, rfl⟩ := evrow_len ev12
  have hgb12 := f12.blk (F11.blk H9.out.1 (fun e => e)) (LF.not hL11 (F11.blk H9.out.1 (fun e => e)) (by decide))
  have hgr12 := f12.blk (F11.blk H9.out.2.1 (fun e => e)) (LF.not hL11 (F11.blk H9.out.2.1 (fun e => e)) (by decide))
  have hs3 : w12.cell? ⟨gb, 0, none⟩ = some (.int .i64 view) ∧ w12.cell? ⟨gb, 1, none⟩ = some (.int .i64 turn) ∧ w12.cell? ⟨gr, 0, none⟩ = some (.int .i64 2) ∧ w12.cell? ⟨gr, 1, none⟩ = some (.int .i64 1) ∧ w12.cell? ⟨gr, 2, none⟩ = some (.slice none 0 0) ∧ w12.cell? ⟨gr, 3, none⟩ = some (.slice none 0 0) := by simp [World.cell?, hgb12, hgr12]
  refine hK.out _ _ hs3 (fun hHeld => ?_)
  try simp only [Act.put, List.setIfInBounds_toArray, List.set_cons_zero, List.set_cons_succ]
  refine wpAnyH_take (i := 14) (oi := ⟨some 65, _, _, _, _, _⟩) (v := (.int .i64 0)) rfl (by kernel_rfl) (by kernel_rfl) (by kernel_rfl) (fun _ _ _ h => h) (Or.inl ⟨by rfl, by (intro w' hSw; (try dsimp only at hSw); go_simp)⟩) (by assumption) ?_
  try simp only [Act.put, List.setIfInBounds_toArray, List.set_cons_zero, List.set_cons_succ]
  refine wpAnyH_take (i := 15) (oi := ⟨some 66, _, _, _, _, _⟩) (v := (.bool true)) rfl (by kernel_rfl) (by kernel_rfl) (by kernel_rfl) (fun _ _ _ h => h) (Or.inl ⟨by rfl, by (intro w' hSw; (try dsimp only at hSw); go_simp)⟩) (by assumption) ?_
  try simp only [Act.put, List.setIfInBounds_toArray, List.set_cons_zero, List.set_cons_succ]
  refine wpAnyH_take (i := 16) (oi := ⟨some 67, _, _, _, _, _⟩) (v := (.bool true)) rfl (by kernel_rfl) (by kernel_rfl) (by kernel_rfl) (fun _ _ _ h => h) (Or.inl ⟨by rfl, by (intro w' hSw; (try dsimp only at hSw); go_simp)⟩) (by assumption) ?_
  try simp only [Act.put, List.setIfInBounds_toArray, List.set_cons_zero, List.set_cons_succ]
  refine wpAnyH_take (i := 17) (oi := ⟨some 6, _, _, _, _, _⟩) (v := (.bool true)) rfl (by kernel_rfl) (by kernel_rfl) (by kernel_rfl) (fun _ _ _ h => h) (Or.inl ⟨by rfl, by (intro w' hSw; (try dsimp only at hSw); go_simp)⟩) (by assumption) ?_
  try simp only [Act.put, List.setIfInBounds_toArray, List.set_cons_zero, List.set_cons_succ]
  refine wpAnyH_done (by kernel_rfl) ?_ _
  have HF := Aside0.mk ((H9.out.2.2.F.trans F11 (fun _ e => e.elim)).trans f12 (fun k hk => .inr (hL11.lf_ge hk)))
  clear HA HS HLn hs0 hs1 hs2 hs3 hs9 hHeld H10 H19 hgv hbv fv F11 hL11 L12 nb12 ev12 st12 f12 hgb12 hgr12 H9 HD HG
  go_wp2
  go_ret
  exact ⟨rfl, frB HF.out⟩
end Go.Proofs.Ytnabilhcmplhcaa.Sha
