/- Parts of the proof of LedgerRunsUptoSaid: laid together and cut down to what LedgerRuns' proof uses (parts: LdT, LgM4). -/
import Derived.Test.YtnabilhcmplhcaaP8
import Derived.Deep.RegionHeld3
import Derived.Test.YtnabilhcmplhcaaP2
section
/-
  ledger.Note: a round of its loop (all cases).
-/
set_option linter.unusedVariables false
set_option linter.unusedSimpArgs false
namespace Go.Proofs.Ytnabilhcmplhcaa.Sha
open Go.RowKit Go.Proofs.YtnabilhcmplhcaaW.PrintWords Go.Proofs.YtnabilhcmplhcaaW.PrintLast Go.Proofs.YtnabilhcmplhcaaW.PrintMore Go.Proofs.Ytnabilhcmplhcaa.Q Go.Proofs.Ytnabilhcmplhcaa.Fr Go.Proofs.Ytnabilhcmplhcaa.Oct
open Go.Maps Go.ChangeMaps

set_option maxHeartbeats 8000000 in
set_option maxRecDepth 100000 in
theorem roundNn (u : Nat → Value) (kind view turn slot c s : Int) (Ao : Option Addr) (co : Nat) (op : List Int) (As : Option Addr) (cs : Nat) (sg : List Int) (Ab : Option Addr) (cb : Nat) (Av : Option Addr) (cv : Nat) (V : List (Int × List Int)) (i : Nat) (si : Int) (t : List Int) (hv : V[i]? = some (si, t)) (hV : V.length ≤ 1048576) (w W : World) (base gl bm : Nat) (Bs0 : List Nat) (gb gr : Nat) (D : DataW Unit) (S : List Sn) (Bs : List Nat) (out : Value) (E : List Ev)
    (hcb : (bodyA c s op sg).length ≤ cb) (lo : op.length + sg.length ≤ 1048576) (hco : op.length ≤ co) (hcs : sg.length ≤ cs) (bo : Bys op) (bs : Bys sg) (lt : t.length ≤ 140737488355327) (bt : Bys t) (wk : (Lit.int .i64 kind).wf = true) (wv : (Lit.int .i64 view).wf = true) (wt : (Lit.int .i64 turn).wf = true) (wl : (Lit.int .i64 slot).wf = true) (wi : (Lit.int .i64 si).wf = true) (hE : E.length ≤ 1048576) (H : Nt w W base gl bm Bs0 view turn c s Ao co op As cs sg Ab Av V gb gr D S Bs out E)
    (Q : Exit → Act → World → Prop) (hQ : ∀ a' W' D' S' Bs' out' E', Fm 114 a' → sl a' 0 = .pointer (some ⟨gl, 0, none⟩) → sl a' 1 = .int .i64 kind → sl a' 3 = .int .i64 slot → sl a' 8 = .pointer (some ⟨gb, 0, none⟩) → sl a' 10 = .pointer (some ⟨gr, 0, none⟩) → sl a' 13 = out' → sl a' 14 = .slice Ab (bodyA c s op sg).length cb → sl a' 28 = .slice Av V.length cv → sl a' 29 = .int .i64 (V.length : Int) → sl a' 30 = .int .i64 ((i : Int) + 1) → Nt w W' base gl bm Bs0 view turn c s Ao co op As cs sg Ab Av V gb gr D' S' Bs' out' E' → Step kind view turn slot c s op sg S E (si, t) S' E' → Q .normal a' W') :
    Code.wp Try.prog (bodyN Try.f12 0) Q ⟨#[.pointer (some ⟨gl, 0, none⟩), .int .i64 kind, u 2, .int .i64 slot, u 4, u 5, u 6, u 7, .pointer (some ⟨gb, 0, none⟩), u 9, .pointer (some ⟨gr, 0, none⟩), u 11, u 12, out, .slice Ab (bodyA c s op sg).length cb, u 15, u 16, u 17, u 18, u 19, u 20, u 21, u 22, u 23, u 24, u 25, u 26, u 27, .slice Av V.length cv, .int .i64 (V.length : Int), .int .i64 (i : Int), u 31, u 32, u 33, u 34, u 35, u 36, u 37, u 38, u 39, u 40, u 41, u 42, u 43, u 44, u 45, u 46, u 47, u 48, u 49, u 50, u 51, u 52, u 53, u 54, u 55, u 56, u 57, u 58, u 59, u 60, u 61, u 62, u 63, u 64, u 65, u 66, u 67, u 68, u 69, u 70, u 71, u 72, u 73, u 74, u 75, u 76, u 77, u 78, u 79, u 80, u 81, u 82, u 83, u 84, u 85, u 86, u 87, u 88, u 89, u 90, u 91, u 92, u 93, u 94, u 95, u 96, u 97, u 98, u 99, u 100, u 101, u 102, u 103, u 104, u 105, u 106, u 107, u 108, u 109, u 110, u 111, u 112, u 113], []⟩ W := by
  obtain ⟨vb, hvr⟩ : ∃ b, vrA kind view turn slot (bodyA c s op sg) si t = b := ⟨_, rfl⟩
  obtain ⟨ad, A3, c3, rfl, _, x0, x1, hc3, hr3⟩ := H.vc i (si, t) hv
  simp only at x0 x1 hc3 hr3
  have hlb := bodyA_len c s op sg
  obtain ⟨m, hm⟩ : ∃ m, V.length = m := ⟨_, rfl⟩
  have hi : i < m := by rw [← hm]; exact (List.getElem?_eq_some_iff.1 hv).1
  rw [hm] at hV hQ ⊢
  have b0 : decide ((i : Int) < (m : Int)) = true := decide_eq_true (by omega)
  have b1 : (0 : Int) ≤ (i : Int) := by omega
  have b2 : (i : Int) < (m : Int) := by omega
  have b5 : wrap64 ((i : Int) + 1) = (i : Int) + 1 := by unfold wrap64; omega
  have B5 := Aside0.mk b5
  have HL := Aside0.mk (And.intro lo (And.intro lt (And.intro bt (And.intro hlb (And.intro bo (And.intro bs (And.intro hE hm)))))))
  have HW := Aside0.mk (And.intro wk (And.intro wv (And.intro wt (And.intro wl wi))))
  have HH := Aside0.mk (And.intro H (And.intro hr3 (And.intro hv hQ)))
  clear b5 hV hm H hr3 hQ hv lo lt bt hlb bo bs wk wv wt wl wi hE
  conv => arg 2; whnf
  go_wp2_with (first | ((with_reducible refine gate_dst (N := 16) rfl ?_); refine wpList_alloc_abs (by rfl) 55 (by rfl) (.agg Z2v) (by kernel_rfl) ?_; intro w2 hb2 hs2 hg2) | ((with_reducible refine gate_store (p := 16) rfl ?_); refine Aside0.out ?_))
  refine ⟨?_⟩
  refine wpList_store_abs (by rfl) 55 _ _ (by rfl) W.heap.size #[.int .i64 si, .slice A3 t.length c3] (by rfl) (by rfl) 55 Z2v hg2 (by kernel_rfl) (by rfl) (by simp [Value.oneCell']) ?_
  intro w3 hf3 hs3 hg3
  have F3 : Fr (fun _ => False) W w3 := (Fr.of_below hb2 (fun _ => False)).trans hf3 (fun k hk => .inr (by omega))
  have H3 := Aside0.mk (And.intro (HH.out.1.below F3) (And.intro (HH.out.2.1.lies F3) hg3))
  have y : w3.cell? ⟨W.heap.size, 0, none⟩ = some (.int .i64 si) ∧ w3.cell? ⟨W.heap.size, 1, none⟩ = some (.slice A3 t.length c3) := by simp [World.cell?, hg3]
  have q : w3.cell? ⟨gb, 0, none⟩ = some (.int .i64 view) ∧ w3.cell? ⟨gb, 1, none⟩ = some (.int .i64 turn) := by simp [World.cell?, H3.out.1.hb]
  obtain ⟨y0, y1⟩ := y
  obtain ⟨q0, q1⟩ := q
  have z3 := F3.size
  clear hb2 hs2 hg2 hf3 hs3 hg3 x0 x1 F3
  go_wp2_with (fail)
  have hrc := right_calls kind view turn slot Ab cb (bodyA c s op sg) si A3 c3 t w3 H3.out.1.rb hcb (by have := HL.out; omega) H3.out.2.1 hc3 (by have := HL.out; omega) HL.out.2.2.1
  rw [hvr] at hrc
  refine hrc.mono ?_
  clear hrc y0 y1 q0 q1
  rintro e w4 ⟨rfl, hb4⟩
  cases vb with
  | false =>
    have H4 := Aside0.mk (H3.out.1.below (Fr.of_below hb4 (fun _ => False)))
    clear H3 hb4
    have b5 := B5.out
    go_wp2
    exact HH.out.2.2.2 _ _ _ _ _ _ _ ⟨rfl, rfl⟩ rfl rfl rfl rfl rfl rfl rfl rfl rfl (congrArg (Value.int .i64) B5.out) H4.out (.inl ⟨hvr, rfl, rfl⟩)
  | true =>
    by_cases hh : Maps.has D (plK kind view turn slot si) = true
    · obtain ⟨x, hx, hxk⟩ := List.mem_map.1 ((HH.out.1.ld.has _).1 hh)
      obtain ⟨j, hj, rfl⟩ := List.getElem_of_mem hx
      have hSj : S[j]? = some S[j] := List.getElem?_eq_getElem hj
      have hBl : j < Bs.length := by rw [HH.out.1.ld.bl]; exact hj
      have hBj : Bs[j]? = some Bs[j] := List.getElem?_eq_getElem hBl
      obtain ⟨b, hb⟩ : ∃ b, Bs[j] = b := ⟨_, rfl⟩
      obtain ⟨x, hx'⟩ : ∃ y, S[j] = y := ⟨_, rfl⟩
      rw [hb] at hBj
      rw [hx'] at hSj hxk
      clear hb hx' hBl hx hj
      have hat : D.atKey (plK kind view turn slot si) zL = .lit (.int .i64 (b : Int)) := by rw [← hxk]; exact (HH.out.1.ld.at' j x b hSj hBj).1
      have f4 := Fr.of_below hb4 (fun _ => False)
      have H4 := Aside0.mk (And.intro (H3.out.1.below f4) (And.intro (H3.out.2.1.lies f4) (f4.blk H3.out.2.2 (fun h => h))))
      have y : w4.cell? ⟨W.heap.size, 0, none⟩ = some (.int .i64 si) ∧ w4.cell? ⟨W.heap.size, 1, none⟩ = some (.slice A3 t.length c3) := by simp [World.cell?, H4.out.2.2]
      have q : w4.cell? ⟨gb, 0, none⟩ = some (.int .i64 view) ∧ w4.cell? ⟨gb, 1, none⟩ = some (.int .i64 turn) := by simp [World.cell?, H4.out.1.hb]
      obtain ⟨y0, y1⟩ := y
      obtain ⟨q0, q1⟩ := q
      have z4 := f4.size
      clear H3 hb4 f4
      go_wp2_with (first | ((with_reducible refine gate_dst (N := 17) rfl ?_); refine wpList_alloc_abs (by rfl) 67 (by rfl) (.agg Z5p) (by kernel_rfl) ?_; intro w5 hb5 hs5 hg5) | ((with_reducible refine gate_store (p := 17) rfl ?_); refine Aside0.out ?_))
      refine ⟨?_⟩
      refine wpList_store_abs (by rfl) 67 _ _ (by rfl) w4.heap.size #[.int .i64 kind, .int .i64 view, .int .i64 turn, .int .i64 slot, .int .i64 si] (by rfl) (by rfl) 67 Z5p hg5 (by kernel_rfl) (by rfl) (by simp [Value.oneCell']) ?_
      intro w6 hf6 hs6 hg6
      have F6 : Fr (fun _ => False) w4 w6 := (Fr.of_below hb5 (fun _ => False)).trans hf6 (fun k hk => .inr (by omega))
      have H6 := Aside0.mk (And.intro (H4.out.1.below F6) (And.intro (H4.out.2.1.lies F6) (And.intro (F6.blk H4.out.2.2 (fun h => h)) hg6)))
      have hs6' : w6.cell? ⟨gl, 0, none⟩ = some (.map (some bm)) ∧ w6.cell? ⟨w4.heap.size, 0, none⟩ = some (.int .i64 kind) ∧ w6.cell? ⟨w4.heap.size, 1, none⟩ = some (.int .i64 view) ∧ w6.cell? ⟨w4.heap.size, 2, none⟩ = some (.int .i64 turn) ∧ w6.cell? ⟨w4.heap.size, 3, none⟩ = some (.int .i64 slot) ∧ w6.cell? ⟨w4.heap.size, 4, none⟩ = some (.int .i64 si) := by
        have h1 := H6.out.1.ld.head
        simp [World.cell?, h1, hg6]
      have hkl := plK_of HW.out.1 HW.out.2.1 HW.out.2.2.1 HW.out.2.2.2.1 HW.out.2.2.2.2
      clear H4 y0 y1 q0 q1 hb5 hs5 hg5 hf6 hs6 hg6 F6 z4 z3
      go_wp2_with (fail)
      refine wp_region_noPanic ?_
      refine wp_region_held_drew (S := (fun w' => w'.cell? ⟨gl, 0, none⟩ = some (.map (some bm)) ∧ w'.cell? ⟨w4.heap.size, 0, none⟩ = some (.int .i64 kind) ∧ w'.cell? ⟨w4.heap.size, 1, none⟩ = some (.int .i64 view) ∧ w'.cell? ⟨w4.heap.size, 2, none⟩ = some (.int .i64 turn) ∧ w'.cell? ⟨w4.heap.size, 3, none⟩ = some (.int .i64 slot) ∧ w'.cell? ⟨w4.heap.size, 4, none⟩ = some (.int .i64 si))) (by kernel_rfl) hs6' (fun hHeld => ?_)
      refine wpAnyH_take (i := 0) (oi := ⟨some 48, _, _, _, _, _⟩) (v := (.pointer (some ⟨gl, 0, none⟩))) rfl (by kernel_rfl) (by kernel_rfl) (by kernel_rfl) (fun _ _ _ h => h) (Or.inl ⟨by rfl, by (intro w' hSw; (try dsimp only at hSw); go_simp)⟩) (by assumption) ?_
      try simp only [Act.put, List.setIfInBounds_toArray, List.set_cons_zero, List.set_cons_succ]
      refine wpAnyH_take (i := 1) (oi := ⟨some 49, _, _, _, _, _⟩) (v := (.pointer (some ⟨gl, 0, none⟩))) rfl (by kernel_rfl) (by kernel_rfl) (by kernel_rfl) (fun _ _ _ h => h) (Or.inl ⟨by rfl, by (intro w' hSw; (try dsimp only at hSw); go_simp)⟩) (by assumption) ?_
      try simp only [Act.put, List.setIfInBounds_toArray, List.set_cons_zero, List.set_cons_succ]
      refine wpAnyH_take (i := 2) (oi := ⟨some 50, _, _, _, _, _⟩) (v := (.pointer (some ⟨gl, 0, none⟩))) rfl (by kernel_rfl) (by kernel_rfl) (by kernel_rfl) (fun _ _ _ h => h) (Or.inl ⟨by rfl, by (intro w' hSw; (try dsimp only at hSw); go_simp)⟩) (by assumption) ?_
      try simp only [Act.put, List.setIfInBounds_toArray, List.set_cons_zero, List.set_cons_succ]
      refine wpAnyH_take (i := 3) (oi := ⟨some 51, _, _, _, _, _⟩) (v := (.map (some bm))) rfl (by kernel_rfl) (by kernel_rfl) (by kernel_rfl) (fun _ _ _ h => h) (Or.inl ⟨by rfl, by (intro w' hSw; (try dsimp only at hSw); go_simp)⟩) (by assumption) ?_
      try simp only [Act.put, List.setIfInBounds_toArray, List.set_cons_zero, List.set_cons_succ]
      refine wpAnyH_take (i := 4) (oi := ⟨some 52, _, _, _, _, _⟩) (v := (.agg #[.int .i64 kind, .int .i64 view, .int .i64 turn, .int .i64 slot, .int .i64 si])) rfl (by kernel_rfl) (by kernel_rfl) (by kernel_rfl) (fun _ _ _ h => h) (Or.inl ⟨by rfl, by (intro w' hSw; (try dsimp only at hSw); go_simp)⟩) (by assumption) ?_
      try simp only [Act.put, List.setIfInBounds_toArray, List.set_cons_zero, List.set_cons_succ]
      refine wpAnyH_ready (rs := [5]) (by kernel_rfl) (by simp) ?_
      refine AllReadyH.cons (o := ⟨some 53, _, _, _, _, _⟩) rfl (fun K hK => ?_) AllReadyH.nil
      rw [if_pos (by rfl)]
      refine wp_lookup_abs _ _ (by rfl) bm S.length D (by rfl) H6.out.1.ld.own.drew (.agg #[.int .i64 kind, .int .i64 view, .int .i64 turn, .int .i64 slot, .int .i64 si]) (plK kind view turn slot si) (by rfl) hkl ?_
      intro vp ps hvp
      rw [hh]
      rw [hat] at hvp
      obtain rfl := ptrE_inv hvp
      refine hK.out _ _ hHeld (fun hHeld => ?_)
      try simp only [Act.put, List.setIfInBounds_toArray, List.set_cons_zero, List.set_cons_succ]
      refine wpAnyH_take (i := 6) (oi := ⟨some 47, _, _, _, _, _⟩) (v := (.tuple #[.pointer (some ⟨b, 0, none⟩), .bool true])) rfl (by kernel_rfl) (by kernel_rfl) (by kernel_rfl) (fun _ _ _ h => h) (Or.inl ⟨by rfl, by (intro w' hSw; (try dsimp only at hSw); go_simp)⟩) (by assumption) ?_
      try simp only [Act.put, List.setIfInBounds_toArray, List.set_cons_zero, List.set_cons_succ]
      refine wpAnyH_take (i := 7) (oi := ⟨some 54, _, _, _, _, _⟩) (v := (.pointer (some ⟨b, 0, none⟩))) rfl (by kernel_rfl) (by kernel_rfl) (by kernel_rfl) (fun _ _ _ h => h) (Or.inl ⟨by rfl, by (intro w' hSw; (try dsimp only at hSw); go_simp)⟩) (by assumption) ?_
      try simp only [Act.put, List.setIfInBounds_toArray, List.set_cons_zero, List.set_cons_succ]
      refine wpAnyH_take (i := 8) (oi := ⟨some 55, _, _, _, _, _⟩) (v := (.bool true)) rfl (by kernel_rfl) (by kernel_rfl) (by kernel_rfl) (fun _ _ _ h => h) (Or.inl ⟨by rfl, by (intro w' hSw; (try dsimp only at hSw); go_simp)⟩) (by assumption) ?_
      try simp only [Act.put, List.setIfInBounds_toArray, List.set_cons_zero, List.set_cons_succ]
      refine wpAnyH_take (i := 9) (oi := ⟨some 18, _, _, _, _, _⟩) (v := (.pointer (some ⟨b, 0, none⟩))) rfl (by kernel_rfl) (by kernel_rfl) (by kernel_rfl) (fun _ _ _ h => h) (Or.inl ⟨by rfl, by (intro w' hSw; (try dsimp only at hSw); go_simp)⟩) (by assumption) ?_
      try simp only [Act.put, List.setIfInBounds_toArray, List.set_cons_zero, List.set_cons_succ]
      refine wpAnyH_take (i := 10) (oi := ⟨some 19, _, _, _, _, _⟩) (v := (.bool true)) rfl (by kernel_rfl) (by kernel_rfl) (by kernel_rfl) (fun _ _ _ h => h) (Or.inl ⟨by rfl, by (intro w' hSw; (try dsimp only at hSw); go_simp)⟩) (by assumption) ?_
      try simp only [Act.put, List.setIfInBounds_toArray, List.set_cons_zero, List.set_cons_succ]
      refine wpAnyH_done (by kernel_rfl) ?_ _
      refine NoPanic.normal ?_
      clear hs6' hHeld hvp
      obtain ⟨w7, hw7⟩ : ∃ x, w6.drew = x := ⟨_, rfl⟩
      have F7 : Fr (fun _ => False) w6 w7 := by rw [← hw7]; exact (Fr.refl _ _).of_drew
      rw [hw7]
      have H7 := Aside0.mk (And.intro (H6.out.1.below F7) (And.intro (H6.out.2.1.lies F7) (And.intro (F7.blk H6.out.2.2.1 (fun h => h)) (F7.blk H6.out.2.2.2 (fun h => h)))))
      clear H6 F7 hw7
      by_cases htd : x.told = true
      · obtain ⟨X1, e1, X2, e2, X3, e3, hgx, ox1, ox2, ox3, hxle⟩ := (H7.out.1.ld.at' j x b hSj hBj).2
        have k5 : w7.cell? ⟨b, 5, none⟩ = some (.bool true) := by simp [World.cell?, hgx, snc, htd]
        go_wp2_with (fail)
        have b5 := B5.out
        go_wp2_with (fail)
        exact HH.out.2.2.2 _ _ _ _ _ _ _ ⟨rfl, rfl⟩ rfl rfl rfl rfl rfl rfl rfl rfl rfl (congrArg (Value.int .i64) B5.out) H7.out.1 (.inr (.inr (.inr (.inl ⟨hvr, j, x, hSj, hxk, .inl htd, rfl, rfl⟩))))
      · have htd : x.told = false := by simpa using htd
        obtain ⟨eb, hbe⟩ : ∃ b, decide (bodyA x.c x.s x.op x.sg = bodyA c s op sg) = b := ⟨_, rfl⟩
        have HBE := Aside0.mk hbe
        clear hbe
        obtain ⟨X1, e1, X2, e2, X3, e3, hgx, ox1, ox2, ox3, hxle⟩ := (H7.out.1.ld.at' j x b hSj hBj).2
        have k : w7.cell? ⟨b, 0, none⟩ = some (.int .i64 x.c) ∧ w7.cell? ⟨b, 1, none⟩ = some (.int .i64 x.s) ∧ w7.cell? ⟨b, 2, none⟩ = some (.slice X1 x.op.length e1) ∧ w7.cell? ⟨b, 3, none⟩ = some (.slice X2 x.sg.length e2) ∧ w7.cell? ⟨b, 4, none⟩ = some (.slice X3 x.t.length e3) ∧ w7.cell? ⟨b, 5, none⟩ = some (.bool false) := by simp [World.cell?, hgx, snc, htd]
        obtain ⟨k0, k1, k2, k3, k4, k5⟩ := k
        have hxo := H7.out.1.ld.ok x (List.mem_of_getElem? hSj)
        have hx2 : x.op.length ≤ e1 := by obtain ⟨_, _, e, h⟩ := ox1.slice; cases e; exact h
        have hx3 : x.sg.length ≤ e2 := by obtain ⟨_, _, e, h⟩ := ox2.slice; cases e; exact h
        have hx4 : x.t.length ≤ e3 := by obtain ⟨_, _, e, h⟩ := ox3.slice; cases e; exact h
        have HX := Aside0.mk (And.intro hgx (And.intro (QB.rd (q_of_own ox1)) (And.intro (QB.rd (q_of_own ox2)) (And.intro (QB.rd (q_of_own ox3)) hxo))))
        clear hgx ox1 ox2 ox3 hxo
        go_wp2_with (fail)
        refine (body_calls x.c x.s X1 e1 x.op X2 e2 x.sg w7 HX.out.2.1 hx2 HX.out.2.2.1 hx3 HX.out.2.2.2.2.lo).mono ?_
        rintro e w8 ⟨B0, y0, rfl, hy0, hO8, hb8⟩
        have f8 := Fr.of_below hb8 (fun _ => False)
        have H8 := Aside0.mk (And.intro (H7.out.1.below f8) (And.intro (H7.out.2.1.lies f8) (And.intro (f8.blk H7.out.2.2.1 (fun h => h)) (And.intro (f8.blk H7.out.2.2.2 (fun h => h)) (QB.rd (q_of_own hO8))))))
        have HX8 := Aside0.mk (And.intro (f8.blk HX.out.1 (fun h => h)) (And.intro (HX.out.2.1.lies f8) (And.intro (HX.out.2.2.1.lies f8) (And.intro (HX.out.2.2.2.1.lies f8) HX.out.2.2.2.2))))
        clear hO8 hb8 f8 H7 HX k0 k1 k2 k3 k4 k5
        go_wp2_with (fail)
        refine (bytes_Equal.calls B0 y0 (bodyA x.c x.s x.op x.sg) Ab cb (bodyA c s op sg) eb w8 (H8.out.2.2.2.2.C (by have := bodyA_len x.c x.s x.op x.sg; have := HX8.out.2.2.2.2.lo; omega)) hy0 (H8.out.1.rb.C (by have := HL.out; omega)) hcb (by rw [equal_f' _ _ (bodyA_bys HX8.out.2.2.2.2.bo HX8.out.2.2.2.2.bs) (bodyA_bys HL.out.2.2.2.2.1 HL.out.2.2.2.2.2.1), HBE.out])).mono ?_
        rintro e w9 ⟨rfl, hd9⟩
        have f9 := Fr.of_below hd9.below (fun _ => False)
        have H9 := Aside0.mk (And.intro (H8.out.1.below f9) (And.intro (H8.out.2.1.lies f9) (And.intro (f9.blk H8.out.2.2.1 (fun h => h)) (f9.blk H8.out.2.2.2.1 (fun h => h)))))
        have HX9 := Aside0.mk (And.intro (f9.blk HX8.out.1 (fun h => h)) (And.intro (HX8.out.2.1.lies f9) (And.intro (HX8.out.2.2.1.lies f9) (And.intro (HX8.out.2.2.2.1.lies f9) HX8.out.2.2.2.2))))
        clear hd9 f9 H8 HX8
        cases eb with
        | true =>
          go_wp2_with (fail)
          have b5 := B5.out
          go_wp2_with (fail)
          exact HH.out.2.2.2 _ _ _ _ _ _ _ ⟨rfl, rfl⟩ rfl rfl rfl rfl rfl rfl rfl rfl rfl (congrArg (Value.int .i64) B5.out) H9.out.1 (.inr (.inr (.inr (.inl ⟨hvr, j, x, hSj, hxk, .inr (of_decide_eq_true HBE.out), rfl, rfl⟩))))
        | false =>
          have k5 : w9.cell? ⟨b, 5, none⟩ = some (.bool false) := by simp [World.cell?, HX9.out.1, snc, htd]
          have fz5 := frozenV HX9.out.1 5
          have hf10 : Fr (fun k => k = b) w9 (w9.setCell ⟨b, 5, none⟩ (.bool true)) := (Fr.refl (fun k => k = b) w9).setCell (.inl rfl) _
          have hld10 := H9.out.1.ld.tell j x b hSj hBj
          have hg10 := set_told HX9.out.1
          have hmem : LF bm Bs b := .inr (List.mem_of_getElem? hBj)
          have HT := Aside0.mk (And.intro hf10 (And.intro hld10 (And.intro hg10 hmem)))
          clear hf10 hld10 hg10 hmem
          go_wp2_with (fail)
          clear k5 fz5
          generalize w9.setCell ⟨b, 5, none⟩ (.bool true) = w10 at *
          have H10 := Aside0.mk (H9.out.1.step (HT.out.1.mono (fun k e => by rw [e]; exact HT.out.2.2.2)) HT.out.2.1 (fun b hb => .inl hb))
          have hfl : Fr (LF bm Bs) w9 w10 := HT.out.1.mono (fun k e => by rw [e]; exact HT.out.2.2.2)
          have hpk := HX9.out.2.2.2.2
          have hpl := plK_inj hpk.wk hpk.wv hpk.wt hpk.wl hpk.wi HW.out.1 HW.out.2.1 HW.out.2.2.1 HW.out.2.2.2.1 HW.out.2.2.2.2 hxk
          have hgp : w10.heap[w4.heap.size]? = some (.cells #[.int .i64 x.kind, .int .i64 x.view, .int .i64 x.turn, .int .i64 x.slot, .int .i64 x.signer] 67 (0, 0)) := by
            rw [hpl.1, hpl.2.1, hpl.2.2.1, hpl.2.2.2.1, hpl.2.2.2.2]
            exact hfl.blk H9.out.2.2.2 (LF.not H9.out.1.ld H9.out.2.2.2 (by decide))
          have hgv := hfl.blk H9.out.2.2.1 (LF.not H9.out.1.ld H9.out.2.2.1 (by decide))
          have HR := Aside0.mk (And.intro (H9.out.1.ld.rd H9.out.2.1 hfl) (And.intro (H9.out.1.ld.rd HX9.out.2.1 hfl) (And.intro (H9.out.1.ld.rd HX9.out.2.2.1 hfl) (H9.out.1.ld.rd HX9.out.2.2.2.1 hfl))))
          have HG := Aside0.mk (And.intro hgp (And.intro hgv (And.intro HT.out.2.2.1 hpk)))
          clear hfl hpk hpl hgp hgv HT H9 HX9
          have hS : ∀ w', Fr (fun _ => False) w10 w' → w'.cell? ⟨w4.heap.size, 0, none⟩ = some (.int .i64 x.kind) ∧ w'.cell? ⟨w4.heap.size, 1, none⟩ = some (.int .i64 x.view) ∧ w'.cell? ⟨w4.heap.size, 2, none⟩ = some (.int .i64 x.turn) ∧ w'.cell? ⟨w4.heap.size, 3, none⟩ = some (.int .i64 x.slot) ∧ w'.cell? ⟨w4.heap.size, 4, none⟩ = some (.int .i64 x.signer) ∧ w'.cell? ⟨b, 0, none⟩ = some (.int .i64 x.c) ∧ w'.cell? ⟨b, 1, none⟩ = some (.int .i64 x.s) ∧ w'.cell? ⟨b, 2, none⟩ = some (.slice X1 x.op.length e1) ∧ w'.cell? ⟨b, 3, none⟩ = some (.slice X2 x.sg.length e2) ∧ w'.cell? ⟨b, 4, none⟩ = some (.slice X3 x.t.length e3) ∧ w'.cell? ⟨gr, 0, none⟩ = some (.int .i64 c) ∧ w'.cell? ⟨gr, 1, none⟩ = some (.int .i64 s) ∧ w'.cell? ⟨gr, 2, none⟩ = some (.slice Ao op.length co) ∧ w'.cell? ⟨gr, 3, none⟩ = some (.slice As sg.length cs) ∧ w'.cell? ⟨W.heap.size, 0, none⟩ = some (.int .i64 si) ∧ w'.cell? ⟨W.heap.size, 1, none⟩ = some (.slice A3 t.length c3) := fun w' hf => by
            have h1 := hf.blk HG.out.1 (fun h => h)
            have h2 := hf.blk HG.out.2.2.1 (fun h => h)
            have h3 := hf.blk H10.out.hr (fun h => h)
            have h4 := hf.blk HG.out.2.1 (fun h => h)
            simp [World.cell?, h1, h2, h3, h4, snc]
          obtain ⟨ev, hev⟩ : ∃ e, mkEv x c s op sg t = e := ⟨_, rfl⟩
          have HA : ∀ w1, Fr (fun _ => False) w10 w1 → Calls Try.prog 27 #[.agg #[.int .i64 x.kind, .int .i64 x.view, .int .i64 x.turn, .int .i64 x.slot, .int .i64 x.signer], .agg #[.int .i64 x.c, .int .i64 x.s, .slice X1 x.op.length e1, .slice X2 x.sg.length e2], .agg #[.int .i64 c, .int .i64 s, .slice Ao op.length co, .slice As sg.length cs], .slice X3 x.t.length e3, .slice A3 t.length c3] w1 fun e w2 => ∃ B1 d1 B2 d2 B3 d3 B4 d4 Y5 d5 Y6 d6, e = .returned (.agg #[.int .i64 13, .int .i64 ev.view, .int .i64 ev.turn, .int .i64 ev.slot, .int .i64 ev.signer, .int .i64 0, .int .i64 ev.kind, .int .i64 0, .int .i64 ev.cX, .int .i64 ev.sX, .slice B1 ev.opX.length d1, .slice B2 ev.sgX.length d2, .int .i64 ev.cY, .int .i64 ev.sY, .slice B4 ev.opY.length d4, .slice Y5 ev.sgY.length d5, .slice Y6 ev.tY.length d6, .slice B3 ev.tX.length d3, .slice none 0 0, .slice none 0 0, .slice none 0 0, .slice none 0 0, .slice none 0 0]) ∧ (w2.cell? ⟨w4.heap.size, 0, none⟩ = some (.int .i64 x.kind) ∧ w2.cell? ⟨w4.heap.size, 1, none⟩ = some (.int .i64 x.view) ∧ w2.cell? ⟨w4.heap.size, 2, none⟩ = some (.int .i64 x.turn) ∧ w2.cell? ⟨w4.heap.size, 3, none⟩ = some (.int .i64 x.slot) ∧ w2.cell? ⟨w4.heap.size, 4, none⟩ = some (.int .i64 x.signer) ∧ w2.cell? ⟨b, 0, none⟩ = some (.int .i64 x.c) ∧ w2.cell? ⟨b, 1, none⟩ = some (.int .i64 x.s) ∧ w2.cell? ⟨b, 2, none⟩ = some (.slice X1 x.op.length e1) ∧ w2.cell? ⟨b, 3, none⟩ = some (.slice X2 x.sg.length e2) ∧ w2.cell? ⟨b, 4, none⟩ = some (.slice X3 x.t.length e3) ∧ w2.cell? ⟨gr, 0, none⟩ = some (.int .i64 c) ∧ w2.cell? ⟨gr, 1, none⟩ = some (.int .i64 s) ∧ w2.cell? ⟨gr, 2, none⟩ = some (.slice Ao op.length co) ∧ w2.cell? ⟨gr, 3, none⟩ = some (.slice As sg.length cs) ∧ w2.cell? ⟨W.heap.size, 0, none⟩ = some (.int .i64 si) ∧ w2.cell? ⟨W.heap.size, 1, none⟩ = some (.slice A3 t.length c3)) ∧ Aside0 (Fr (fun _ => False) w10 w2 ∧ EvIs w2 (.agg #[.int .i64 13, .int .i64 ev.view, .int .i64 ev.turn, .int .i64 ev.slot, .int .i64 ev.signer, .int .i64 0, .int .i64 ev.kind, .int .i64 0, .int .i64 ev.cX, .int .i64 ev.sX, .slice B1 ev.opX.length d1, .slice B2 ev.sgX.length d2, .int .i64 ev.cY, .int .i64 ev.sY, .slice B4 ev.opY.length d4, .slice Y5 ev.sgY.length d5, .slice Y6 ev.tY.length d6, .slice B3 ev.tX.length d3, .slice none 0 0, .slice none 0 0, .slice none 0 0, .slice none 0 0, .slice none 0 0]) ev) := by
            intro w1 hf1
            have he := evid_calls x HG.out.2.2.2 X1 e1 X2 e2 X3 e3 c s Ao co op As cs sg A3 c3 t w1 (HR.out.2.1.lies hf1) hx2 (HR.out.2.2.1.lies hf1) hx3 (HR.out.2.2.2.lies hf1) hx4 (H10.out.ro.lies hf1) hco (H10.out.rs.lies hf1) hcs (HR.out.1.lies hf1) hc3 HL.out.1 (vrA_len hvr)
            rw [hev] at he
            refine he.mono ?_
            rintro e w2 ⟨v, rfl, hE, hb⟩
            have f2 := hf1.trans (Fr.of_below hb (fun _ => False)) (fun _ h => h.elim)
            have hE' := hE
            obtain ⟨B1, d1, B2, d2, B3, d3, B4, d4, Y5, d5, Y6, d6, rfl, _⟩ := hE'
            exact ⟨B1, d1, B2, d2, B3, d3, B4, d4, Y5, d5, Y6, d6, rfl, hS _ f2, ⟨f2, hE⟩⟩
          have HS := Aside0.mk hS
          have hs10 := hS _ (Fr.refl _ _)
          have HA := Aside0.mk HA
          clear hS
          refine wp_region_noPanic ?_
          refine wp_region_held_drew (S := (fun w' => w'.cell? ⟨w4.heap.size, 0, none⟩ = some (.int .i64 x.kind) ∧ w'.cell? ⟨w4.heap.size, 1, none⟩ = some (.int .i64 x.view) ∧ w'.cell? ⟨w4.heap.size, 2, none⟩ = some (.int .i64 x.turn) ∧ w'.cell? ⟨w4.heap.size, 3, none⟩ = some (.int .i64 x.slot) ∧ w'.cell? ⟨w4.heap.size, 4, none⟩ = some (.int .i64 x.signer) ∧ w'.cell? ⟨b, 0, none⟩ = some (.int .i64 x.c) ∧ w'.cell? ⟨b, 1, none⟩ = some (.int .i64 x.s) ∧ w'.cell? ⟨b, 2, none⟩ = some (.slice X1 x.op.length e1) ∧ w'.cell? ⟨b, 3, none⟩ = some (.slice X2 x.sg.length e2) ∧ w'.cell? ⟨b, 4, none⟩ = some (.slice X3 x.t.length e3) ∧ w'.cell? ⟨gr, 0, none⟩ = some (.int .i64 c) ∧ w'.cell? ⟨gr, 1, none⟩ = some (.int .i64 s) ∧ w'.cell? ⟨gr, 2, none⟩ = some (.slice Ao op.length co) ∧ w'.cell? ⟨gr, 3, none⟩ = some (.slice As sg.length cs) ∧ w'.cell? ⟨W.heap.size, 0, none⟩ = some (.int .i64 si) ∧ w'.cell? ⟨W.heap.size, 1, none⟩ = some (.slice A3 t.length c3))) (by kernel_rfl) hs10 (fun hHeld => ?_)
          refine wpAnyH_take (i := 0) (oi := ⟨some 96, _, _, _, _, _⟩) (v := out) rfl (by kernel_rfl) (by kernel_rfl) (by kernel_rfl) (fun _ _ _ h => h) (Or.inl ⟨by rfl, by (intro w' hSw; (try dsimp only at hSw); go_simp)⟩) (by assumption) ?_
          try simp only [Act.put, List.setIfInBounds_toArray, List.set_cons_zero, List.set_cons_succ]
          refine wpAnyH_take (i := 1) (oi := ⟨some 97, _, _, _, _, _⟩) (v := (.agg #[.int .i64 x.kind, .int .i64 x.view, .int .i64 x.turn, .int .i64 x.slot, .int .i64 x.signer])) rfl (by kernel_rfl) (by kernel_rfl) (by kernel_rfl) (fun _ _ _ h => h) (Or.inl ⟨by rfl, by (intro w' hSw; (try dsimp only at hSw); go_simp)⟩) (by assumption) ?_
          try simp only [Act.put, List.setIfInBounds_toArray, List.set_cons_zero, List.set_cons_succ]
          refine wpAnyH_take (i := 2) (oi := ⟨some 98, _, _, _, _, _⟩) (v := (.pointer (some ⟨b, 0, none⟩))) rfl (by kernel_rfl) (by kernel_rfl) (by kernel_rfl) (fun _ _ _ h => h) (Or.inl ⟨by rfl, by (intro w' hSw; (try dsimp only at hSw); go_simp)⟩) (by assumption) ?_
          try simp only [Act.put, List.setIfInBounds_toArray, List.set_cons_zero, List.set_cons_succ]
          refine wpAnyH_take (i := 3) (oi := ⟨some 99, _, _, _, _, _⟩) (v := (.pointer (some ⟨b, 0, none⟩))) rfl (by kernel_rfl) (by kernel_rfl) (by kernel_rfl) (fun _ _ _ h => h) (Or.inl ⟨by rfl, by (intro w' hSw; (try dsimp only at hSw); go_simp)⟩) (by assumption) ?_
          try simp only [Act.put, List.setIfInBounds_toArray, List.set_cons_zero, List.set_cons_succ]
          refine wpAnyH_take (i := 4) (oi := ⟨some 100, _, _, _, _, _⟩) (v := (.pointer (some ⟨b, 0, none⟩))) rfl (by kernel_rfl) (by kernel_rfl) (by kernel_rfl) (fun _ _ _ h => h) (Or.inl ⟨by rfl, by (intro w' hSw; (try dsimp only at hSw); go_simp)⟩) (by assumption) ?_
          try simp only [Act.put, List.setIfInBounds_toArray, List.set_cons_zero, List.set_cons_succ]
          refine wpAnyH_take (i := 5) (oi := ⟨some 101, _, _, _, _, _⟩) (v := (.agg #[.int .i64 x.c, .int .i64 x.s, .slice X1 x.op.length e1, .slice X2 x.sg.length e2])) rfl (by kernel_rfl) (by kernel_rfl) (by kernel_rfl) (fun _ _ _ h => h) (Or.inl ⟨by rfl, by (intro w' hSw; (try dsimp only at hSw); go_simp)⟩) (by assumption) ?_
          try simp only [Act.put, List.setIfInBounds_toArray, List.set_cons_zero, List.set_cons_succ]
          refine wpAnyH_take (i := 6) (oi := ⟨some 102, _, _, _, _, _⟩) (v := (.agg #[.int .i64 c, .int .i64 s, .slice Ao op.length co, .slice As sg.length cs])) rfl (by kernel_rfl) (by kernel_rfl) (by kernel_rfl) (fun _ _ _ h => h) (Or.inl ⟨by rfl, by (intro w' hSw; (try dsimp only at hSw); go_simp)⟩) (by assumption) ?_
          try simp only [Act.put, List.setIfInBounds_toArray, List.set_cons_zero, List.set_cons_succ]
          refine wpAnyH_take (i := 7) (oi := ⟨some 103, _, _, _, _, _⟩) (v := (.pointer (some ⟨b, 0, none⟩))) rfl (by kernel_rfl) (by kernel_rfl) (by kernel_rfl) (fun _ _ _ h => h) (Or.inl ⟨by rfl, by (intro w' hSw; (try dsimp only at hSw); go_simp)⟩) (by assumption) ?_
          try simp only [Act.put, List.setIfInBounds_toArray, List.set_cons_zero, List.set_cons_succ]
          refine wpAnyH_take (i := 8) (oi := ⟨some 104, _, _, _, _, _⟩) (v := (.pointer (some ⟨b, 0, none⟩))) rfl (by kernel_rfl) (by kernel_rfl) (by kernel_rfl) (fun _ _ _ h => h) (Or.inl ⟨by rfl, by (intro w' hSw; (try dsimp only at hSw); go_simp)⟩) (by assumption) ?_
          try simp only [Act.put, List.setIfInBounds_toArray, List.set_cons_zero, List.set_cons_succ]
          refine wpAnyH_take (i := 9) (oi := ⟨some 105, _, _, _, _, _⟩) (v := (.pointer (some ⟨b, 4, none⟩))) rfl (by kernel_rfl) (by kernel_rfl) (by kernel_rfl) (fun _ _ _ h => h) (Or.inl ⟨by rfl, by (intro w' hSw; (try dsimp only at hSw); go_simp)⟩) (by assumption) ?_
          try simp only [Act.put, List.setIfInBounds_toArray, List.set_cons_zero, List.set_cons_succ]
          refine wpAnyH_take (i := 10) (oi := ⟨some 106, _, _, _, _, _⟩) (v := (.slice X3 x.t.length e3)) rfl (by kernel_rfl) (by kernel_rfl) (by kernel_rfl) (fun _ _ _ h => h) (Or.inl ⟨by rfl, by (intro w' hSw; (try dsimp only at hSw); go_simp)⟩) (by assumption) ?_
          try simp only [Act.put, List.setIfInBounds_toArray, List.set_cons_zero, List.set_cons_succ]
          refine wpAnyH_take (i := 11) (oi := ⟨some 107, _, _, _, _, _⟩) (v := (.pointer (some ⟨W.heap.size, 1, none⟩))) rfl (by kernel_rfl) (by kernel_rfl) (by kernel_rfl) (fun _ _ _ h => h) (Or.inl ⟨by rfl, by (intro w' hSw; (try dsimp only at hSw); go_simp)⟩) (by assumption) ?_
          try simp only [Act.put, List.setIfInBounds_toArray, List.set_cons_zero, List.set_cons_succ]
          refine wpAnyH_take (i := 12) (oi := ⟨some 108, _, _, _, _, _⟩) (v := (.slice A3 t.length c3)) rfl (by kernel_rfl) (by kernel_rfl) (by kernel_rfl) (fun _ _ _ h => h) (Or.inl ⟨by rfl, by (intro w' hSw; (try dsimp only at hSw); go_simp)⟩) (by assumption) ?_
          try simp only [Act.put, List.setIfInBounds_toArray, List.set_cons_zero, List.set_cons_succ]
          refine wpAnyH_ready (rs := [13]) (by kernel_rfl) (by simp) ?_
          refine AllReadyH.cons (o := ⟨some 109, _, _, _, _, _⟩) rfl (fun K hK => ?_) AllReadyH.nil
          go_simp
          go_at_call 27
          refine (HA.out _ (Fr.refl _ _).of_drew).mono ?_
          rintro e w11 ⟨B1, d1, B2, d2, B3, d3, B4, d4, Y5, d5, Y6, d6, rfl, hs11, H11⟩
          refine hK.out _ _ hs11 (fun hHeld => ?_)
          try simp only [Act.put, List.setIfInBounds_toArray, List.set_cons_zero, List.set_cons_succ]
          refine wpAnyH_ready (rs := [14]) (by kernel_rfl) (by simp) ?_
          refine AllReadyH.cons (o := ⟨some 110, _, _, _, _, _⟩) rfl (fun K hK => ?_) AllReadyH.nil
          go_simp
          have hb12 := below_alloc (Below.refl w11.heap.size w11) (.cells #[.int .i64 13, .int .i64 ev.view, .int .i64 ev.turn, .int .i64 ev.slot, .int .i64 ev.signer, .int .i64 0, .int .i64 ev.kind, .int .i64 0, .int .i64 ev.cX, .int .i64 ev.sX, .slice B1 ev.opX.length d1, .slice B2 ev.sgX.length d2, .int .i64 ev.cY, .int .i64 ev.sY, .slice B4 ev.opY.length d4, .slice Y5 ev.sgY.length d5, .slice Y6 ev.tY.length d6, .slice B3 ev.tX.length d3, .slice none 0 0, .slice none 0 0, .slice none 0 0, .slice none 0 0, .slice none 0 0] 48)
          have hg12 := heap_alloc_new w11 (.cells #[.int .i64 13, .int .i64 ev.view, .int .i64 ev.turn, .int .i64 ev.slot, .int .i64 ev.signer, .int .i64 0, .int .i64 ev.kind, .int .i64 0, .int .i64 ev.cX, .int .i64 ev.sX, .slice B1 ev.opX.length d1, .slice B2 ev.sgX.length d2, .int .i64 ev.cY, .int .i64 ev.sY, .slice B4 ev.opY.length d4, .slice Y5 ev.sgY.length d5, .slice Y6 ev.tY.length d6, .slice B3 ev.tX.length d3, .slice none 0 0, .slice none 0 0, .slice none 0 0, .slice none 0 0, .slice none 0 0] 48)
          generalize w11.alloc (.cells #[.int .i64 13, .int .i64 ev.view, .int .i64 ev.turn, .int .i64 ev.slot, .int .i64 ev.signer, .int .i64 0, .int .i64 ev.kind, .int .i64 0, .int .i64 ev.cX, .int .i64 ev.sX, .slice B1 ev.opX.length d1, .slice B2 ev.sgX.length d2, .int .i64 ev.cY, .int .i64 ev.sY, .slice B4 ev.opY.length d4, .slice Y5 ev.sgY.length d5, .slice Y6 ev.tY.length d6, .slice B3 ev.tX.length d3, .slice none 0 0, .slice none 0 0, .slice none 0 0, .slice none 0 0, .slice none 0 0] 48) = w12 at *
          have f12 := Fr.of_below hb12 (fun _ => False)
          have f1012 := H11.out.1.trans f12 (fun _ h => h.elim)
          have hs12 := HS.out _ f1012
          have H12 := H10.out.below f1012
          refine hK.out _ _ hs12 (fun hHeld => ?_)
          try simp only [Act.put, List.setIfInBounds_toArray, List.set_cons_zero, List.set_cons_succ]
          obtain ⟨css, hcl, hrow, hevs⟩ := H12.ev
          refine wpAnyH_ready (rs := [15]) (by kernel_rfl) (by simp) ?_
          refine AllReadyH.cons (o := ⟨some 111, _, _, _, _, _⟩) rfl (fun K hK => ?_) AllReadyH.nil
          rw [if_pos (by rfl)]
          refine wp_append_msg _ _ (by rfl) w.heap.size out E.length css.flatten (by rfl) hrow ⟨w11.heap.size, 0, none⟩ [.int .i64 13, .int .i64 ev.view, .int .i64 ev.turn, .int .i64 ev.slot, .int .i64 ev.signer, .int .i64 0, .int .i64 ev.kind, .int .i64 0, .int .i64 ev.cX, .int .i64 ev.sX, .slice B1 ev.opX.length d1, .slice B2 ev.sgX.length d2, .int .i64 ev.cY, .int .i64 ev.sY, .slice B4 ev.opY.length d4, .slice Y5 ev.sgY.length d5, .slice Y6 ev.tY.length d6, .slice B3 ev.tX.length d3, .slice none 0 0, .slice none 0 0, .slice none 0 0, .slice none 0 0, .slice none 0 0] (by rfl) rfl (fun j u hu => by
            rw [add_at, Nat.zero_add]
            simp only [World.cell?, hg12]
            simpa using hu) (by simp [Value.oneCell']) HL.out.2.2.2.2.2.2.1 H12.F.size ?_
          intro v13 w13 hrow13 hf13
          have hnm : ∀ {k : Nat} {cells : Array Value} {t : TypeId} {fr : Nat × Nat}, w12.heap[k]? = some (.cells cells t fr) → t ≠ 48 → ¬ (some k = out.ownBlock) := fun hc ht e => by
            obtain ⟨_, cells', hc'⟩ := row_type hrow _ e.symm
            rw [hc'] at hc
            injection hc with hc
            injection hc with _ hc _
            exact ht hc.symm
          have hs13 : w13.cell? ⟨w4.heap.size, 0, none⟩ = some (.int .i64 x.kind) ∧ w13.cell? ⟨w4.heap.size, 1, none⟩ = some (.int .i64 x.view) ∧ w13.cell? ⟨w4.heap.size, 2, none⟩ = some (.int .i64 x.turn) ∧ w13.cell? ⟨w4.heap.size, 3, none⟩ = some (.int .i64 x.slot) ∧ w13.cell? ⟨w4.heap.size, 4, none⟩ = some (.int .i64 x.signer) ∧ w13.cell? ⟨b, 0, none⟩ = some (.int .i64 x.c) ∧ w13.cell? ⟨b, 1, none⟩ = some (.int .i64 x.s) ∧ w13.cell? ⟨b, 2, none⟩ = some (.slice X1 x.op.length e1) ∧ w13.cell? ⟨b, 3, none⟩ = some (.slice X2 x.sg.length e2) ∧ w13.cell? ⟨b, 4, none⟩ = some (.slice X3 x.t.length e3) ∧ w13.cell? ⟨gr, 0, none⟩ = some (.int .i64 c) ∧ w13.cell? ⟨gr, 1, none⟩ = some (.int .i64 s) ∧ w13.cell? ⟨gr, 2, none⟩ = some (.slice Ao op.length co) ∧ w13.cell? ⟨gr, 3, none⟩ = some (.slice As sg.length cs) ∧ w13.cell? ⟨W.heap.size, 0, none⟩ = some (.int .i64 si) ∧ w13.cell? ⟨W.heap.size, 1, none⟩ = some (.slice A3 t.length c3) := by
            have g1 := f1012.blk HG.out.1 (fun h => h)
            have g2 := f1012.blk HG.out.2.2.1 (fun h => h)
            have g3 := f1012.blk H10.out.hr (fun h => h)
            have g4 := f1012.blk HG.out.2.1 (fun h => h)
            have h1 := hf13.blk g1 (hnm g1 (by decide))
            have h2 := hf13.blk g2 (hnm g2 (by decide))
            have h3 := hf13.blk g3 (hnm g3 (by decide))
            have h4 := hf13.blk g4 (hnm g4 (by decide))
            simp [World.cell?, h1, h2, h3, h4, snc]
          refine hK.out _ _ hs13 (fun hHeld => ?_)
          try simp only [Act.put, List.setIfInBounds_toArray, List.set_cons_zero, List.set_cons_succ]
          refine wpAnyH_take (i := 16) (oi := ⟨some 13, _, _, _, _, _⟩) (v := v13) rfl (by kernel_rfl) (by kernel_rfl) (by kernel_rfl) (fun _ _ _ h => h) (Or.inl ⟨by rfl, by (intro w' hSw; (try dsimp only at hSw); go_simp)⟩) (by assumption) ?_
          try simp only [Act.put, List.setIfInBounds_toArray, List.set_cons_zero, List.set_cons_succ]
          refine wpAnyH_done (by kernel_rfl) ?_ _
          refine NoPanic.normal ?_
          have hbt : ∀ k cells, w12.heap[k]? = some (.cells cells 5 (0, 0)) → ¬ (some k = out.ownBlock) := fun k cells hc => hnm hc (by decide)
          have hev13 : EvRow w13 w.heap.size v13 (E ++ [ev]) := by
            refine ⟨css ++ [[.int .i64 13, .int .i64 ev.view, .int .i64 ev.turn, .int .i64 ev.slot, .int .i64 ev.signer, .int .i64 0, .int .i64 ev.kind, .int .i64 0, .int .i64 ev.cX, .int .i64 ev.sX, .slice B1 ev.opX.length d1, .slice B2 ev.sgX.length d2, .int .i64 ev.cY, .int .i64 ev.sY, .slice B4 ev.opY.length d4, .slice Y5 ev.sgY.length d5, .slice Y6 ev.tY.length d6, .slice B3 ev.tX.length d3, .slice none 0 0, .slice none 0 0, .slice none 0 0, .slice none 0 0, .slice none 0 0]], by simp [hcl], ?_, fun j' e' c' hj' hc' => ?_⟩
            · rw [List.length_append, List.length_singleton, List.flatten_append]
              simpa using hrow13
            · by_cases hjl : j' < E.length
              · rw [List.getElem?_append_left hjl] at hj'
                rw [List.getElem?_append_left (by rw [hcl]; exact hjl)] at hc'
                exact ⟨(hevs j' e' c' hj' hc').1, (hevs j' e' c' hj' hc').2.frT hf13 hbt⟩
              · have hj2 : j' = E.length := by
                  have := (List.getElem?_eq_some_iff.1 hj').1
                  simp only [List.length_append, List.length_singleton] at this
                  omega
                subst hj2
                have e1 : e' = ev := by simpa using hj'.symm
                rw [← hcl] at hc'
                have e2 : c' = [.int .i64 13, .int .i64 ev.view, .int .i64 ev.turn, .int .i64 ev.slot, .int .i64 ev.signer, .int .i64 0, .int .i64 ev.kind, .int .i64 0, .int .i64 ev.cX, .int .i64 ev.sX, .slice B1 ev.opX.length d1, .slice B2 ev.sgX.length d2, .int .i64 ev.cY, .int .i64 ev.sY, .slice B4 ev.opY.length d4, .slice Y5 ev.sgY.length d5, .slice Y6 ev.tY.length d6, .slice B3 ev.tX.length d3, .slice none 0 0, .slice none 0 0, .slice none 0 0, .slice none 0 0, .slice none 0 0] := by simpa using hc'.symm
                subst e1 e2
                exact ⟨rfl, (H11.out.2.frT f12 (fun _ _ _ e => e)).frT hf13 hbt⟩
          have H13 := Aside0.mk (H12.app hf13 hev13)
          clear hs10 hs11 hs12 hs13 hHeld HA HS H10 H11 HG HR hrow hrow13 hevs hnm hbt hev13
          have b5 := B5.out
          go_wp2
          exact HH.out.2.2.2 _ _ _ _ _ _ _ ⟨rfl, rfl⟩ rfl rfl rfl rfl rfl rfl rfl rfl rfl rfl H13.out (.inr (.inr (.inr (.inr ⟨hvr, j, x, hSj, hxk, htd, of_decide_eq_false HBE.out, rfl, by rw [hev]⟩))))
    · have hh : Maps.has D (plK kind view turn slot si) = false := by simpa using hh
      have f4 := Fr.of_below hb4 (fun _ => False)
      have H4 := Aside0.mk (And.intro (H3.out.1.below f4) (And.intro (H3.out.2.1.lies f4) (f4.blk H3.out.2.2 (fun h => h))))
      have y : w4.cell? ⟨W.heap.size, 0, none⟩ = some (.int .i64 si) ∧ w4.cell? ⟨W.heap.size, 1, none⟩ = some (.slice A3 t.length c3) := by simp [World.cell?, H4.out.2.2]
      have q : w4.cell? ⟨gb, 0, none⟩ = some (.int .i64 view) ∧ w4.cell? ⟨gb, 1, none⟩ = some (.int .i64 turn) := by simp [World.cell?, H4.out.1.hb]
      obtain ⟨y0, y1⟩ := y
      obtain ⟨q0, q1⟩ := q
      have z4 := f4.size
      clear H3 hb4 f4
      go_wp2_with (first | ((with_reducible refine gate_dst (N := 17) rfl ?_); refine wpList_alloc_abs (by rfl) 67 (by rfl) (.agg Z5p) (by kernel_rfl) ?_; intro w5 hb5 hs5 hg5) | ((with_reducible refine gate_store (p := 17) rfl ?_); refine Aside0.out ?_))
      refine ⟨?_⟩
      refine wpList_store_abs (by rfl) 67 _ _ (by rfl) w4.heap.size #[.int .i64 kind, .int .i64 view, .int .i64 turn, .int .i64 slot, .int .i64 si] (by rfl) (by rfl) 67 Z5p hg5 (by kernel_rfl) (by rfl) (by simp [Value.oneCell']) ?_
      intro w6 hf6 hs6 hg6
      have F6 : Fr (fun _ => False) w4 w6 := (Fr.of_below hb5 (fun _ => False)).trans hf6 (fun k hk => .inr (by omega))
      have H6 := Aside0.mk (And.intro (H4.out.1.below F6) (And.intro (H4.out.2.1.lies F6) (And.intro (F6.blk H4.out.2.2 (fun h => h)) hg6)))
      have hs6' : w6.cell? ⟨gl, 0, none⟩ = some (.map (some bm)) ∧ w6.cell? ⟨w4.heap.size, 0, none⟩ = some (.int .i64 kind) ∧ w6.cell? ⟨w4.heap.size, 1, none⟩ = some (.int .i64 view) ∧ w6.cell? ⟨w4.heap.size, 2, none⟩ = some (.int .i64 turn) ∧ w6.cell? ⟨w4.heap.size, 3, none⟩ = some (.int .i64 slot) ∧ w6.cell? ⟨w4.heap.size, 4, none⟩ = some (.int .i64 si) := by
        have h1 := H6.out.1.ld.head
        simp [World.cell?, h1, hg6]
      have hkl := plK_of HW.out.1 HW.out.2.1 HW.out.2.2.1 HW.out.2.2.2.1 HW.out.2.2.2.2
      clear H4 y0 y1 q0 q1 hb5 hs5 hg5 hf6 hs6 hg6 F6 z4 z3
      go_wp2_with (fail)
      refine wp_region_noPanic ?_
      refine wp_region_held_drew (S := (fun w' => w'.cell? ⟨gl, 0, none⟩ = some (.map (some bm)) ∧ w'.cell? ⟨w4.heap.size, 0, none⟩ = some (.int .i64 kind) ∧ w'.cell? ⟨w4.heap.size, 1, none⟩ = some (.int .i64 view) ∧ w'.cell? ⟨w4.heap.size, 2, none⟩ = some (.int .i64 turn) ∧ w'.cell? ⟨w4.heap.size, 3, none⟩ = some (.int .i64 slot) ∧ w'.cell? ⟨w4.heap.size, 4, none⟩ = some (.int .i64 si))) (by kernel_rfl) hs6' (fun hHeld => ?_)
      refine wpAnyH_take (i := 0) (oi := ⟨some 48, _, _, _, _, _⟩) (v := (.pointer (some ⟨gl, 0, none⟩))) rfl (by kernel_rfl) (by kernel_rfl) (by kernel_rfl) (fun _ _ _ h => h) (Or.inl ⟨by rfl, by (intro w' hSw; (try dsimp only at hSw); go_simp)⟩) (by assumption) ?_
      try simp only [Act.put, List.setIfInBounds_toArray, List.set_cons_zero, List.set_cons_succ]
      refine wpAnyH_take (i := 1) (oi := ⟨some 49, _, _, _, _, _⟩) (v := (.pointer (some ⟨gl, 0, none⟩))) rfl (by kernel_rfl) (by kernel_rfl) (by kernel_rfl) (fun _ _ _ h => h) (Or.inl ⟨by rfl, by (intro w' hSw; (try dsimp only at hSw); go_simp)⟩) (by assumption) ?_
      try simp only [Act.put, List.setIfInBounds_toArray, List.set_cons_zero, List.set_cons_succ]
      refine wpAnyH_take (i := 2) (oi := ⟨some 50, _, _, _, _, _⟩) (v := (.pointer (some ⟨gl, 0, none⟩))) rfl (by kernel_rfl) (by kernel_rfl) (by kernel_rfl) (fun _ _ _ h => h) (Or.inl ⟨by rfl, by (intro w' hSw; (try dsimp only at hSw); go_simp)⟩) (by assumption) ?_
      try simp only [Act.put, List.setIfInBounds_toArray, List.set_cons_zero, List.set_cons_succ]
      refine wpAnyH_take (i := 3) (oi := ⟨some 51, _, _, _, _, _⟩) (v := (.map (some bm))) rfl (by kernel_rfl) (by kernel_rfl) (by kernel_rfl) (fun _ _ _ h => h) (Or.inl ⟨by rfl, by (intro w' hSw; (try dsimp only at hSw); go_simp)⟩) (by assumption) ?_
      try simp only [Act.put, List.setIfInBounds_toArray, List.set_cons_zero, List.set_cons_succ]
      refine wpAnyH_take (i := 4) (oi := ⟨some 52, _, _, _, _, _⟩) (v := (.agg #[.int .i64 kind, .int .i64 view, .int .i64 turn, .int .i64 slot, .int .i64 si])) rfl (by kernel_rfl) (by kernel_rfl) (by kernel_rfl) (fun _ _ _ h => h) (Or.inl ⟨by rfl, by (intro w' hSw; (try dsimp only at hSw); go_simp)⟩) (by assumption) ?_
      try simp only [Act.put, List.setIfInBounds_toArray, List.set_cons_zero, List.set_cons_succ]
      refine wpAnyH_ready (rs := [5]) (by kernel_rfl) (by simp) ?_
      refine AllReadyH.cons (o := ⟨some 53, _, _, _, _, _⟩) rfl (fun K hK => ?_) AllReadyH.nil
      rw [if_pos (by rfl)]
      refine wp_lookup_abs _ _ (by rfl) bm S.length D (by rfl) H6.out.1.ld.own.drew (.agg #[.int .i64 kind, .int .i64 view, .int .i64 turn, .int .i64 slot, .int .i64 si]) (plK kind view turn slot si) (by rfl) hkl ?_
      intro vp ps hvp
      rw [hh]
      rw [atKey_of_not_has hh] at hvp
      obtain rfl := ptrE_nil hvp
      refine hK.out _ _ hHeld (fun hHeld => ?_)
      try simp only [Act.put, List.setIfInBounds_toArray, List.set_cons_zero, List.set_cons_succ]
      refine wpAnyH_take (i := 6) (oi := ⟨some 47, _, _, _, _, _⟩) (v := (.tuple #[.pointer none, .bool false])) rfl (by kernel_rfl) (by kernel_rfl) (by kernel_rfl) (fun _ _ _ h => h) (Or.inl ⟨by rfl, by (intro w' hSw; (try dsimp only at hSw); go_simp)⟩) (by assumption) ?_
      try simp only [Act.put, List.setIfInBounds_toArray, List.set_cons_zero, List.set_cons_succ]
      refine wpAnyH_take (i := 7) (oi := ⟨some 54, _, _, _, _, _⟩) (v := (.pointer none)) rfl (by kernel_rfl) (by kernel_rfl) (by kernel_rfl) (fun _ _ _ h => h) (Or.inl ⟨by rfl, by (intro w' hSw; (try dsimp only at hSw); go_simp)⟩) (by assumption) ?_
      try simp only [Act.put, List.setIfInBounds_toArray, List.set_cons_zero, List.set_cons_succ]
      refine wpAnyH_take (i := 8) (oi := ⟨some 55, _, _, _, _, _⟩) (v := (.bool false)) rfl (by kernel_rfl) (by kernel_rfl) (by kernel_rfl) (fun _ _ _ h => h) (Or.inl ⟨by rfl, by (intro w' hSw; (try dsimp only at hSw); go_simp)⟩) (by assumption) ?_
      try simp only [Act.put, List.setIfInBounds_toArray, List.set_cons_zero, List.set_cons_succ]
      refine wpAnyH_take (i := 9) (oi := ⟨some 18, _, _, _, _, _⟩) (v := (.pointer none)) rfl (by kernel_rfl) (by kernel_rfl) (by kernel_rfl) (fun _ _ _ h => h) (Or.inl ⟨by rfl, by (intro w' hSw; (try dsimp only at hSw); go_simp)⟩) (by assumption) ?_
      try simp only [Act.put, List.setIfInBounds_toArray, List.set_cons_zero, List.set_cons_succ]
      refine wpAnyH_take (i := 10) (oi := ⟨some 19, _, _, _, _, _⟩) (v := (.bool false)) rfl (by kernel_rfl) (by kernel_rfl) (by kernel_rfl) (fun _ _ _ h => h) (Or.inl ⟨by rfl, by (intro w' hSw; (try dsimp only at hSw); go_simp)⟩) (by assumption) ?_
      try simp only [Act.put, List.setIfInBounds_toArray, List.set_cons_zero, List.set_cons_succ]
      refine wpAnyH_done (by kernel_rfl) ?_ _
      refine NoPanic.normal ?_
      clear hs6' hHeld hvp
      obtain ⟨w7, hw7⟩ : ∃ x, w6.drew = x := ⟨_, rfl⟩
      have F7 : Fr (fun _ => False) w6 w7 := by rw [← hw7]; exact (Fr.refl _ _).of_drew
      rw [hw7]
      have H7 := Aside0.mk (And.intro (H6.out.1.below F7) (And.intro (H6.out.2.1.lies F7) (And.intro (F7.blk H6.out.2.2.1 (fun h => h)) (F7.blk H6.out.2.2.2 (fun h => h)))))
      clear H6 F7 hw7
      by_cases hn : S.length < 8192
      · have hown := H7.out.1.ld.own
        have hsz := H7.out.1.ld.size
        have gl0 : w7.cell? ⟨gl, 0, none⟩ = some (.map (some bm)) := by simp [World.cell?, H7.out.1.ld.head]
        obtain ⟨n, hnn⟩ : ∃ n, S.length = n := ⟨_, rfl⟩
        rw [hnn] at hown hsz
        have cl : decide ((n : Int) < 8192) = true := decide_eq_true (by omega)
        have cl2 : n < 8192 := by omega
        go_wp2_with (first | (at_len; refine wpList_len_own _ rfl _ 62 rfl 67 68 undMap ptrE bm n D rfl hown ?_))
        clear hown hsz cl cl2 gl0 hnn
        have hS : ∀ w', Fr (fun _ => False) w7 w' → w'.cell? ⟨gl, 0, none⟩ = some (.map (some bm)) ∧ w'.cell? ⟨w4.heap.size, 0, none⟩ = some (.int .i64 kind) ∧ w'.cell? ⟨w4.heap.size, 1, none⟩ = some (.int .i64 view) ∧ w'.cell? ⟨w4.heap.size, 2, none⟩ = some (.int .i64 turn) ∧ w'.cell? ⟨w4.heap.size, 3, none⟩ = some (.int .i64 slot) ∧ w'.cell? ⟨w4.heap.size, 4, none⟩ = some (.int .i64 si) ∧ w'.cell? ⟨gr, 0, none⟩ = some (.int .i64 c) ∧ w'.cell? ⟨gr, 1, none⟩ = some (.int .i64 s) ∧ w'.cell? ⟨gr, 2, none⟩ = some (.slice Ao op.length co) ∧ w'.cell? ⟨gr, 3, none⟩ = some (.slice As sg.length cs) ∧ w'.cell? ⟨W.heap.size, 0, none⟩ = some (.int .i64 si) ∧ w'.cell? ⟨W.heap.size, 1, none⟩ = some (.slice A3 t.length c3) := fun w' hf => by
          have h1 := hf.blk H7.out.1.ld.head (fun h => h)
          have h2 := hf.blk H7.out.2.2.2 (fun h => h)
          have h3 := hf.blk H7.out.1.hr (fun h => h)
          have h4 := hf.blk H7.out.2.2.1 (fun h => h)
          simp [World.cell?, h1, h2, h3, h4]
        have HA : ∀ w1, Fr (fun _ => False) w7 w1 → Calls Try.prog 24 #[.agg #[.int .i64 c, .int .i64 s, .slice Ao op.length co, .slice As sg.length cs]] w1 fun e w2 => ∃ B1 d1 B2 d2, e = .returned (.agg #[.int .i64 c, .int .i64 s, .slice B1 op.length d1, .slice B2 sg.length d2]) ∧ (w2.cell? ⟨gl, 0, none⟩ = some (.map (some bm)) ∧ w2.cell? ⟨w4.heap.size, 0, none⟩ = some (.int .i64 kind) ∧ w2.cell? ⟨w4.heap.size, 1, none⟩ = some (.int .i64 view) ∧ w2.cell? ⟨w4.heap.size, 2, none⟩ = some (.int .i64 turn) ∧ w2.cell? ⟨w4.heap.size, 3, none⟩ = some (.int .i64 slot) ∧ w2.cell? ⟨w4.heap.size, 4, none⟩ = some (.int .i64 si) ∧ w2.cell? ⟨gr, 0, none⟩ = some (.int .i64 c) ∧ w2.cell? ⟨gr, 1, none⟩ = some (.int .i64 s) ∧ w2.cell? ⟨gr, 2, none⟩ = some (.slice Ao op.length co) ∧ w2.cell? ⟨gr, 3, none⟩ = some (.slice As sg.length cs) ∧ w2.cell? ⟨W.heap.size, 0, none⟩ = some (.int .i64 si) ∧ w2.cell? ⟨W.heap.size, 1, none⟩ = some (.slice A3 t.length c3)) ∧ Aside0 (Fr (fun _ => False) w7 w2 ∧ OB w2 w7.heap.size (.slice B1 op.length d1) op ∧ OB w2 w7.heap.size (.slice B2 sg.length d2) sg) := by
          intro w1 hf1
          refine (clone_calls c s Ao co op As cs sg w1 (H7.out.1.ro.lies hf1) hco (H7.out.1.rs.lies hf1) hcs HL.out.1).mono ?_
          rintro e w2 ⟨B1, d1, B2, d2, rfl, _, _, o1, o2, hb⟩
          have fb := Fr.of_below hb (fun _ => False)
          exact ⟨B1, d1, B2, d2, rfl, hS _ (hf1.trans fb (fun _ h => h.elim)), ⟨hf1.trans fb (fun _ h => h.elim), o1.lower hf1.size, o2.lower hf1.size⟩⟩
        have HB : ∀ w1 B1 d1 B2 d2, Aside0 (Fr (fun _ => False) w7 w1 ∧ OB w1 w7.heap.size (.slice B1 op.length d1) op ∧ OB w1 w7.heap.size (.slice B2 sg.length d2) sg) → Calls Try.prog 25 #[.slice A3 t.length c3] w1 fun e w2 => ∃ B3 d3, e = .returned (.slice B3 t.length d3) ∧ (w2.cell? ⟨gl, 0, none⟩ = some (.map (some bm)) ∧ w2.cell? ⟨w4.heap.size, 0, none⟩ = some (.int .i64 kind) ∧ w2.cell? ⟨w4.heap.size, 1, none⟩ = some (.int .i64 view) ∧ w2.cell? ⟨w4.heap.size, 2, none⟩ = some (.int .i64 turn) ∧ w2.cell? ⟨w4.heap.size, 3, none⟩ = some (.int .i64 slot) ∧ w2.cell? ⟨w4.heap.size, 4, none⟩ = some (.int .i64 si) ∧ w2.cell? ⟨gr, 0, none⟩ = some (.int .i64 c) ∧ w2.cell? ⟨gr, 1, none⟩ = some (.int .i64 s) ∧ w2.cell? ⟨gr, 2, none⟩ = some (.slice Ao op.length co) ∧ w2.cell? ⟨gr, 3, none⟩ = some (.slice As sg.length cs) ∧ w2.cell? ⟨W.heap.size, 0, none⟩ = some (.int .i64 si) ∧ w2.cell? ⟨W.heap.size, 1, none⟩ = some (.slice A3 t.length c3)) ∧ Aside0 (Fr (fun _ => False) w7 w2 ∧ OB w2 w7.heap.size (.slice B1 op.length d1) op ∧ OB w2 w7.heap.size (.slice B2 sg.length d2) sg ∧ OB w2 w7.heap.size (.slice B3 t.length d3) t) := by
          intro w1 B1 d1 B2 d2 H
          refine (sclone_calls A3 c3 t w1 (H7.out.2.1.lies H.out.1) hc3 (vrA_len hvr)).mono ?_
          rintro e w2 ⟨B3, d3, rfl, _, o3, hb⟩
          have fb := Fr.of_below hb (fun _ => False)
          have f2 := H.out.1.trans fb (fun _ h => h.elim)
          exact ⟨B3, d3, rfl, hS _ f2, ⟨f2, H.out.2.1.fr fb (fun _ _ e => e), H.out.2.2.fr fb (fun _ _ e => e), o3.lower H.out.1.size⟩⟩
        have HS := Aside0.mk hS
        have hs7 := hS _ (Fr.refl _ _)
        have HA := Aside0.mk HA
        have HB := Aside0.mk HB
        clear hS
        go_wp2_with (fail)
        refine wp_region_noPanic ?_
        refine wp_region_held_drew (S := (fun w' => w'.cell? ⟨gl, 0, none⟩ = some (.map (some bm)) ∧ w'.cell? ⟨w4.heap.size, 0, none⟩ = some (.int .i64 kind) ∧ w'.cell? ⟨w4.heap.size, 1, none⟩ = some (.int .i64 view) ∧ w'.cell? ⟨w4.heap.size, 2, none⟩ = some (.int .i64 turn) ∧ w'.cell? ⟨w4.heap.size, 3, none⟩ = some (.int .i64 slot) ∧ w'.cell? ⟨w4.heap.size, 4, none⟩ = some (.int .i64 si) ∧ w'.cell? ⟨gr, 0, none⟩ = some (.int .i64 c) ∧ w'.cell? ⟨gr, 1, none⟩ = some (.int .i64 s) ∧ w'.cell? ⟨gr, 2, none⟩ = some (.slice Ao op.length co) ∧ w'.cell? ⟨gr, 3, none⟩ = some (.slice As sg.length cs) ∧ w'.cell? ⟨W.heap.size, 0, none⟩ = some (.int .i64 si) ∧ w'.cell? ⟨W.heap.size, 1, none⟩ = some (.slice A3 t.length c3))) (by kernel_rfl) hs7 (fun hHeld => ?_)
        refine wpAnyH_take (i := 0) (oi := ⟨some 65, _, _, _, _, _⟩) (v := (.pointer (some ⟨gl, 0, none⟩))) rfl (by kernel_rfl) (by kernel_rfl) (by kernel_rfl) (fun _ _ _ h => h) (Or.inl ⟨by rfl, by (intro w' hSw; (try dsimp only at hSw); go_simp)⟩) (by assumption) ?_
        try simp only [Act.put, List.setIfInBounds_toArray, List.set_cons_zero, List.set_cons_succ]
        refine wpAnyH_take (i := 1) (oi := ⟨some 66, _, _, _, _, _⟩) (v := (.pointer (some ⟨gl, 0, none⟩))) rfl (by kernel_rfl) (by kernel_rfl) (by kernel_rfl) (fun _ _ _ h => h) (Or.inl ⟨by rfl, by (intro w' hSw; (try dsimp only at hSw); go_simp)⟩) (by assumption) ?_
        try simp only [Act.put, List.setIfInBounds_toArray, List.set_cons_zero, List.set_cons_succ]
        refine wpAnyH_take (i := 2) (oi := ⟨some 67, _, _, _, _, _⟩) (v := (.pointer (some ⟨gl, 0, none⟩))) rfl (by kernel_rfl) (by kernel_rfl) (by kernel_rfl) (fun _ _ _ h => h) (Or.inl ⟨by rfl, by (intro w' hSw; (try dsimp only at hSw); go_simp)⟩) (by assumption) ?_
        try simp only [Act.put, List.setIfInBounds_toArray, List.set_cons_zero, List.set_cons_succ]
        refine wpAnyH_take (i := 3) (oi := ⟨some 68, _, _, _, _, _⟩) (v := (.map (some bm))) rfl (by kernel_rfl) (by kernel_rfl) (by kernel_rfl) (fun _ _ _ h => h) (Or.inl ⟨by rfl, by (intro w' hSw; (try dsimp only at hSw); go_simp)⟩) (by assumption) ?_
        try simp only [Act.put, List.setIfInBounds_toArray, List.set_cons_zero, List.set_cons_succ]
        refine wpAnyH_take (i := 4) (oi := ⟨some 69, _, _, _, _, _⟩) (v := (.agg #[.int .i64 kind, .int .i64 view, .int .i64 turn, .int .i64 slot, .int .i64 si])) rfl (by kernel_rfl) (by kernel_rfl) (by kernel_rfl) (fun _ _ _ h => h) (Or.inl ⟨by rfl, by (intro w' hSw; (try dsimp only at hSw); go_simp)⟩) (by assumption) ?_
        try simp only [Act.put, List.setIfInBounds_toArray, List.set_cons_zero, List.set_cons_succ]
        refine wpAnyH_take (i := 5) (oi := ⟨some 70, _, _, _, _, _⟩) (v := (.agg #[.int .i64 c, .int .i64 s, .slice Ao op.length co, .slice As sg.length cs])) rfl (by kernel_rfl) (by kernel_rfl) (by kernel_rfl) (fun _ _ _ h => h) (Or.inl ⟨by rfl, by (intro w' hSw; (try dsimp only at hSw); go_simp)⟩) (by assumption) ?_
        try simp only [Act.put, List.setIfInBounds_toArray, List.set_cons_zero, List.set_cons_succ]
        refine wpAnyH_take (i := 7) (oi := ⟨some 72, _, _, _, _, _⟩) (v := (.pointer (some ⟨W.heap.size, 1, none⟩))) rfl (by kernel_rfl) (by kernel_rfl) (by kernel_rfl) (fun _ _ _ h => h) (Or.inl ⟨by rfl, by (intro w' hSw; (try dsimp only at hSw); go_simp)⟩) (by assumption) ?_
        try simp only [Act.put, List.setIfInBounds_toArray, List.set_cons_zero, List.set_cons_succ]
        refine wpAnyH_take (i := 8) (oi := ⟨some 73, _, _, _, _, _⟩) (v := (.slice A3 t.length c3)) rfl (by kernel_rfl) (by kernel_rfl) (by kernel_rfl) (fun _ _ _ h => h) (Or.inl ⟨by rfl, by (intro w' hSw; (try dsimp only at hSw); go_simp)⟩) (by assumption) ?_
        try simp only [Act.put, List.setIfInBounds_toArray, List.set_cons_zero, List.set_cons_succ]
        refine wpAnyH_ready (rs := [6]) (by kernel_rfl) (by simp) ?_
        refine AllReadyH.cons (o := ⟨some 71, _, _, _, _, _⟩) rfl (fun K hK => ?_) AllReadyH.nil
        go_simp
        go_at_call 24
        refine (HA.out _ (Fr.refl _ _).of_drew).mono ?_
        rintro e w8 ⟨B1, d1, B2, d2, rfl, hs8, H8⟩
        refine hK.out _ _ hs8 (fun hHeld => ?_)
        try simp only [Act.put, List.setIfInBounds_toArray, List.set_cons_zero, List.set_cons_succ]
        refine wpAnyH_ready (rs := [9]) (by kernel_rfl) (by simp) ?_
        refine AllReadyH.cons (o := ⟨some 74, _, _, _, _, _⟩) rfl (fun K hK => ?_) AllReadyH.nil
        go_simp
        go_at_call 25
        refine (HB.out _ _ _ _ _ H8).mono ?_
        rintro e w9 ⟨B3, d3, rfl, hs9, H9⟩
        refine hK.out _ _ hs9 (fun hHeld => ?_)
        try simp only [Act.put, List.setIfInBounds_toArray, List.set_cons_zero, List.set_cons_succ]
        refine wpAnyH_take (i := 10) (oi := ⟨some 75, _, _, _, _, _⟩) (v := (.agg #[.int .i64 c, .int .i64 s, .slice B1 op.length d1, .slice B2 sg.length d2, .slice B3 t.length d3, .bool false])) rfl (by kernel_rfl) (by kernel_rfl) (by kernel_rfl) (fun _ _ _ h => h) (Or.inl ⟨by rfl, by (intro w' hSw; (try dsimp only at hSw); go_simp)⟩) (by assumption) ?_
        try simp only [Act.put, List.setIfInBounds_toArray, List.set_cons_zero, List.set_cons_succ]
        refine wpAnyH_ready (rs := [11]) (by kernel_rfl) (by simp) ?_
        refine AllReadyH.cons (o := ⟨some 76, _, _, _, _, _⟩) rfl (fun K hK => ?_) AllReadyH.nil
        go_simp
        have hb10 := below_alloc (Below.refl w9.heap.size w9) (.cells #[.int .i64 c, .int .i64 s, .slice B1 op.length d1, .slice B2 sg.length d2, .slice B3 t.length d3, .bool false] 75)
        have hg10 := heap_alloc_new w9 (.cells #[.int .i64 c, .int .i64 s, .slice B1 op.length d1, .slice B2 sg.length d2, .slice B3 t.length d3, .bool false] 75)
        have hz10 : (w9.alloc (.cells #[.int .i64 c, .int .i64 s, .slice B1 op.length d1, .slice B2 sg.length d2, .slice B3 t.length d3, .bool false] 75)).heap.size = w9.heap.size + 1 := by rw [World.size_alloc]
        generalize w9.alloc (.cells #[.int .i64 c, .int .i64 s, .slice B1 op.length d1, .slice B2 sg.length d2, .slice B3 t.length d3, .bool false] 75) = w10 at *
        have f910 := Fr.of_below hb10 (fun _ => False)
        have f710 := H9.out.1.trans f910 (fun _ h => h.elim)
        have hs10 := HS.out _ f710
        have H10 := H7.out.1.below f710
        refine hK.out _ _ hs10 (fun hHeld => ?_)
        try simp only [Act.put, List.setIfInBounds_toArray, List.set_cons_zero, List.set_cons_succ]
        refine wpAnyH_ready (rs := [12]) (by kernel_rfl) (by simp) ?_
        refine AllReadyH.cons (o := ⟨none, _, _, _, _, _⟩) rfl (fun K hK => ?_) AllReadyH.nil
        rw [if_pos (by rfl)]
        refine wp_update_abs _ _ _ (by rfl) bm S.length D (by rfl) H10.ld.own (by show S.length < maxLen; unfold maxLen; omega) (.agg #[.int .i64 kind, .int .i64 view, .int .i64 turn, .int .i64 slot, .int .i64 si]) (.pointer (some ⟨w9.heap.size, 0, none⟩)) (plK kind view turn slot si) (by rfl) (by rfl) hkl (.lit (.int .i64 (w9.heap.size : Int))) [] rfl ?_
        intro w11 hown11 hf11
        have nbm : ∀ {k : Nat} {cells : Array Value} {t : TypeId} {fr : Nat × Nat}, w10.heap[k]? = some (.cells cells t fr) → k ≠ bm := fun h e => H10.ld.bm_no _ _ _ (e ▸ h)
        have hs11 : w11.cell? ⟨gl, 0, none⟩ = some (.map (some bm)) ∧ w11.cell? ⟨w4.heap.size, 0, none⟩ = some (.int .i64 kind) ∧ w11.cell? ⟨w4.heap.size, 1, none⟩ = some (.int .i64 view) ∧ w11.cell? ⟨w4.heap.size, 2, none⟩ = some (.int .i64 turn) ∧ w11.cell? ⟨w4.heap.size, 3, none⟩ = some (.int .i64 slot) ∧ w11.cell? ⟨w4.heap.size, 4, none⟩ = some (.int .i64 si) ∧ w11.cell? ⟨gr, 0, none⟩ = some (.int .i64 c) ∧ w11.cell? ⟨gr, 1, none⟩ = some (.int .i64 s) ∧ w11.cell? ⟨gr, 2, none⟩ = some (.slice Ao op.length co) ∧ w11.cell? ⟨gr, 3, none⟩ = some (.slice As sg.length cs) ∧ w11.cell? ⟨W.heap.size, 0, none⟩ = some (.int .i64 si) ∧ w11.cell? ⟨W.heap.size, 1, none⟩ = some (.slice A3 t.length c3) := by
          have h1 := hf11.blk H10.ld.head (nbm H10.ld.head)
          have g2 := f710.blk H7.out.2.2.2 (fun h => h)
          have h2 := hf11.blk g2 (nbm g2)
          have h3 := hf11.blk H10.hr (nbm H10.hr)
          have g4 := f710.blk H7.out.2.2.1 (fun h => h)
          have h4 := hf11.blk g4 (nbm g4)
          simp [World.cell?, h1, h2, h3, h4]
        refine hK.out _ _ hs11 (fun hHeld => ?_)
        try simp only [Act.put, List.setIfInBounds_toArray, List.set_cons_zero, List.set_cons_succ]
        refine wpAnyH_done (by kernel_rfl) ?_ _
        refine NoPanic.normal ?_
        have hbw := H7.out.1.bw
        have hsz7 := H7.out.1.F.size
        have hbs : base ≤ w7.heap.size := Nat.le_trans hbw hsz7
        have hO : ∀ {v : Value} {l : List Int}, OB w9 w7.heap.size v l → OB w10 base v l := fun h => (h.fr f910 (fun _ _ e => e)).lower hbs
        have hsn : SnAt w10 base w9.heap.size ⟨kind, view, turn, slot, si, c, s, op, sg, t, false⟩ := ⟨B1, d1, B2, d2, B3, d3, hg10, hO H9.out.2.1, hO H9.out.2.2.1, hO H9.out.2.2.2, Nat.le_trans hbs H9.out.1.size⟩
        have hlt : ∀ b ∈ Bs, b < w9.heap.size := fun b hb => by
          obtain ⟨j, hj, rfl⟩ := List.getElem_of_mem hb
          obtain ⟨_, _, _, _, _, _, hg, _⟩ := (H7.out.1.ld.at' j _ _ (List.getElem?_eq_getElem (by rw [← H7.out.1.ld.bl]; exact hj)) (List.getElem?_eq_getElem hj)).2
          exact Nat.lt_of_lt_of_le (blk_lt hg) H9.out.1.size
        have hld := H10.ld.put ⟨kind, view, turn, slot, si, c, s, op, sg, t, false⟩ w9.heap.size ⟨HW.out.1, HW.out.2.1, HW.out.2.2.1, HW.out.2.2.2.1, HW.out.2.2.2.2, HL.out.1, vrA_len hvr, HL.out.2.2.2.2.1, HL.out.2.2.2.2.2.1⟩ hh hsn (fun e => by have := hlt _ e; omega) hown11 hf11
        have H11 := H7.out.1.step ((f710.mono (fun _ e => e.elim)).trans (hf11.mono (S' := LF bm Bs) (fun k e => .inl e)) (fun k e => .inl e)) hld (fun b hb => by
          rcases List.mem_append.1 hb with hb | hb
          · exact .inl hb
          · have e : b = w9.heap.size := by simpa using hb
            exact .inr (by rw [e]; exact H9.out.1.size))
        clear hs7 hs8 hs9 hs10 hs11 hHeld HA HB HS H8 H9
        have b5 := B5.out
        go_wp2
        exact HH.out.2.2.2 _ _ _ _ _ _ _ ⟨rfl, rfl⟩ rfl rfl rfl rfl rfl rfl rfl rfl rfl (congrArg (Value.int .i64) B5.out) H11 (.inr (.inl ⟨hvr, fun e => (by have := (H7.out.1.ld.has _).2 e; rw [hh] at this; cases this), hn, rfl, rfl⟩))
      · have hn : 8192 ≤ S.length := by omega
        have hown := H7.out.1.ld.own
        have hsz := H7.out.1.ld.size
        have gl0 : w7.cell? ⟨gl, 0, none⟩ = some (.map (some bm)) := by simp [World.cell?, H7.out.1.ld.head]
        obtain ⟨n, hnn⟩ : ∃ n, S.length = n := ⟨_, rfl⟩
        rw [hnn] at hown hsz
        have cl : decide ((n : Int) < 8192) = false := decide_eq_false (by omega)
        have cl2 : ¬ n < 8192 := by omega
        go_wp2_with (first | (at_len; refine wpList_len_own _ rfl _ 62 rfl 67 68 undMap ptrE bm n D rfl hown ?_))
        have b5 := B5.out
        go_wp2_with (fail)
        exact HH.out.2.2.2 _ _ _ _ _ _ _ ⟨rfl, rfl⟩ rfl rfl rfl rfl rfl rfl rfl rfl rfl (congrArg (Value.int .i64) B5.out) H7.out.1 (.inr (.inr (.inl ⟨hvr, fun e => (by have := (H7.out.1.ld.has _).2 e; rw [hh] at this; cases this), hn, rfl, rfl⟩)))
end Go.Proofs.Ytnabilhcmplhcaa.Sha
end
section
/- Parts of one work, laid together: LdO, LdL. -/
/-
  ledger.Note: whole.
-/
set_option linter.unusedVariables false
set_option linter.unusedSimpArgs false
namespace Go.Proofs.Ytnabilhcmplhcaa.Sha
open Go.RowKit Go.Proofs.YtnabilhcmplhcaaW.PrintWords Go.Proofs.YtnabilhcmplhcaaW.PrintLast Go.Proofs.YtnabilhcmplhcaaW.PrintMore Go.Proofs.Ytnabilhcmplhcaa.Q Go.Proofs.Ytnabilhcmplhcaa.Fr Go.Proofs.Ytnabilhcmplhcaa.Oct
open Go.Maps Go.ChangeMaps

set_option maxHeartbeats 8000000 in
set_option maxRecDepth 100000 in
theorem exitN (u : Nat → Value) (n : Nat) (w : World) (Q : Exit → Act → World → Prop) (hQ : ∀ a', Fm 114 a' → sl a' 13 = u 13 → Q (.exit 0) a' w) :
    Code.wp Try.prog (bodyN Try.f12 0) Q ⟨#[u 0, u 1, u 2, u 3, u 4, u 5, u 6, u 7, u 8, u 9, u 10, u 11, u 12, u 13, u 14, u 15, u 16, u 17, u 18, u 19, u 20, u 21, u 22, u 23, u 24, u 25, u 26, u 27, u 28, .int .i64 (n : Int), .int .i64 (n : Int), u 31, u 32, u 33, u 34, u 35, u 36, u 37, u 38, u 39, u 40, u 41, u 42, u 43, u 44, u 45, u 46, u 47, u 48, u 49, u 50, u 51, u 52, u 53, u 54, u 55, u 56, u 57, u 58, u 59, u 60, u 61, u 62, u 63, u 64, u 65, u 66, u 67, u 68, u 69, u 70, u 71, u 72, u 73, u 74, u 75, u 76, u 77, u 78, u 79, u 80, u 81, u 82, u 83, u 84, u 85, u 86, u 87, u 88, u 89, u 90, u 91, u 92, u 93, u 94, u 95, u 96, u 97, u 98, u 99, u 100, u 101, u 102, u 103, u 104, u 105, u 106, u 107, u 108, u 109, u 110, u 111, u 112, u 113], []⟩ w := by
  have c0 : decide ((n : Int) < (n : Int)) = false := by simp
  have HQ := Aside0.mk hQ
  clear hQ
  conv => arg 2; whnf
  go_wp2
  exact HQ.out _ ⟨rfl, rfl⟩ rfl
theorem Step.len {kind view turn slot c s : Int} {op sg : List Int} {S : List Sn} {E : List Ev} {v : Int × List Int} {S' : List Sn} {E' : List Ev} (h : Step kind view turn slot c s op sg S E v S' E') : E'.length ≤ E.length + 1 := by
  rcases h with ⟨_, _, rfl⟩ | ⟨_, _, _, _, rfl⟩ | ⟨_, _, _, _, rfl⟩ | ⟨_, _, _, _, _, _, _, rfl⟩ | ⟨_, _, _, _, _, _, _, _, rfl⟩ <;> simp
theorem loopN (kind view turn slot c s : Int) (Ao : Option Addr) (co : Nat) (op : List Int) (As : Option Addr) (cs : Nat) (sg : List Int) (Ab : Option Addr) (cb : Nat) (Av : Option Addr) (cv : Nat) (V : List (Int × List Int)) (hV : V.length ≤ 1048576) (w : World) (base gl bm : Nat) (Bs0 : List Nat) (S0 : List Sn) (gb gr : Nat)
    (hcb : (bodyA c s op sg).length ≤ cb) (lo : op.length + sg.length ≤ 1048576) (hco : op.length ≤ co) (hcs : sg.length ≤ cs) (bo : Bys op) (bs : Bys sg) (hv : ∀ v ∈ V, v.2.length ≤ 140737488355327 ∧ Bys v.2 ∧ (Lit.int .i64 v.1).wf = true) (wk : (Lit.int .i64 kind).wf = true) (wv : (Lit.int .i64 view).wf = true) (wt : (Lit.int .i64 turn).wf = true) (wl : (Lit.int .i64 slot).wf = true)
    (Q : Exit → Act → World → Prop) (hQ : ∀ a' W' D S Bs out E, Fm 114 a' → sl a' 13 = out → Nt w W' base gl bm Bs0 view turn c s Ao co op As cs sg Ab Av V gb gr D S Bs out E → Steps kind view turn slot c s op sg S0 [] V S E → Q (.exit 0) a' W')
    (a : Act) (W : World) (h : Fm 114 a ∧ sl a 0 = .pointer (some ⟨gl, 0, none⟩) ∧ sl a 1 = .int .i64 kind ∧ sl a 3 = .int .i64 slot ∧ sl a 8 = .pointer (some ⟨gb, 0, none⟩) ∧ sl a 10 = .pointer (some ⟨gr, 0, none⟩) ∧ sl a 14 = .slice Ab (bodyA c s op sg).length cb ∧ sl a 28 = .slice Av V.length cv ∧ sl a 29 = .int .i64 (V.length : Int) ∧ sl a 30 = .int .i64 0 ∧ ∃ D S Bs out E, sl a 13 = out ∧ Nt w W base gl bm Bs0 view turn c s Ao co op As cs sg Ab Av V gb gr D S Bs out E ∧ Steps kind view turn slot c s op sg S0 [] (V.take 0) S E ∧ E.length ≤ 0) : (Code.loop (bodyN Try.f12 0)).wp Try.prog Q a W := by
  refine wp_loop_up V.length (fun t a W => Fm 114 a ∧ sl a 0 = .pointer (some ⟨gl, 0, none⟩) ∧ sl a 1 = .int .i64 kind ∧ sl a 3 = .int .i64 slot ∧ sl a 8 = .pointer (some ⟨gb, 0, none⟩) ∧ sl a 10 = .pointer (some ⟨gr, 0, none⟩) ∧ sl a 14 = .slice Ab (bodyA c s op sg).length cb ∧ sl a 28 = .slice Av V.length cv ∧ sl a 29 = .int .i64 (V.length : Int) ∧ sl a 30 = .int .i64 (t : Int) ∧ ∃ D S Bs out E, sl a 13 = out ∧ Nt w W base gl bm Bs0 view turn c s Ao co op As cs sg Ab Av V gb gr D S Bs out E ∧ Steps kind view turn slot c s op sg S0 [] (V.take t) S E ∧ E.length ≤ t) ?_ ?_
  · exact h
  rintro t a W ht ⟨hF, h0, h1, h3, h8, h10, h14, h28, h29, h30, D, S, Bs, out, E, h13, hN, hst, hel⟩
  have ha := fm114 hF
  by_cases h64 : t = V.length
  · subst h64
    rw [h29, h30] at ha
    rw [ha]
    rw [List.take_length] at hst
    exact exitN (sl a) _ W _ fun a' b0 b13 => hQ _ _ _ _ _ _ _ b0 (b13.trans h13) hN hst
  · rw [h0, h1, h3, h8, h10, h13, h14, h28, h29, h30] at ha
    rw [ha]
    have hi : t < V.length := by omega
    have hvt : V[t]? = some (V[t].1, V[t].2) := List.getElem?_eq_getElem hi
    have hvv := hv V[t] (List.getElem_mem hi)
    have hK : ∀ a' W' D' S' Bs' out' E', Fm 114 a' → sl a' 0 = .pointer (some ⟨gl, 0, none⟩) → sl a' 1 = .int .i64 kind → sl a' 3 = .int .i64 slot → sl a' 8 = .pointer (some ⟨gb, 0, none⟩) → sl a' 10 = .pointer (some ⟨gr, 0, none⟩) → sl a' 13 = out' → sl a' 14 = .slice Ab (bodyA c s op sg).length cb → sl a' 28 = .slice Av V.length cv → sl a' 29 = .int .i64 (V.length : Int) → sl a' 30 = .int .i64 ((t : Int) + 1) → Nt w W' base gl bm Bs0 view turn c s Ao co op As cs sg Ab Av V gb gr D' S' Bs' out' E' → Step kind view turn slot c s op sg S E (V[t].1, V[t].2) S' E' → t + 1 ≤ V.length ∧ (fun (t : Nat) a W => Fm 114 a ∧ sl a 0 = .pointer (some ⟨gl, 0, none⟩) ∧ sl a 1 = .int .i64 kind ∧ sl a 3 = .int .i64 slot ∧ sl a 8 = .pointer (some ⟨gb, 0, none⟩) ∧ sl a 10 = .pointer (some ⟨gr, 0, none⟩) ∧ sl a 14 = .slice Ab (bodyA c s op sg).length cb ∧ sl a 28 = .slice Av V.length cv ∧ sl a 29 = .int .i64 (V.length : Int) ∧ sl a 30 = .int .i64 (t : Int) ∧ ∃ D S Bs out E, sl a 13 = out ∧ Nt w W base gl bm Bs0 view turn c s Ao co op As cs sg Ab Av V gb gr D S Bs out E ∧ Steps kind view turn slot c s op sg S0 [] (V.take t) S E ∧ E.length ≤ t) (t + 1) a' W' := fun a' W' D' S' Bs' out' E' c0 c1 c2 c3 c4 c5 c6 c7 c8 c9 c10 c11 c12 => by
      refine ⟨by omega, c0, c1, c2, c3, c4, c5, c7, c8, c9, by rw [c10]; congr 1, D', S', Bs', out', E', c6, c11, ?_, Nat.le_trans c12.len (by omega)⟩
      rw [List.take_add_one, hvt]
      exact hst.snoc c12
    exact roundNn (sl a) kind view turn slot c s Ao co op As cs sg Ab cb Av cv V t _ _ hvt hV w W base gl bm Bs0 gb gr D S Bs out E hcb lo hco hcs bo bs hvv.1 hvv.2.1 wk wv wt wl hvv.2.2 (by omega) hN _ hK
theorem VC.fr0 {w w' : World} {A : Option Addr} {V : List (Int × List Int)} (h : VC w A V) (hf : Fr (fun _ => False) w w') : VC w' A V := fun i v hi => by
  obtain ⟨ad, A3, c3, e, ⟨cells, fr, ht⟩, h1, h2, h3, h4⟩ := h i v hi
  exact ⟨ad, A3, c3, e, ⟨cells, fr, hf.blk ht (fun h => h)⟩, hf.cell h1 (fun h => h), hf.cell h2 (fun h => h), h3, h4.lies hf⟩
theorem row_lower {w : World} {base base' n : Nat} {v : Value} {xs : List Value} {e : TypeId} {sz : Nat} (h : w.ownsRow base e sz v n xs) (hb : base' ≤ base) : w.ownsRow base' e sz v n xs := by
  obtain ⟨hl, ⟨rfl, h2⟩ | ⟨g, cap, cur, rfl, hb', h2⟩⟩ := h
  · exact ⟨hl, .inl ⟨rfl, h2⟩⟩
  · exact ⟨hl, .inr ⟨g, cap, cur, rfl, Nat.le_trans hb hb', h2⟩⟩
set_option maxHeartbeats 8000000 in
set_option maxRecDepth 100000 in
/-- ledger.Note, of the kinds that are noted. -/
theorem note_calls (kind view turn slot c s : Int) (Ao : Option Addr) (co : Nat) (op : List Int) (As : Option Addr) (cs : Nat) (sg : List Int) (Av : Option Addr) (cv : Nat) (V : List (Int × List Int)) (hV : V.length ≤ 1048576) (w : World) (base gl bm : Nat) (D : DataW Unit) (S : List Sn) (Bs : List Nat) (hl : LdAt w base gl bm D S Bs) (hbw : base ≤ w.heap.size) (hk : kind = 2 ∨ kind = 3) (ho : Rd w Ao op) (hg : Rd w As sg) (hvc : VC w Av V)
    (lo : op.length + sg.length ≤ 1048576) (hco : op.length ≤ co) (hcs : sg.length ≤ cs) (bo : Bys op) (bs : Bys sg) (hv : ∀ v ∈ V, v.2.length ≤ 140737488355327 ∧ Bys v.2 ∧ (Lit.int .i64 v.1).wf = true) (wv : (Lit.int .i64 view).wf = true) (wt : (Lit.int .i64 turn).wf = true) (wl : (Lit.int .i64 slot).wf = true) :
    Calls Try.prog 12 #[.pointer (some ⟨gl, 0, none⟩), .int .i64 kind, .agg #[.int .i64 view, .int .i64 turn], .int .i64 slot, .agg #[.int .i64 c, .int .i64 s, .slice Ao op.length co, .slice As sg.length cs], .slice Av V.length cv] w fun e w' => ∃ D' S' Bs' out E, e = .returned out ∧ LdAt w' base gl bm D' S' Bs' ∧ (∀ b ∈ Bs', b ∈ Bs ∨ w.heap.size ≤ b) ∧ EvRow w' w.heap.size out E ∧ Steps kind view turn slot c s op sg S [] V S' E ∧ Fr (LF bm Bs) w w' := by
  have HH := Aside0.mk (And.intro hl (And.intro hbw (And.intro ho (And.intro hg (And.intro hvc (And.intro lo (And.intro hV hv)))))))
  have wk : (Lit.int .i64 kind).wf = true := by rcases hk with rfl | rfl <;> rfl
  have HW := Aside0.mk (And.intro wk (And.intro wv (And.intro wt (And.intro wl (And.intro bo bs)))))
  have e2 : decide (kind = 2) = true ∨ decide (kind = 3) = true := by rcases hk with rfl | rfl <;> simp
  clear hl hbw ho hg hvc lo hV hv wk wv wt wl bo bs e2
  have hb2 : Below w.heap.size w ((w.alloc (.cells #[.int .i64 view, .int .i64 turn] 28)).alloc (.cells #[.int .i64 c, .int .i64 s, .slice Ao op.length co, .slice As sg.length cs] 31)) := below_alloc (below_alloc (Below.refl _ _) _) _
  have hga := heap_alloc_new (w.alloc (.cells #[.int .i64 view, .int .i64 turn] 28)) (.cells #[.int .i64 c, .int .i64 s, .slice Ao op.length co, .slice As sg.length cs] 31)
  rw [World.size_alloc] at hga
  have hgb := (Fr.of_below (below_alloc (Below.refl _ (w.alloc (.cells #[.int .i64 view, .int .i64 turn] 28))) (.cells #[.int .i64 c, .int .i64 s, .slice Ao op.length co, .slice As sg.length cs] 31)) (fun _ => False)).blk (heap_alloc_new w (.cells #[.int .i64 view, .int .i64 turn] 28)) (fun h => h)
  have main : ∀ (P : Exit → Act → World → Prop), True := fun _ => trivial
  clear main
  rcases hk with rfl | rfl
  · go_enter Try.func12, Try.ntmps12
    go_wp2_with (fail)
    generalize (w.alloc (.cells #[.int .i64 view, .int .i64 turn] 28)).alloc (.cells #[.int .i64 c, .int .i64 s, .slice Ao op.length co, .slice As sg.length cs] 31) = w2 at *
    have f2 := Fr.of_below hb2 (fun _ => False)
    refine (body_calls c s Ao co op As cs sg w2 (HH.out.2.2.1.lies f2) hco (HH.out.2.2.2.1.lies f2) hcs HH.out.2.2.2.2.2.1).mono ?_
    rintro e w4 ⟨Ab, cb, rfl, hcb, hO4, hb4⟩
    have f4 := Fr.of_below hb4 (fun _ => False)
    have F4 := f2.trans f4 (fun _ h => h.elim)
    have HN : Nt w4 w4 base gl bm Bs view turn c s Ao co op As cs sg Ab Av V w.heap.size (w.heap.size + 1) D S Bs (.slice none 0 0) [] :=
      ⟨Fr.refl _ _, HH.out.1.fr0 F4, fun b hb => .inl hb, ⟨_, _, HH.out.1.fr0 F4⟩, f4.blk hgb (fun h => h), f4.blk hga (fun h => h), HH.out.2.2.1.lies F4, HH.out.2.2.2.1.lies F4, QB.rd (q_of_own hO4), HH.out.2.2.2.2.1.fr0 F4, ⟨[], rfl, ⟨rfl, .inl ⟨rfl, rfl⟩⟩, fun j e c hj => by simp at hj⟩, Nat.le_trans HH.out.2.1 F4.size⟩
    have HN := Aside0.mk (And.intro HN F4)
    clear hb2 hga hgb f2 hO4 hb4 f4 F4
    go_wp2_with (fail)
    refine loopN 2 view turn slot c s Ao co op As cs sg Ab cb Av cv V HH.out.2.2.2.2.2.2.1 w4 base gl bm Bs S w.heap.size (w.heap.size + 1) hcb HH.out.2.2.2.2.2.1 hco hcs HW.out.2.2.2.2.1 HW.out.2.2.2.2.2 HH.out.2.2.2.2.2.2.2 HW.out.1 HW.out.2.1 HW.out.2.2.1 HW.out.2.2.2.1 _ ?_ _ _ ⟨⟨rfl, rfl⟩, rfl, rfl, rfl, rfl, rfl, rfl, rfl, rfl, rfl, _, _, _, _, _, rfl, HN.out.1, ⟨rfl, rfl⟩, Nat.le_refl _⟩
    intro a' W' D' S' Bs' out E hFm j13 hR hst
    rw [fm114 hFm, j13]
    have HR := Aside0.mk (And.intro hR hst)
    clear hR hst hFm j13
    go_wp2
    go_ret
    refine ⟨D', S', Bs', out, E, rfl, HR.out.1.ld, fun b hb => (HR.out.1.nb b hb).imp id (fun h => Nat.le_trans HN.out.2.size h), ?_, HR.out.2, (HN.out.2.mono (fun _ h => h.elim)).trans HR.out.1.F (fun k hk => .inl hk)⟩
    obtain ⟨css, h1, h2, h3⟩ := HR.out.1.ev
    exact ⟨css, h1, row_lower h2 HN.out.2.size, h3⟩
  · go_enter Try.func12, Try.ntmps12
    go_wp2_with (fail)
    generalize (w.alloc (.cells #[.int .i64 view, .int .i64 turn] 28)).alloc (.cells #[.int .i64 c, .int .i64 s, .slice Ao op.length co, .slice As sg.length cs] 31) = w2 at *
    have f2 := Fr.of_below hb2 (fun _ => False)
    refine (body_calls c s Ao co op As cs sg w2 (HH.out.2.2.1.lies f2) hco (HH.out.2.2.2.1.lies f2) hcs HH.out.2.2.2.2.2.1).mono ?_
    rintro e w4 ⟨Ab, cb, rfl, hcb, hO4, hb4⟩
    have f4 := Fr.of_below hb4 (fun _ => False)
    have F4 := f2.trans f4 (fun _ h => h.elim)
    have HN : Nt w4 w4 base gl bm Bs view turn c s Ao co op As cs sg Ab Av V w.heap.size (w.heap.size + 1) D S Bs (.slice none 0 0) [] :=
      ⟨Fr.refl _ _, HH.out.1.fr0 F4, fun b hb => .inl hb, ⟨_, _, HH.out.1.fr0 F4⟩, f4.blk hgb (fun h => h), f4.blk hga (fun h => h), HH.out.2.2.1.lies F4, HH.out.2.2.2.1.lies F4, QB.rd (q_of_own hO4), HH.out.2.2.2.2.1.fr0 F4, ⟨[], rfl, ⟨rfl, .inl ⟨rfl, rfl⟩⟩, fun j e c hj => by simp at hj⟩, Nat.le_trans HH.out.2.1 F4.size⟩
    have HN := Aside0.mk (And.intro HN F4)
    clear hb2 hga hgb f2 hO4 hb4 f4 F4
    go_wp2_with (fail)
    refine loopN 3 view turn slot c s Ao co op As cs sg Ab cb Av cv V HH.out.2.2.2.2.2.2.1 w4 base gl bm Bs S w.heap.size (w.heap.size + 1) hcb HH.out.2.2.2.2.2.1 hco hcs HW.out.2.2.2.2.1 HW.out.2.2.2.2.2 HH.out.2.2.2.2.2.2.2 HW.out.1 HW.out.2.1 HW.out.2.2.1 HW.out.2.2.2.1 _ ?_ _ _ ⟨⟨rfl, rfl⟩, rfl, rfl, rfl, rfl, rfl, rfl, rfl, rfl, rfl, _, _, _, _, _, rfl, HN.out.1, ⟨rfl, rfl⟩, Nat.le_refl _⟩
    intro a' W' D' S' Bs' out E hFm j13 hR hst
    rw [fm114 hFm, j13]
    have HR := Aside0.mk (And.intro hR hst)
    clear hR hst hFm j13
    go_wp2
    go_ret
    refine ⟨D', S', Bs', out, E, rfl, HR.out.1.ld, fun b hb => (HR.out.1.nb b hb).imp id (fun h => Nat.le_trans HN.out.2.size h), ?_, HR.out.2, (HN.out.2.mono (fun _ h => h.elim)).trans HR.out.1.F (fun k hk => .inl hk)⟩
    obtain ⟨css, h1, h2, h3⟩ := HR.out.1.ev
    exact ⟨css, h1, row_lower h2 HN.out.2.size, h3⟩
end Go.Proofs.Ytnabilhcmplhcaa.Sha

/-
  The ledger's example is right; LedgerNames.
-/
set_option linter.unusedVariables false
set_option linter.unusedSimpArgs false
namespace Go.Proofs.Ytnabilhcmplhcaa.Sha
open Go.RowKit Go.Proofs.YtnabilhcmplhcaaW.PrintWords Go.Proofs.YtnabilhcmplhcaaW.PrintLast Go.Proofs.YtnabilhcmplhcaaW.PrintMore Go.Proofs.Ytnabilhcmplhcaa.Q Go.Proofs.Ytnabilhcmplhcaa.Fr Go.Proofs.Ytnabilhcmplhcaa.Oct
open Go.Maps Go.ChangeMaps

theorem evrow_len {w : World} {base : Nat} {v : Value} {E : List Ev} (h : EvRow w base v E) : ∃ A c, v = .slice A E.length c := by
  obtain ⟨css, _, ⟨_, ⟨rfl, h2⟩ | ⟨g, cap, cur, rfl, _⟩⟩, _⟩ := h
  · exact ⟨none, 0, by rw [h2]⟩
  · exact ⟨_, _, rfl⟩
theorem evrow_one {w : World} {base : Nat} {v : Value} {ev : Ev} (h : EvRow w base v [ev]) : ∃ g cap, v = .slice (some ⟨g, 0, none⟩) 1 cap ∧ w.cell? ⟨g, 1, none⟩ = some (.int .i64 ev.view) ∧ w.cell? ⟨g, 2, none⟩ = some (.int .i64 ev.turn) ∧ w.cell? ⟨g, 3, none⟩ = some (.int .i64 ev.slot) ∧ w.cell? ⟨g, 4, none⟩ = some (.int .i64 ev.signer) ∧ w.cell? ⟨g, 6, none⟩ = some (.int .i64 ev.kind) := by
  obtain ⟨css, hcl, ⟨hl, ⟨rfl, h2⟩ | ⟨g, cap, cur, rfl, hb, hg, h1, h2, h3, h4⟩⟩, hev⟩ := h
  · cases h2
  · match css, hcl with
    | [c], _ =>
      obtain ⟨hc, B1, d1, B2, d2, B3, d3, B4, d4, B5, d5, B6, d6, e, _⟩ := hev 0 ev c rfl rfl
      injection e with e
      have e := congrArg Array.toList e
      rw [List.toList_toArray] at e
      rw [List.flatten_singleton] at h4
      have hat : ∀ (j : Nat) (u : Value), c[j]? = some u → w.cell? ⟨g, j, none⟩ = some u := fun j u hu => by
        rw [← h4] at hu
        simp only [World.cell?, hg]
        rw [List.getElem?_take] at hu
        split at hu
        · simpa using hu
        · cases hu
      rw [e] at hat
      exact ⟨g, cap, rfl, hat 1 _ rfl, hat 2 _ rfl, hat 3 _ rfl, hat 4 _ rfl, hat 6 _ rfl⟩
theorem LdAt.lf_ge {w : World} {base gl bm : Nat} {D : DataW Unit} {S : List Sn} {Bs : List Nat} (h : LdAt w base gl bm D S Bs) {k : Nat} (hk : LF bm Bs k) : base ≤ k := by
  rcases hk with rfl | hk
  · exact h.hbm
  · obtain ⟨i, hi, rfl⟩ := List.getElem_of_mem hk
    obtain ⟨_, _, _, _, _, _, _, _, _, _, hle⟩ := (h.at' i _ _ (List.getElem?_eq_getElem (by rw [← h.bl]; exact hi)) (List.getElem?_eq_getElem hi)).2
    exact hle
theorem VC.one {w : World} {g : Nat} {si : Int} {A : Option Addr} {c : Nat} {t : List Int} {fr : Nat × Nat} (h : w.heap[g]? = some (.cells #[.int .i64 si, .slice A t.length c] 55 fr)) (hc : t.length ≤ c) (hr : Rd w A t) : VC w (some ⟨g, 0, none⟩) [(si, t)] := fun i v hi => by
  cases i with
  | zero =>
    have : v = (si, t) := by simpa using hi.symm
    subst this
    exact ⟨_, A, c, rfl, ⟨_, _, h⟩, by rw [add_at]; simp [World.cell?, h], by rw [add_at]; simp [World.cell?, h], hc, hr⟩
  | succ i => simp at hi
/-- Who makes a vote makes a right one. -/
theorem vrA_made {kind view turn slot : Int} {body : List Int} {signer : Int} (h0 : 0 ≤ signer) (h1 : signer ≤ 15) : vrA kind view turn slot body signer (vsA kind view turn slot body signer) = true := by
  unfold vrA repK
  rw [if_neg (by omega), if_neg (by omega)]
  simp
  omega
def sn0 (told : Bool) : Sn := ⟨2, 0, 0, 1, 3, 0, 0, [], [], vsA 2 0 0 1 (bodyA 0 0 [] []) 3, told⟩
theorem bodies_ne : bodyA 0 0 [] [] ≠ bodyA 1 1 [] [] := by decide +kernel
theorem alive_x {S' : List Sn} {E : List Ev} (h : Steps 2 0 0 1 0 0 [] [] [] [] [(3, vsA 2 0 0 1 (bodyA 0 0 [] []) 3)] S' E) : S' = [sn0 false] ∧ E = [] := by
  obtain ⟨S1, E1, h1, rfl, rfl⟩ := h
  have hr : vrA 2 0 0 1 (bodyA 0 0 [] []) 3 (vsA 2 0 0 1 (bodyA 0 0 [] []) 3) = true := vrA_made (by decide) (by decide)
  rcases h1 with ⟨h, _⟩ | ⟨_, _, _, rfl, rfl⟩ | ⟨_, _, h, _⟩ | ⟨_, i, x, h, _⟩ | ⟨_, i, x, h, _⟩
  · rw [hr] at h; cases h
  · exact ⟨rfl, rfl⟩
  · simp at h
  · simp at h
  · simp at h
theorem one_get {i : Nat} {x y : Sn} (h : [y][i]? = some x) : i = 0 ∧ x = y := by
  cases i with
  | zero => exact ⟨rfl, by simpa using h.symm⟩
  | succ i => simp at h
theorem alive_y {S' : List Sn} {E : List Ev} (h : Steps 2 0 0 1 1 1 [] [] [sn0 false] [] [(3, vsA 2 0 0 1 (bodyA 1 1 [] []) 3)] S' E) : S' = [sn0 true] ∧ ∃ ev, E = [ev] ∧ ev.signer = 3 := by
  obtain ⟨S1, E1, h1, rfl, rfl⟩ := h
  have hr : vrA 2 0 0 1 (bodyA 1 1 [] []) 3 (vsA 2 0 0 1 (bodyA 1 1 [] []) 3) = true := vrA_made (by decide) (by decide)
  have hk : plK 2 0 0 1 3 ∈ [sn0 false].map Sn.key := by simp [Sn.key, sn0]
  rcases h1 with ⟨h, _⟩ | ⟨_, h, _⟩ | ⟨_, h, _⟩ | ⟨_, i, x, hi, _, h, _⟩ | ⟨_, i, x, hi, _, h1, h2, rfl, rfl⟩
  · rw [hr] at h; cases h
  · exact absurd hk h
  · exact absurd hk h
  · obtain ⟨rfl, rfl⟩ := one_get hi
    rcases h with h | h
    · cases h
    · exact absurd h bodies_ne
  · obtain ⟨rfl, rfl⟩ := one_get hi
    refine ⟨rfl, _, rfl, ?_⟩
    unfold mkEv
    split <;> rfl
theorem alive_z {S' : List Sn} {E : List Ev} (h : Steps 2 0 0 1 1 1 [] [] [sn0 true] [] [(3, vsA 2 0 0 1 (bodyA 1 1 [] []) 3)] S' E) : S' = [sn0 true] ∧ E = [] := by
  obtain ⟨S1, E1, h1, rfl, rfl⟩ := h
  have hr : vrA 2 0 0 1 (bodyA 1 1 [] []) 3 (vsA 2 0 0 1 (bodyA 1 1 [] []) 3) = true := vrA_made (by decide) (by decide)
  have hk : plK 2 0 0 1 3 ∈ [sn0 true].map Sn.key := by simp [Sn.key, sn0]
  rcases h1 with ⟨h, _⟩ | ⟨_, h, _⟩ | ⟨_, h, _⟩ | ⟨_, i, x, hi, _, h, rfl, rfl⟩ | ⟨_, i, x, hi, _, h1, _⟩
  · rw [hr] at h; cases h
  · exact absurd hk h
  · exact absurd hk h
  · exact ⟨rfl, rfl⟩
  · obtain ⟨rfl, rfl⟩ := one_get hi
    cases h1
def Z4q : Array Value := #[.int .i64 0, .int .i64 0, .slice none 0 0, .slice none 0 0]
set_option maxHeartbeats 8000000 in
set_option maxRecDepth 100000 in
theorem lalive_calls (w : World) : Calls Try.prog 8 #[] w fun e w' => e = .returned (.bool true) ∧ Below w.heap.size w w' := by
  go_enter Try.func8, Try.ntmps8
  go_wp2_with (fail)
  refine (lnew_calls w).mono ?_
  rintro e w1 ⟨gl, bm, rfl, hL1, hb1⟩
  have H1 := Aside0.mk (And.intro hL1 (Fr.of_below hb1 (fun _ => False)))
  clear hL1 hb1
  go_wp2_with (first | ((with_reducible refine gate_dst (N := 2) rfl ?_); refine wpList_alloc_abs (by rfl) 31 (by rfl) (.agg Z4q) (by kernel_rfl) ?_; intro w2 hb2 hs2 hg2) | ((with_reducible refine gate_store (p := 2) rfl ?_); refine Aside0.out ?_))
  refine ⟨?_⟩
  refine wpList_store_abs (by rfl) 31 _ _ (by rfl) w1.heap.size #[.int .i64 1, .int .i64 1, .slice none 0 0, .slice none 0 0] (by rfl) (by rfl) 31 Z4q hg2 (by kernel_rfl) (by rfl) (by simp [Value.oneCell']) ?_
  intro w3 hf3 hs3 hg3
  have F3 : Fr (fun _ => False) w1 w3 := (Fr.of_below hb2 (fun _ => False)).trans hf3 (fun k hk => .inr (by omega))
  have H3 := Aside0.mk (And.intro (H1.out.1.fr0 F3) (And.intro (H1.out.2.trans F3 (fun _ h => h.elim)) hg3))
  obtain ⟨gr, hgr⟩ : ∃ g, w1.heap.size = g := ⟨_, rfl⟩
  rw [hgr] at H3
  rw [hgr]
  clear H1 hb2 hs2 hg2 hf3 hs3 hg3 F3 hgr
  go_wp2_with (fail)
  refine (made_calls 0 0 1 0 0 none 0 [] none 0 [] 3 w3 (Rd.nil _ _) (Nat.le_refl _) (Rd.nil _ _) (Nat.le_refl _) (by decide)).mono ?_
  rintro e w4 ⟨A4, c4, rfl, hc4, hO4, hb4⟩
  have F4 := Fr.of_below hb4 (fun _ => False)
  have H4 := Aside0.mk (And.intro (H3.out.1.fr0 F4) (And.intro (H3.out.2.1.trans F4 (fun _ h => h.elim)) (And.intro (F4.blk H3.out.2.2 (fun h => h)) (QB.rd (q_of_own hO4)))))
  clear H3 hO4 hb4 F4
  go_wp2_with (fail)
  have hg5 := heap_alloc_new w4 (.cells #[.int .i64 3, .slice A4 (vsA 2 0 0 1 (bodyA 0 0 [] []) 3).length c4] 55)
  have hb5 := below_alloc (Below.refl w4.heap.size w4) (.cells #[.int .i64 3, .slice A4 (vsA 2 0 0 1 (bodyA 0 0 [] []) 3).length c4] 55)
  generalize w4.alloc (.cells #[.int .i64 3, .slice A4 (vsA 2 0 0 1 (bodyA 0 0 [] []) 3).length c4] 55) = w5 at *
  have F5 := Fr.of_below hb5 (fun _ => False)
  have L5 := H4.out.1.fr0 F5
  have G5 := H4.out.2.1.trans F5 (fun _ h => h.elim)
  refine (note_calls 2 0 0 1 0 0 none 0 [] none 0 [] (some ⟨w4.heap.size, 0, none⟩) 1 [(3, vsA 2 0 0 1 (bodyA 0 0 [] []) 3)] (by simp) w5 w.heap.size gl bm _ _ _ L5 G5.size (.inl rfl) (Rd.nil _ _) (Rd.nil _ _) (VC.one hg5 hc4 (H4.out.2.2.2.lies F5)) (by simp) (by simp) (by simp) Bys.nil Bys.nil (fun v hv => by
    have : v = (3, vsA 2 0 0 1 (bodyA 0 0 [] []) 3) := by simpa using hv
    subst this
    exact ⟨Nat.le_trans (vsA_len 2 0 0 1 _ 3) (by decide), vsA_bys 2 0 0 1 _ 3, rfl⟩) rfl rfl rfl).mono ?_
  rintro e w6 ⟨D6, S6, Bs6, x6, E6, rfl, L6, nb6, ev6, st6, f6⟩
  obtain ⟨rfl, rfl⟩ := alive_x st6
  obtain ⟨Ax, cx, rfl⟩ := evrow_len ev6
  have H6 := Aside0.mk (And.intro L6 (And.intro (G5.trans f6 (fun k hk => .inr (L5.lf_ge hk))) (f6.blk (F5.blk H4.out.2.2.1 (fun h => h)) (LF.not L5 (F5.blk H4.out.2.2.1 (fun h => h)) (by decide)))))
  clear H4 hg5 hb5 F5 L5 G5 L6 nb6 ev6 st6 f6
  have hS : ∀ w', Fr (fun _ => False) w6 w' → w'.cell? ⟨gr, 0, none⟩ = some (.int .i64 1) ∧ w'.cell? ⟨gr, 1, none⟩ = some (.int .i64 1) ∧ w'.cell? ⟨gr, 2, none⟩ = some (.slice none 0 0) ∧ w'.cell? ⟨gr, 3, none⟩ = some (.slice none 0 0) := fun w' hf => by
    have h1 := hf.blk H6.out.2.2 (fun h => h)
    simp [World.cell?, h1]
  have HA : ∀ w1, Fr (fun _ => False) w6 w1 → Calls Try.prog 19 #[.agg #[.int .i64 0, .int .i64 0], .int .i64 1, .agg #[.int .i64 1, .int .i64 1, .slice none 0 0, .slice none 0 0], .int .i64 3] w1 fun e w2 => ∃ A5 c5, e = .returned (.agg #[.int .i64 3, .slice A5 (vsA 2 0 0 1 (bodyA 1 1 [] []) 3).length c5]) ∧ (w2.cell? ⟨gr, 0, none⟩ = some (.int .i64 1) ∧ w2.cell? ⟨gr, 1, none⟩ = some (.int .i64 1) ∧ w2.cell? ⟨gr, 2, none⟩ = some (.slice none 0 0) ∧ w2.cell? ⟨gr, 3, none⟩ = some (.slice none 0 0)) ∧ Aside0 (Fr (fun _ => False) w6 w2 ∧ (vsA 2 0 0 1 (bodyA 1 1 [] []) 3).length ≤ c5 ∧ Rd w2 A5 (vsA 2 0 0 1 (bodyA 1 1 [] []) 3)) := by
    intro w1 hf1
    refine (made_calls 0 0 1 1 1 none 0 [] none 0 [] 3 w1 (Rd.nil _ _) (Nat.le_refl _) (Rd.nil _ _) (Nat.le_refl _) (by decide)).mono ?_
    rintro e w2 ⟨A5, c5, rfl, hc5, hO, hb⟩
    have f2 := hf1.trans (Fr.of_below hb (fun _ => False)) (fun _ h => h.elim)
    exact ⟨A5, c5, rfl, hS _ f2, ⟨f2, hc5, QB.rd (q_of_own hO)⟩⟩
  have HS := Aside0.mk hS
  have hs0 := hS _ (Fr.refl _ _)
  have HA := Aside0.mk HA
  clear hS
  go_wp2_with (fail)
  refine wp_region_held_drew (S := (fun w' => w'.cell? ⟨gr, 0, none⟩ = some (.int .i64 1) ∧ w'.cell? ⟨gr, 1, none⟩ = some (.int .i64 1) ∧ w'.cell? ⟨gr, 2, none⟩ = some (.slice none 0 0) ∧ w'.cell? ⟨gr, 3, none⟩ = some (.slice none 0 0))) (by kernel_rfl) hs0 (fun hHeld => ?_)
  refine wpAnyH_take (i := 0) (oi := ⟨some 18, _, _, _, _, _⟩) (v := (.pointer (some ⟨gl, 0, none⟩))) rfl (by kernel_rfl) (by kernel_rfl) (by kernel_rfl) (fun _ _ _ h => h) (Or.inl ⟨by rfl, by (intro w' hSw; (try dsimp only at hSw); go_simp)⟩) (by assumption) ?_
  try simp only [Act.put, List.setIfInBounds_toArray, List.set_cons_zero, List.set_cons_succ]
  refine wpAnyH_take (i := 1) (oi := ⟨some 19, _, _, _, _, _⟩) (v := (.agg #[.int .i64 0, .int .i64 0])) rfl (by kernel_rfl) (by kernel_rfl) (by kernel_rfl) (fun _ _ _ h => h) (Or.inl ⟨by rfl, by (intro w' hSw; (try dsimp only at hSw); go_simp)⟩) (by assumption) ?_
  try simp only [Act.put, List.setIfInBounds_toArray, List.set_cons_zero, List.set_cons_succ]
  refine wpAnyH_take (i := 2) (oi := ⟨some 20, _, _, _, _, _⟩) (v := (.agg #[.int .i64 1, .int .i64 1, .slice none 0 0, .slice none 0 0])) rfl (by kernel_rfl) (by kernel_rfl) (by kernel_rfl) (fun _ _ _ h => h) (Or.inl ⟨by rfl, by (intro w' hSw; (try dsimp only at hSw); go_simp)⟩) (by assumption) ?_
  try simp only [Act.put, List.setIfInBounds_toArray, List.set_cons_zero, List.set_cons_succ]
  refine wpAnyH_take (i := 3) (oi := ⟨some 21, _, _, _, _, _⟩) (v := (.agg #[.int .i64 0, .int .i64 0])) rfl (by kernel_rfl) (by kernel_rfl) (by kernel_rfl) (fun _ _ _ h => h) (Or.inl ⟨by rfl, by (intro w' hSw; (try dsimp only at hSw); go_simp)⟩) (by assumption) ?_
  try simp only [Act.put, List.setIfInBounds_toArray, List.set_cons_zero, List.set_cons_succ]
  refine wpAnyH_take (i := 4) (oi := ⟨some 22, _, _, _, _, _⟩) (v := (.agg #[.int .i64 1, .int .i64 1, .slice none 0 0, .slice none 0 0])) rfl (by kernel_rfl) (by kernel_rfl) (by kernel_rfl) (fun _ _ _ h => h) (Or.inl ⟨by rfl, by (intro w' hSw; (try dsimp only at hSw); go_simp)⟩) (by assumption) ?_
  try simp only [Act.put, List.setIfInBounds_toArray, List.set_cons_zero, List.set_cons_succ]
  refine wpAnyH_ready (rs := [5]) (by kernel_rfl) (by simp) ?_
  refine AllReadyH.cons (o := ⟨some 23, _, _, _, _, _⟩) rfl (fun K hK => ?_) AllReadyH.nil
  go_simp
  go_at_call 19
  refine (HA.out _ (Fr.refl _ _).of_drew).mono ?_
  rintro e w7 ⟨A7, c7, rfl, hs1, H7⟩
  refine hK.out _ _ hs1 (fun hHeld => ?_)
  try simp only [Act.put, List.setIfInBounds_toArray, List.set_cons_zero, List.set_cons_succ]
  refine wpAnyH_ready (rs := [6]) (by kernel_rfl) (by simp) ?_
  refine AllReadyH.cons (o := ⟨some 24, _, _, _, _, _⟩) rfl (fun K hK => ?_) AllReadyH.nil
  go_simp
  have hgv := heap_alloc_new w7 (.cells #[.int .i64 3, .slice A7 (vsA 2 0 0 1 (bodyA 1 1 [] []) 3).length c7] 55)
  have hbv := below_alloc (Below.refl w7.heap.size w7) (.cells #[.int .i64 3, .slice A7 (vsA 2 0 0 1 (bodyA 1 1 [] []) 3).length c7] 55)
  generalize w7.alloc (.cells #[.int .i64 3, .slice A7 (vsA 2 0 0 1 (bodyA 1 1 [] []) 3).length c7] 55) = w8 at *
  have fv := Fr.of_below hbv (fun _ => False)
  have F8 := H7.out.1.trans fv (fun _ h => h.elim)
  have hs2 := HS.out _ F8
  have L8 := H6.out.1.fr0 F8
  have G8 := H6.out.2.1.trans F8 (fun _ h => h.elim)
  refine hK.out _ _ hs2 (fun hHeld => ?_)
  try simp only [Act.put, List.setIfInBounds_toArray, List.set_cons_zero, List.set_cons_succ]
  refine wpAnyH_ready (rs := [7]) (by kernel_rfl) (by simp) ?_
  refine AllReadyH.cons (o := ⟨some 25, _, _, _, _, _⟩) rfl (fun K hK => ?_) AllReadyH.nil
  go_simp
  go_at_call 12
  refine (note_calls 2 0 0 1 1 1 none 0 [] none 0 [] (some ⟨w7.heap.size, 0, none⟩) 1 [(3, vsA 2 0 0 1 (bodyA 1 1 [] []) 3)] (by simp) w8 w.heap.size gl bm _ _ _ L8 G8.size (.inl rfl) (Rd.nil _ _) (Rd.nil _ _) (VC.one hgv H7.out.2.1 (H7.out.2.2.lies fv)) (by simp) (by simp) (by simp) Bys.nil Bys.nil (fun v hv => by
    have : v = (3, vsA 2 0 0 1 (bodyA 1 1 [] []) 3) := by simpa using hv
    subst this
    exact ⟨Nat.le_trans (vsA_len 2 0 0 1 _ 3) (by decide), vsA_bys 2 0 0 1 _ 3, rfl⟩) rfl rfl rfl).mono ?_
  rintro e w9 ⟨D9, S9, Bs9, x9, E9, rfl, L9, nb9, ev9, st9, f9⟩
  have hgr8 := F8.blk H6.out.2.2 (fun h => h)
  have hgr9 := f9.blk hgr8 (LF.not L8 hgr8 (by decide))
  have hs3 : w9.cell? ⟨gr, 0, none⟩ = some (.int .i64 1) ∧ w9.cell? ⟨gr, 1, none⟩ = some (.int .i64 1) ∧ w9.cell? ⟨gr, 2, none⟩ = some (.slice none 0 0) ∧ w9.cell? ⟨gr, 3, none⟩ = some (.slice none 0 0) := by simp [World.cell?, hgr9]
  refine hK.out _ _ hs3 (fun hHeld => ?_)
  try simp only [Act.put, List.setIfInBounds_toArray, List.set_cons_zero, List.set_cons_succ]
  refine wpAnyH_take (i := 8) (oi := ⟨some 4, _, _, _, _, _⟩) (v := x9) rfl (by kernel_rfl) (by kernel_rfl) (by kernel_rfl) (fun _ _ _ h => h) (Or.inl ⟨by rfl, by (intro w' hSw; (try dsimp only at hSw); go_simp)⟩) (by assumption) ?_
  try simp only [Act.put, List.setIfInBounds_toArray, List.set_cons_zero, List.set_cons_succ]
  refine wpAnyH_done (by kernel_rfl) ?_ _
  have G9 : Fr (fun _ => False) w w9 := G8.trans f9 (fun k hk => .inr (L8.lf_ge hk))
  obtain ⟨rfl, ev, rfl, hsg⟩ := alive_y st9
  obtain ⟨gy, cy, rfl, _⟩ := evrow_one ev9
  have H9 := Aside0.mk (And.intro L9 (And.intro G9 hgr9))
  have HY := Aside0.mk (And.intro ev9 hsg)
  clear HA HS hs0 hs1 hs2 hs3 hHeld H6 H7 hgv hbv fv F8 L8 G8 L9 nb9 ev9 st9 f9 hgr8 hgr9 G9 hsg
  have hS : ∀ w', Fr (fun _ => False) w9 w' → w'.cell? ⟨gr, 0, none⟩ = some (.int .i64 1) ∧ w'.cell? ⟨gr, 1, none⟩ = some (.int .i64 1) ∧ w'.cell? ⟨gr, 2, none⟩ = some (.slice none 0 0) ∧ w'.cell? ⟨gr, 3, none⟩ = some (.slice none 0 0) := fun w' hf => by
    have h1 := hf.blk H9.out.2.2 (fun h => h)
    simp [World.cell?, h1]
  have HA : ∀ w1, Fr (fun _ => False) w9 w1 → Calls Try.prog 19 #[.agg #[.int .i64 0, .int .i64 0], .int .i64 1, .agg #[.int .i64 1, .int .i64 1, .slice none 0 0, .slice none 0 0], .int .i64 3] w1 fun e w2 => ∃ A5 c5, e = .returned (.agg #[.int .i64 3, .slice A5 (vsA 2 0 0 1 (bodyA 1 1 [] []) 3).length c5]) ∧ (w2.cell? ⟨gr, 0, none⟩ = some (.int .i64 1) ∧ w2.cell? ⟨gr, 1, none⟩ = some (.int .i64 1) ∧ w2.cell? ⟨gr, 2, none⟩ = some (.slice none 0 0) ∧ w2.cell? ⟨gr, 3, none⟩ = some (.slice none 0 0)) ∧ Aside0 (Fr (fun _ => False) w9 w2 ∧ (vsA 2 0 0 1 (bodyA 1 1 [] []) 3).length ≤ c5 ∧ Rd w2 A5 (vsA 2 0 0 1 (bodyA 1 1 [] []) 3)) := by
    intro w1 hf1
    refine (made_calls 0 0 1 1 1 none 0 [] none 0 [] 3 w1 (Rd.nil _ _) (Nat.le_refl _) (Rd.nil _ _) (Nat.le_refl _) (by decide)).mono ?_
    rintro e w2 ⟨A5, c5, rfl, hc5, hO, hb⟩
    have f2 := hf1.trans (Fr.of_below hb (fun _ => False)) (fun _ h => h.elim)
    exact ⟨A5, c5, rfl, hS _ f2, ⟨f2, hc5, QB.rd (q_of_own hO)⟩⟩
  have HS := Aside0.mk hS
  have hs0 := hS _ (Fr.refl _ _)
  have HA := Aside0.mk HA
  clear hS
  go_wp2_with (fail)
  refine wp_region_held_drew (S := (fun w' => w'.cell? ⟨gr, 0, none⟩ = some (.int .i64 1) ∧ w'.cell? ⟨gr, 1, none⟩ = some (.int .i64 1) ∧ w'.cell? ⟨gr, 2, none⟩ = some (.slice none 0 0) ∧ w'.cell? ⟨gr, 3, none⟩ = some (.slice none 0 0))) (by kernel_rfl) hs0 (fun hHeld => ?_)
  refine wpAnyH_take (i := 0) (oi := ⟨some 26, _, _, _, _, _⟩) (v := (.pointer (some ⟨gl, 0, none⟩))) rfl (by kernel_rfl) (by kernel_rfl) (by kernel_rfl) (fun _ _ _ h => h) (Or.inl ⟨by rfl, by (intro w' hSw; (try dsimp only at hSw); go_simp)⟩) (by assumption) ?_
  try simp only [Act.put, List.setIfInBounds_toArray, List.set_cons_zero, List.set_cons_succ]
  refine wpAnyH_take (i := 1) (oi := ⟨some 27, _, _, _, _, _⟩) (v := (.agg #[.int .i64 0, .int .i64 0])) rfl (by kernel_rfl) (by kernel_rfl) (by kernel_rfl) (fun _ _ _ h => h) (Or.inl ⟨by rfl, by (intro w' hSw; (try dsimp only at hSw); go_simp)⟩) (by assumption) ?_
  try simp only [Act.put, List.setIfInBounds_toArray, List.set_cons_zero, List.set_cons_succ]
  refine wpAnyH_take (i := 2) (oi := ⟨some 28, _, _, _, _, _⟩) (v := (.agg #[.int .i64 1, .int .i64 1, .slice none 0 0, .slice none 0 0])) rfl (by kernel_rfl) (by kernel_rfl) (by kernel_rfl) (fun _ _ _ h => h) (Or.inl ⟨by rfl, by (intro w' hSw; (try dsimp only at hSw); go_simp)⟩) (by assumption) ?_
  try simp only [Act.put, List.setIfInBounds_toArray, List.set_cons_zero, List.set_cons_succ]
  refine wpAnyH_take (i := 3) (oi := ⟨some 29, _, _, _, _, _⟩) (v := (.agg #[.int .i64 0, .int .i64 0])) rfl (by kernel_rfl) (by kernel_rfl) (by kernel_rfl) (fun _ _ _ h => h) (Or.inl ⟨by rfl, by (intro w' hSw; (try dsimp only at hSw); go_simp)⟩) (by assumption) ?_
  try simp only [Act.put, List.setIfInBounds_toArray, List.set_cons_zero, List.set_cons_succ]
  refine wpAnyH_take (i := 4) (oi := ⟨some 30, _, _, _, _, _⟩) (v := (.agg #[.int .i64 1, .int .i64 1, .slice none 0 0, .slice none 0 0])) rfl (by kernel_rfl) (by kernel_rfl) (by kernel_rfl) (fun _ _ _ h => h) (Or.inl ⟨by rfl, by (intro w' hSw; (try dsimp only at hSw); go_simp)⟩) (by assumption) ?_
  try simp only [Act.put, List.setIfInBounds_toArray, List.set_cons_zero, List.set_cons_succ]
  refine wpAnyH_ready (rs := [5]) (by kernel_rfl) (by simp) ?_
  refine AllReadyH.cons (o := ⟨some 31, _, _, _, _, _⟩) rfl (fun K hK => ?_) AllReadyH.nil
  go_simp
  go_at_call 19
  refine (HA.out _ (Fr.refl _ _).of_drew).mono ?_
  rintro e w10 ⟨A10, c10, rfl, hs1, H10⟩
  refine hK.out _ _ hs1 (fun hHeld => ?_)
  try simp only [Act.put, List.setIfInBounds_toArray, List.set_cons_zero, List.set_cons_succ]
  refine wpAnyH_ready (rs := [6]) (by kernel_rfl) (by simp) ?_
  refine AllReadyH.cons (o := ⟨some 32, _, _, _, _, _⟩) rfl (fun K hK => ?_) AllReadyH.nil
  go_simp
  have hgv := heap_alloc_new w10 (.cells #[.int .i64 3, .slice A10 (vsA 2 0 0 1 (bodyA 1 1 [] []) 3).length c10] 55)
  have hbv := below_alloc (Below.refl w10.heap.size w10) (.cells #[.int .i64 3, .slice A10 (vsA 2 0 0 1 (bodyA 1 1 [] []) 3).length c10] 55)
  generalize w10.alloc (.cells #[.int .i64 3, .slice A10 (vsA 2 0 0 1 (bodyA 1 1 [] []) 3).length c10] 55) = w11 at *
  have fv := Fr.of_below hbv (fun _ => False)
  have F11 := H10.out.1.trans fv (fun _ h => h.elim)
  have hs2 := HS.out _ F11
  have L11 := H9.out.1.fr0 F11
  have G11 := H9.out.2.1.trans F11 (fun _ h => h.elim)
  refine hK.out _ _ hs2 (fun hHeld => ?_)
  try simp only [Act.put, List.setIfInBounds_toArray, List.set_cons_zero, List.set_cons_succ]
  refine wpAnyH_ready (rs := [7]) (by kernel_rfl) (by simp) ?_
  refine AllReadyH.cons (o := ⟨some 33, _, _, _, _, _⟩) rfl (fun K hK => ?_) AllReadyH.nil
  go_simp
  go_at_call 12
  refine (note_calls 2 0 0 1 1 1 none 0 [] none 0 [] (some ⟨w10.heap.size, 0, none⟩) 1 [(3, vsA 2 0 0 1 (bodyA 1 1 [] []) 3)] (by simp) w11 w.heap.size gl bm _ _ _ L11 G11.size (.inl rfl) (Rd.nil _ _) (Rd.nil _ _) (VC.one hgv H10.out.2.1 (H10.out.2.2.lies fv)) (by simp) (by simp) (by simp) Bys.nil Bys.nil (fun v hv => by
    have : v = (3, vsA 2 0 0 1 (bodyA 1 1 [] []) 3) := by simpa using hv
    subst this
    exact ⟨Nat.le_trans (vsA_len 2 0 0 1 _ 3) (by decide), vsA_bys 2 0 0 1 _ 3, rfl⟩) rfl rfl rfl).mono ?_
  rintro e w12 ⟨D12, S12, Bs12, x12, E12, rfl, L12, nb12, ev12, st12, f12⟩
  have hgr11 := F11.blk H9.out.2.2 (fun h => h)
  have hgr12 := f12.blk hgr11 (LF.not L11 hgr11 (by decide))
  have hs3 : w12.cell? ⟨gr, 0, none⟩ = some (.int .i64 1) ∧ w12.cell? ⟨gr, 1, none⟩ = some (.int .i64 1) ∧ w12.cell? ⟨gr, 2, none⟩ = some (.slice none 0 0) ∧ w12.cell? ⟨gr, 3, none⟩ = some (.slice none 0 0) := by simp [World.cell?, hgr12]
  refine hK.out _ _ hs3 (fun hHeld => ?_)
  try simp only [Act.put, List.setIfInBounds_toArray, List.set_cons_zero, List.set_cons_succ]
  refine wpAnyH_take (i := 8) (oi := ⟨some 5, _, _, _, _, _⟩) (v := x12) rfl (by kernel_rfl) (by kernel_rfl) (by kernel_rfl) (fun _ _ _ h => h) (Or.inl ⟨by rfl, by (intro w' hSw; (try dsimp only at hSw); go_simp)⟩) (by assumption) ?_
  try simp only [Act.put, List.setIfInBounds_toArray, List.set_cons_zero, List.set_cons_succ]
  refine wpAnyH_done (by kernel_rfl) ?_ _
  have G12 : Fr (fun _ => False) w w12 := G11.trans f12 (fun k hk => .inr (L11.lf_ge hk))
  obtain ⟨rfl, rfl⟩ := alive_z st12
  obtain ⟨Az, cz, rfl⟩ := evrow_len ev12
  have hyf : Fr (LF bm Bs9) w9 w12 := (F11.mono (fun _ h => h.elim)).trans f12 (fun k hk => .inl hk)
  have hy12 := H9.out.1.evRow HY.out.1 hyf
  obtain ⟨gy', cy', e, _, _, _, k4, _⟩ := evrow_one hy12
  obtain ⟨rfl, rfl⟩ : gy = gy' ∧ cy = cy' := by simpa using e
  rw [HY.out.2] at k4
  have H12 := Aside0.mk (And.intro L12 G12)
  clear HA HS hs0 hs1 hs2 hs3 hHeld H9 H10 hgv hbv fv F11 L11 G11 L12 nb12 ev12 st12 f12 hgr11 hgr12 G12 HY hyf hy12 e
  go_wp2_with (fail)
  refine (llen_calls w12 w.heap.size gl bm _ _ _ H12.out.1).mono ?_
  rintro e w13 ⟨rfl, hb13⟩
  have H13 := Aside0.mk (H12.out.2.trans (Fr.of_below hb13 (fun _ => False)) (fun _ h => h.elim))
  clear hb13 H12 k4
  go_wp2
  go_ret
  exact ⟨rfl, frB H13.out⟩
end Go.Proofs.Ytnabilhcmplhcaa.Sha
end
