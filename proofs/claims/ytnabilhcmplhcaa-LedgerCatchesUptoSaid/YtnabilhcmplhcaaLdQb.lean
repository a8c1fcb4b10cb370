/-
  ledger.Note: a round of its loop (put down).
-/
import Derived.Test.YtnabilhcmplhcaaLgM2
import Derived.Deep.RegionHeld3
import Derived.Test.YtnabilhcmplhcaaQx4
set_option linter.unusedVariables false
set_option linter.unusedSimpArgs false
namespace Go.Proofs.Ytnabilhcmplhcaa.Sha
open Go.RowKit Go.Proofs.YtnabilhcmplhcaaW.PrintWords Go.Proofs.YtnabilhcmplhcaaW.PrintLast Go.Proofs.YtnabilhcmplhcaaW.PrintMore Go.Proofs.Ytnabilhcmplhcaa.Q Go.Proofs.Ytnabilhcmplhcaa.Fr Go.Proofs.Ytnabilhcmplhcaa.Oct
open Go.Maps Go.ChangeMaps

set_option maxHeartbeats 8000000 in
set_option maxRecDepth 100000 in
theorem roundNb (u : Nat → Value) (kind view turn slot c s : Int) (Ao : Option Addr) (co : Nat) (op : List Int) (As : Option Addr) (cs : Nat) (sg : List Int) (Ab : Option Addr) (cb : Nat) (Av : Option Addr) (cv : Nat) (V : List (Int × List Int)) (i : Nat) (si : Int) (t : List Int) (hv : V[i]? = some (si, t)) (hV : V.length ≤ 1048576) (w W : World) (base gl bm : Nat) (Bs0 : List Nat) (gb gr : Nat) (D : DataW Unit) (S : List Sn) (Bs : List Nat) (out : Value) (E : List Ev)
    (hcb : (bodyA c s op sg).length ≤ cb) (lo : op.length + sg.length ≤ 1048576) (hco : op.length ≤ co) (hcs : sg.length ≤ cs) (bo : Bys op) (bs : Bys sg) (lt : t.length ≤ 140737488355327) (bt : Bys t) (wk : (Lit.int .i64 kind).wf = true) (wv : (Lit.int .i64 view).wf = true) (wt : (Lit.int .i64 turn).wf = true) (wl : (Lit.int .i64 slot).wf = true) (wi : (Lit.int .i64 si).wf = true) (hE : E.length ≤ 1048576) (H : Nt w W base gl bm Bs0 view turn c s Ao co op As cs sg Ab Av V gb gr D S Bs out E) (hvr : vrA kind view turn slot (bodyA c s op sg) si t = true) (hh : Maps.has D (plK kind view turn slot si) = false) (hn : S.length < 8192)
    (Q : Exit → Act → World → Prop) (hQ : ∀ a' W' D' S' Bs' out' E', Fm 114 a' → sl a' 0 = .pointer (some ⟨gl, 0, none⟩) → sl a' 1 = .int .i64 kind → sl a' 3 = .int .i64 slot → sl a' 8 = .pointer (some ⟨gb, 0, none⟩) → sl a' 10 = .pointer (some ⟨gr, 0, none⟩) → sl a' 13 = out' → sl a' 14 = .slice Ab (bodyA c s op sg).length cb → sl a' 28 = .slice Av V.length cv → sl a' 29 = .int .i64 (V.length : Int) → sl a' 30 = .int .i64 ((i : Int) + 1) → Nt w W' base gl bm Bs0 view turn c s Ao co op As cs sg Ab Av V gb gr D' S' Bs' out' E' → Step kind view turn slot c s op sg S E (si, t) S' E' → Q .normal a' W') :
    Code.wp Try.prog (bodyN Try.f12 0) Q ⟨#[.pointer (some ⟨gl, 0, none⟩), .int .i64 kind, u 2, .int .i64 slot, u 4, u 5, u 6, u 7, .pointer (some ⟨gb, 0, none⟩), u 9, .pointer (some ⟨gr, 0, none⟩), u 11, u 12, out, .slice Ab (bodyA c s op sg).length cb, u 15, u 16, u 17, u 18, u 19, u 20, u 21, u 22, u 23, u 24, u 25, u 26, u 27, .slice Av V.length cv, .int .i64 (V.length : Int), .int .i64 (i : Int), u 31, u 32, u 33, u 34, u 35, u 36, u 37, u 38, u 39, u 40, u 41, u 42, u 43, u 44, u 45, u 46, u 47, u 48, u 49, u 50, u 51, u 52, u 53, u 54, u 55, u 56, u 57, u 58, u 59, u 60, u 61, u 62, u 63, u 64, u 65, u 66, u 67, u 68, u 69, u 70, u 71, u 72, u 73, u 74, u 75, u 76, u 77, u 78, u 79, u 80, u 81, u 82, u 83, u 84, u 85, u 86, u 87, u 88, u 89, u 90, u 91, u 92, u 93, u 94, u 95, u 96, u 97, u 98, u 99, u 100, u 101, u 102, u 103, u 104, u 105, u 106, u 107, u 108, u 109, u 110, u 111, u 112, u 113], []⟩ W := by
  obtain ⟨ad, A3, c3, rfl, _, x0, x1, hc3, hr3⟩ := H.vc i (si, t) hv
  simp only at x0 x1 hc3 hr3
  have hlb := bodyA_len c s op sg
  obtain ⟨m, hm⟩ : ∃ m, V.length = m := ⟨_, rfl⟩
  have hi : i < m := by rw [← hm]; exact (List.getElem?_eq_some_iff.1 hv).1
  rw [hm] at hV hQ ⊢
  have b0 : decide ((i : Int) < (m : Int)) = true := decide_eq_true (by omega)
  have b1 : (0 : Int) ≤ (i : Int) := by omega
  have b2 : (i : Int) < (m : Int) := by omega
  have b5 : wrap64 ((i : Int) + 1) = (i : Int) + 1 := by unfold wrap64; omega
  have B5 := Aside0.mk b5
  have HL := Aside0.mk (And.intro lo (And.intro lt (And.intro bt (And.intro hlb (And.intro bo (And.intro bs (And.intro hE hm)))))))
  have HW := Aside0.mk (And.intro wk (And.intro wv (And.intro wt (And.intro wl wi))))
  have HH := Aside0.mk (And.intro H (And.intro hr3 (And.intro hv hQ)))
  clear b5 hV hm H hr3 hQ hv lo lt bt hlb bo bs wk wv wt wl wi hE
  conv => arg 2; whnf
  go_wp2_with (first | ((with_reducible refine gate_dst (N := 16) rfl ?_); refine wpList_alloc_abs (by rfl) 55 (by rfl) (.agg Z2v) (by kernel_rfl) ?_; intro w2 hb2 hs2 hg2) | ((with_reducible refine gate_store (p := 16) rfl ?_); refine Aside0.out ?_))
  refine ⟨?_⟩
  refine wpList_store_abs (by rfl) 55 _ _ (by rfl) W.heap.size #[.int .i64 si, .slice A3 t.length c3] (by rfl) (by rfl) 55 Z2v hg2 (by kernel_rfl) (by rfl) (by simp [Value.oneCell']) ?_
  intro w3 hf3 hs3 hg3
  have F3 : Fr (fun _ => False) W w3 := (Fr.of_below hb2 (fun _ => False)).trans hf3 (fun k hk => .inr (by omega))
  have H3 := Aside0.mk (And.intro (HH.out.1.below F3) (And.intro (HH.out.2.1.lies F3) hg3))
  have y : w3.cell? ⟨W.heap.size, 0, none⟩ = some (.int .i64 si) ∧ w3.cell? ⟨W.heap.size, 1, none⟩ = some (.slice A3 t.length c3) := by simp [World.cell?, hg3]
  have q : w3.cell? ⟨gb, 0, none⟩ = some (.int .i64 view) ∧ w3.cell? ⟨gb, 1, none⟩ = some (.int .i64 turn) := by simp [World.cell?, H3.out.1.hb]
  obtain ⟨y0, y1⟩ := y
  obtain ⟨q0, q1⟩ := q
  have z3 := F3.size
  clear hb2 hs2 hg2 hf3 hs3 hg3 x0 x1 F3
  go_wp2_with (fail)
  have hrc := right_calls kind view turn slot Ab cb (bodyA c s op sg) si A3 c3 t w3 H3.out.1.rb hcb (by have := HL.out; omega) H3.out.2.1 hc3 (by have := HL.out; omega) HL.out.2.2.1
  rw [hvr] at hrc
  refine hrc.mono ?_
  clear hrc y0 y1 q0 q1
  rintro e w4 ⟨rfl, hb4⟩
  have f4 := Fr.of_below hb4 (fun _ => False)
  have H4 := Aside0.mk (And.intro (H3.out.1.below f4) (And.intro (H3.out.2.1.lies f4) (f4.blk H3.out.2.2 (fun h => h))))
  have y : w4.cell? ⟨W.heap.size, 0, none⟩ = some (.int .i64 si) ∧ w4.cell? ⟨W.heap.size, 1, none⟩ = some (.slice A3 t.length c3) := by simp [World.cell?, H4.out.2.2]
  have q : w4.cell? ⟨gb, 0, none⟩ = some (.int .i64 view) ∧ w4.cell? ⟨gb, 1, none⟩ = some (.int .i64 turn) := by simp [World.cell?, H4.out.1.hb]
  obtain ⟨y0, y1⟩ := y
  obtain ⟨q0, q1⟩ := q
  have z4 := f4.size
  clear H3 hb4 f4
  go_wp2_with (first | ((with_reducible refine gate_dst (N := 17) rfl ?_); refine wpList_alloc_abs (by rfl) 67 (by rfl) (.agg Z5p) (by kernel_rfl) ?_; intro w5 hb5 hs5 hg5) | ((with_reducible refine gate_store (p := 17) rfl ?_); refine Aside0.out ?_))
  refine ⟨?_⟩
  refine wpList_store_abs (by rfl) 67 _ _ (by rfl) w4.heap.size #[.int .i64 kind, .int .i64 view, .int .i64 turn, .int .i64 slot, .int .i64 si] (by rfl) (by rfl) 67 Z5p hg5 (by kernel_rfl) (by rfl) (by simp [Value.oneCell']) ?_
  intro w6 hf6 hs6 hg6
  have F6 : Fr (fun _ => False) w4 w6 := (Fr.of_below hb5 (fun _ => False)).trans hf6 (fun k hk => .inr (by omega))
  have H6 := Aside0.mk (And.intro (H4.out.1.below F6) (And.intro (H4.out.2.1.lies F6) (And.intro (F6.blk H4.out.2.2 (fun h => h)) hg6)))
  have hs6' : w6.cell? ⟨gl, 0, none⟩ = some (.map (some bm)) ∧ w6.cell? ⟨w4.heap.size, 0, none⟩ = some (.int .i64 kind) ∧ w6.cell? ⟨w4.heap.size, 1, none⟩ = some (.int .i64 view) ∧ w6.cell? ⟨w4.heap.size, 2, none⟩ = some (.int .i64 turn) ∧ w6.cell? ⟨w4.heap.size, 3, none⟩ = some (.int .i64 slot) ∧ w6.cell? ⟨w4.heap.size, 4, none⟩ = some (.int .i64 si) := by
    have h1 := H6.out.1.ld.head
    simp [World.cell?, h1, hg6]
  have hkl := plK_of HW.out.1 HW.out.2.1 HW.out.2.2.1 HW.out.2.2.2.1 HW.out.2.2.2.2
  clear H4 y0 y1 q0 q1 hb5 hs5 hg5 hf6 hs6 hg6 F6 z4 z3
  go_wp2_with (fail)
  refine wp_region_noPanic ?_
  refine wp_region_held_drew (S := (fun w' => w'.cell? ⟨gl, 0, none⟩ = some (.map (some bm)) ∧ w'.cell? ⟨w4.heap.size, 0, none⟩ = some (.int .i64 kind) ∧ w'.cell? ⟨w4.heap.size, 1, none⟩ = some (.int .i64 view) ∧ w'.cell? ⟨w4.heap.size, 2, none⟩ = some (.int .i64 turn) ∧ w'.cell? ⟨w4.heap.size, 3, none⟩ = some (.int .i64 slot) ∧ w'.cell? ⟨w4.heap.size, 4, none⟩ = some (.int .i64 si))) (by kernel_rfl) hs6' (fun hHeld => ?_)
  refine wpAnyH_take (i := 0) (oi := ⟨some 48, _, _, _, _, _⟩) (v := (.pointer (some ⟨gl, 0, none⟩))) rfl (by kernel_rfl) (by kernel_rfl) (by kernel_rfl) (fun _ _ _ h => h) (Or.inl ⟨by rfl, by (intro w' hSw; (try dsimp only at hSw); go_simp)⟩) (by assumption) ?_
  try simp only [Act.put, List.setIfInBounds_toArray, List.set_cons_zero, List.set_cons_succ]
  refine wpAnyH_take (i := 1) (oi := ⟨some 49, _, _, _, _, _⟩) (v := (.pointer (some ⟨gl, 0, none⟩))) rfl (by kernel_rfl) (by kernel_rfl) (by kernel_rfl) (fun _ _ _ h => h) (Or.inl ⟨by rfl, by (intro w' hSw; (try dsimp only at hSw); go_simp)⟩) (by assumption) ?_
  try simp only [Act.put, List.setIfInBounds_toArray, List.set_cons_zero, List.set_cons_succ]
  refine wpAnyH_take (i := 2) (oi := ⟨some 50, _, _, _, _, _⟩) (v := (.pointer (some ⟨gl, 0, none⟩))) rfl (by kernel_rfl) (by kernel_rfl) (by kernel_rfl) (fun _ _ _ h => h) (Or.inl ⟨by rfl, by (intro w' hSw; (try dsimp only at hSw); go_simp)⟩) (by assumption) ?_
  try simp only [Act.put, List.setIfInBounds_toArray, List.set_cons_zero, List.set_cons_succ]
  refine wpAnyH_take (i := 3) (oi := ⟨some 51, _, _, _, _, _⟩) (v := (.map (some bm))) rfl (by kernel_rfl) (by kernel_rfl) (by kernel_rfl) (fun _ _ _ h => h) (Or.inl ⟨by rfl, by (intro w' hSw; (try dsimp only at hSw); go_simp)⟩) (by assumption) ?_
  try simp only [Act.put, List.setIfInBounds_toArray, List.set_cons_zero, List.set_cons_succ]
  refine wpAnyH_take (i := 4) (oi := ⟨some 52, _, _, _, _, _⟩) (v := (.agg #[.int .i64 kind, .int .i64 view, .int .i64 turn, .int .i64 slot, .int .i64 si])) rfl (by kernel_rfl) (by kernel_rfl) (by kernel_rfl) (fun _ _ _ h => h) (Or.inl ⟨by rfl, by (intro w' hSw; (try dsimp only at hSw); go_simp)⟩) (by assumption) ?_
  try simp only [Act.put, List.setIfInBounds_toArray, List.set_cons_zero, List.set_cons_succ]
  refine wpAnyH_ready (rs := [5]) (by kernel_rfl) (by simp) ?_
  refine AllReadyH.cons (o := ⟨some 53, _, _, _, _, _⟩) rfl (fun K hK => ?_) AllReadyH.nil
  rw [if_pos (by rfl)]
  refine wp_lookup_abs _ _ (by rfl) bm S.length D (by rfl) H6.out.1.ld.own.drew (.agg #[.int .i64 kind, .int .i64 view, .int .i64 turn, .int .i64 slot, .int .i64 si]) (plK kind view turn slot si) (by rfl) hkl ?_
  intro vp ps hvp
  rw [hh]
  rw [atKey_of_not_has hh] at hvp
  obtain rfl := ptrE_nil hvp
  refine hK.out _ _ hHeld (fun hHeld => ?_)
  try simp only [Act.put, List.setIfInBounds_toArray, List.set_cons_zero, List.set_cons_succ]
  refine wpAnyH_take (i := 6) (oi := ⟨some 47, _, _, _, _, _⟩) (v := (.tuple #[.pointer none, .bool false])) rfl (by kernel_rfl) (by kernel_rfl) (by kernel_rfl) (fun _ _ _ h => h) (Or.inl ⟨by rfl, by (intro w' hSw; (try dsimp only at hSw); go_simp)⟩) (by assumption) ?_
  try simp only [Act.put, List.setIfInBounds_toArray, List.set_cons_zero, List.set_cons_succ]
  refine wpAnyH_take (i := 7) (oi := ⟨some 54, _, _, _, _, _⟩) (v := (.pointer none)) rfl (by kernel_rfl) (by kernel_rfl) (by kernel_rfl) (fun _ _ _ h => h) (Or.inl ⟨by rfl, by (intro w' hSw; (try dsimp only at hSw); go_simp)⟩) (by assumption) ?_
  try simp only [Act.put, List.setIfInBounds_toArray, List.set_cons_zero, List.set_cons_succ]
  refine wpAnyH_take (i := 8) (oi := ⟨some 55, _, _, _, _, _⟩) (v := (.bool false)) rfl (by kernel_rfl) (by kernel_rfl) (by kernel_rfl) (fun _ _ _ h => h) (Or.inl ⟨by rfl, by (intro w' hSw; (try dsimp only at hSw); go_simp)⟩) (by assumption) ?_
  try simp only [Act.put, List.setIfInBounds_toArray, List.set_cons_zero, List.set_cons_succ]
  refine wpAnyH_take (i := 9) (oi := ⟨some 18, _, _, _, _, _⟩) (v := (.pointer none)) rfl (by kernel_rfl) (by kernel_rfl) (by kernel_rfl) (fun _ _ _ h => h) (Or.inl ⟨by rfl, by (intro w' hSw; (try dsimp only at hSw); go_simp)⟩) (by assumption) ?_
  try simp only [Act.put, List.setIfInBounds_toArray, List.set_cons_zero, List.set_cons_succ]
  refine wpAnyH_take (i := 10) (oi := ⟨some 19, _, _, _, _, _⟩) (v := (.bool false)) rfl (by kernel_rfl) (by kernel_rfl) (by kernel_rfl) (fun _ _ _ h => h) (Or.inl ⟨by rfl, by (intro w' hSw; (try dsimp only at hSw); go_simp)⟩) (by assumption) ?_
  try simp only [Act.put, List.setIfInBounds_toArray, List.set_cons_zero, List.set_cons_succ]
  refine wpAnyH_done (by kernel_rfl) ?_ _
  refine NoPanic.normal ?_
  clear hs6' hHeld hvp
  obtain ⟨w7, hw7⟩ : ∃ x, w6.drew = x := ⟨_, rfl⟩
  have F7 : Fr (fun _ => False) w6 w7 := by rw [← hw7]; exact (Fr.refl _ _).of_drew
  rw [hw7]
  have H7 := Aside0.mk (And.intro (H6.out.1.below F7) (And.intro (H6.out.2.1.lies F7) (And.intro (F7.blk H6.out.2.2.1 (fun h => h)) (F7.blk H6.out.2.2.2 (fun h => h)))))
  clear H6 F7 hw7
  have hown := H7.out.1.ld.own
  have hsz := H7.out.1.ld.size
  have gl0 : w7.cell? ⟨gl, 0, none⟩ = some (.map (some bm)) := by simp [World.cell?, H7.out.1.ld.head]
  obtain ⟨n, hnn⟩ : ∃ n, S.length = n := ⟨_, rfl⟩
  rw [hnn] at hown hsz
  have cl : decide ((n : Int) < 8192) = true := decide_eq_true (by omega)
  have cl2 : n < 8192 := by omega
  go_wp2_with (first | (at_len; refine wpList_len_own _ rfl _ 62 rfl 67 68 undMap ptrE bm n D rfl hown ?_))
  clear hown hsz cl cl2 gl0 hnn
  have hS : ∀ w', Fr (fun _ => False) w7 w' → w'.cell? ⟨gl, 0, none⟩ = some (.map (some bm)) ∧ w'.cell? ⟨w4.heap.size, 0, none⟩ = some (.int .i64 kind) ∧ w'.cell? ⟨w4.heap.size, 1, none⟩ = some (.int .i64 view) ∧ w'.cell? ⟨w4.heap.size, 2, none⟩ = some (.int .i64 turn) ∧ w'.cell? ⟨w4.heap.size, 3, none⟩ = some (.int .i64 slot) ∧ w'.cell? ⟨w4.heap.size, 4, none⟩ = some (.int .i64 si) ∧ w'.cell? ⟨gr, 0, none⟩ = some (.int .i64 c) ∧ w'.cell? ⟨gr, 1, none⟩ = some (.int .i64 s) ∧ w'.cell? ⟨gr, 2, none⟩ = some (.slice Ao op.length co) ∧ w'.cell? ⟨gr, 3, none⟩ = some (.slice As sg.length cs) ∧ w'.cell? ⟨W.heap.size, 0, none⟩ = some (.int .i64 si) ∧ w'.cell? ⟨W.heap.size, 1, none⟩ = some (.slice A3 t.length c3) := fun w' hf => by
    have h1 := hf.blk H7.out.1.ld.head (fun h => h)
    have h2 := hf.blk H7.out.2.2.2 (fun h => h)
    have h3 := hf.blk H7.out.1.hr (fun h => h)
    have h4 := hf.blk H7.out.2.2.1 (fun h => h)
    simp [World.cell?, h1, h2, h3, h4]
  have HA : ∀ w1, Fr (fun _ => False) w7 w1 → Calls Try.prog 24 #[.agg #[.int .i64 c, .int .i64 s, .slice Ao op.length co, .slice As sg.length cs]] w1 fun e w2 => ∃ B1 d1 B2 d2, e = .returned (.agg #[.int .i64 c, .int .i64 s, .slice B1 op.length d1, .slice B2 sg.length d2]) ∧ (w2.cell? ⟨gl, 0, none⟩ = some (.map (some bm)) ∧ w2.cell? ⟨w4.heap.size, 0, none⟩ = some (.int .i64 kind) ∧ w2.cell? ⟨w4.heap.size, 1, none⟩ = some (.int .i64 view) ∧ w2.cell? ⟨w4.heap.size, 2, none⟩ = some (.int .i64 turn) ∧ w2.cell? ⟨w4.heap.size, 3, none⟩ = some (.int .i64 slot) ∧ w2.cell? ⟨w4.heap.size, 4, none⟩ = some (.int .i64 si) ∧ w2.cell? ⟨gr, 0, none⟩ = some (.int .i64 c) ∧ w2.cell? ⟨gr, 1, none⟩ = some (.int .i64 s) ∧ w2.cell? ⟨gr, 2, none⟩ = some (.slice Ao op.length co) ∧ w2.cell? ⟨gr, 3, none⟩ = some (.slice As sg.length cs) ∧ w2.cell? ⟨W.heap.size, 0, none⟩ = some (.int .i64 si) ∧ w2.cell? ⟨W.heap.size, 1, none⟩ = some (.slice A3 t.length c3)) ∧ Aside0 (Fr (fun _ => False) w7 w2 ∧ OB w2 w7.heap.size (.slice B1 op.length d1) op ∧ OB w2 w7.heap.size (.slice B2 sg.length d2) sg) := by
    intro w1 hf1
    refine (clone_calls c s Ao co op As cs sg w1 (H7.out.1.ro.lies hf1) hco (H7.out.1.rs.lies hf1) hcs HL.out.1).mono ?_
    rintro e w2 ⟨B1, d1, B2, d2, rfl, _, _, o1, o2, hb⟩
    have fb := Fr.of_below hb (fun _ => False)
    exact ⟨B1, d1, B2, d2, rfl, hS _ (hf1.trans fb (fun _ h => h.elim)), ⟨hf1.trans fb (fun _ h => h.elim), o1.lower hf1.size, o2.lower hf1.size⟩⟩
  have HB : ∀ w1 B1 d1 B2 d2, Aside0 (Fr (fun _ => False) w7 w1 ∧ OB w1 w7.heap.size (.slice B1 op.length d1) op ∧ OB w1 w7.heap.size (.slice B2 sg.length d2) sg) → Calls Try.prog 25 #[.slice A3 t.length c3] w1 fun e w2 => ∃ B3 d3, e = .returned (.slice B3 t.length d3) ∧ (w2.cell? ⟨gl, 0, none⟩ = some (.map (some bm)) ∧ w2.cell? ⟨w4.heap.size, 0, none⟩ = some (.int .i64 kind) ∧ w2.cell? ⟨w4.heap.size, 1, none⟩ = some (.int .i64 view) ∧ w2.cell? ⟨w4.heap.size, 2, none⟩ = some (.int .i64 turn) ∧ w2.cell? ⟨w4.heap.size, 3, none⟩ = some (.int .i64 slot) ∧ w2.cell? ⟨w4.heap.size, 4, none⟩ = some (.int .i64 si) ∧ w2.cell? ⟨gr, 0, none⟩ = some (.int .i64 c) ∧ w2.cell? ⟨gr, 1, none⟩ = some (.int .i64 s) ∧ w2.cell? ⟨gr, 2, none⟩ = some (.slice Ao op.length co) ∧ w2.cell? ⟨gr, 3, none⟩ = some (.slice As sg.length cs) ∧ w2.cell? ⟨W.heap.size, 0, none⟩ = some (.int .i64 si) ∧ w2.cell? ⟨W.heap.size, 1, none⟩ = some (.slice A3 t.length c3)) ∧ Aside0 (Fr (fun _ => False) w7 w2 ∧ OB w2 w7.heap.size (.slice B1 op.length d1) op ∧ OB w2 w7.heap.size (.slice B2 sg.length d2) sg ∧ OB w2 w7.heap.size (.slice B3 t.length d3) t) := by
    intro w1 B1 d1 B2 d2 H
    refine (sclone_calls A3 c3 t w1 (H7.out.2.1.lies H.out.1) hc3 (vrA_len hvr)).mono ?_
    rintro e w2 ⟨B3, d3, rfl, _, o3, hb⟩
    have fb := Fr.of_below hb (fun _ => False)
    have f2 := H.out.1.trans fb (fun _ h => h.elim)
    exact ⟨B3, d3, rfl, hS _ f2, ⟨f2, H.out.2.1.fr fb (fun _ _ e => e), H.out.2.2.fr fb (fun _ _ e => e), o3.lower H.out.1.size⟩⟩
  have HS := Aside0.mk hS
  have hs7 := hS _ (Fr.refl _ _)
  have HA := Aside0.mk HA
  have HB := Aside0.mk HB
  clear hS
  go_wp2_with (fail)
  refine wp_region_noPanic ?_
  refine wp_region_held_drew (S := (fun w' => w'.cell? ⟨gl, 0, none⟩ = some (.map (some bm)) ∧ w'.cell? ⟨w4.heap.size, 0, none⟩ = some (.int .i64 kind) ∧ w'.cell? ⟨w4.heap.size, 1, none⟩ = some (.int .i64 view) ∧ w'.cell? ⟨w4.heap.size, 2, none⟩ = some (.int .i64 turn) ∧ w'.cell? ⟨w4.heap.size, 3, none⟩ = some (.int .i64 slot) ∧ w'.cell? ⟨w4.heap.size, 4, none⟩ = some (.int .i64 si) ∧ w'.cell? ⟨gr, 0, none⟩ = some (.int .i64 c) ∧ w'.cell? ⟨gr, 1, none⟩ = some (.int .i64 s) ∧ w'.cell? ⟨gr, 2, none⟩ = some (.slice Ao op.length co) ∧ w'.cell? ⟨gr, 3, none⟩ = some (.slice As sg.length cs) ∧ w'.cell? ⟨W.heap.size, 0, none⟩ = some (.int .i64 si) ∧ w'.cell? ⟨W.heap.size, 1, none⟩ = some (.slice A3 t.length c3))) (by kernel_rfl) hs7 (fun hHeld => ?_)
  refine wpAnyH_take (i := 0) (oi := ⟨some 65, _, _, _, _, _⟩) (v := (.pointer (some ⟨gl, 0, none⟩))) rfl (by kernel_rfl) (by kernel_rfl) (by kernel_rfl) (fun _ _ _ h => h) (Or.inl ⟨by rfl, by (intro w' hSw; (try dsimp only at hSw); go_simp)⟩) (by assumption) ?_
  try simp only [Act.put, List.setIfInBounds_toArray, List.set_cons_zero, List.set_cons_succ]
  refine wpAnyH_take (i := 1) (oi := ⟨some 66, _, _, _, _, _⟩) (v := (.pointer (some ⟨gl, 0, none⟩))) rfl (by kernel_rfl) (by kernel_rfl) (by kernel_rfl) (fun _ _ _ h => h) (Or.inl ⟨by rfl, by (intro w' hSw; (try dsimp only at hSw); go_simp)⟩) (by assumption) ?_
  try simp only [Act.put, List.setIfInBounds_toArray, List.set_cons_zero, List.set_cons_succ]
  refine wpAnyH_take (i := 2) (oi := ⟨some 67, _, _, _, _, _⟩) (v := (.pointer (some ⟨gl, 0, none⟩))) rfl (by kernel_rfl) (by kernel_rfl) (by kernel_rfl) (fun _ _ _ h => h) (Or.inl ⟨by rfl, by (intro w' hSw; (try dsimp only at hSw); go_simp)⟩) (by assumption) ?_
  try simp only [Act.put, List.setIfInBounds_toArray, List.set_cons_zero, List.set_cons_succ]
  refine wpAnyH_take (i := 3) (oi := ⟨some 68, _, _, _, _, _⟩) (v := (.map (some bm))) rfl (by kernel_rfl) (by kernel_rfl) (by kernel_rfl) (fun _ _ _ h => h) (Or.inl ⟨by rfl, by (intro w' hSw; (try dsimp only at hSw); go_simp)⟩) (by assumption) ?_
  try simp only [Act.put, List.setIfInBounds_toArray, List.set_cons_zero, List.set_cons_succ]
  refine wpAnyH_take (i := 4) (oi := ⟨some 69, _, _, _, _, _⟩) (v := (.agg #[.int .i64 kind, .int .i64 view, .int .i64 turn, .int .i64 slot, .int .i64 si])) rfl (by kernel_rfl) (by kernel_rfl) (by kernel_rfl) (fun _ _ _ h => h) (Or.inl ⟨by rfl, by (intro w' hSw; (try dsimp only at hSw); go_simp)⟩) (by assumption) ?_
  try simp only [Act.put, List.setIfInBounds_toArray, List.set_cons_zero, List.set_cons_succ]
  refine wpAnyH_take (i := 5) (oi := ⟨some 70, _, _, _, _, _⟩) (v := (.agg #[.int .i64 c, .int .i64 s, .slice Ao op.length co, .slice As sg.length cs])) rfl (by kernel_rfl) (by kernel_rfl) (by kernel_rfl) (fun _ _ _ h => h) (Or.inl ⟨by rfl, by (intro w' hSw; (try dsimp only at hSw); go_simp)⟩) (by assumption) ?_
  try simp only [Act.put, List.setIfInBounds_toArray, List.set_cons_zero, List.set_cons_succ]
  refine wpAnyH_take (i := 7) (oi := ⟨some 72, _, _, _, _, _⟩) (v := (.pointer (some ⟨W.heap.size, 1, none⟩))) rfl (by kernel_rfl) (by kernel_rfl) (by kernel_rfl) (fun _ _ _ h => h) (Or.inl ⟨by rfl, by (intro w' hSw; (try dsimp only at hSw); go_simp)⟩) (by assumption) ?_
  try simp only [Act.put, List.setIfInBounds_toArray, List.set_cons_zero, List.set_cons_succ]
  refine wpAnyH_take (i := 8) (oi := ⟨some 73, _, _, _, _, _⟩) (v := (.slice A3 t.length c3)) rfl (by kernel_rfl) (by kernel_rfl) (by kernel_rfl) (fun _ _ _ h => h) (Or.inl ⟨by rfl, by (intro w' hSw; (try dsimp only at hSw); go_simp)⟩) (by assumption) ?_
  try simp only [Act.put, List.setIfInBounds_toArray, List.set_cons_zero, List.set_cons_succ]
  refine wpAnyH_ready (rs := [6]) (by kernel_rfl) (by simp) ?_
  refine AllReadyH.cons (o := ⟨some 71, _, _, _, _, _⟩) rfl (fun K hK => ?_) AllReadyH.nil
  go_simp
  go_at_call 24
  refine (HA.out _ (Fr.refl _ _).of_drew).mono ?_
  rintro e w8 ⟨B1, d1, B2, d2, rfl, hs8, H8⟩
  refine hK.out _ _ hs8 (fun hHeld => ?_)
  try simp only [Act.put, List.setIfInBounds_toArray, List.set_cons_zero, List.set_cons_succ]
  refine wpAnyH_ready (rs := [9]) (by kernel_rfl) (by simp) ?_
  refine AllReadyH.cons (o := ⟨some 74, _, _, _, _, _⟩) rfl (fun K hK => ?_) AllReadyH.nil
  go_simp
  go_at_call 25
  refine (HB.out _ _ _ _ _ H8).mono ?_
  rintro e w9 ⟨B3, d3, rfl, hs9, H9⟩
  refine hK.out _ _ hs9 (fun hHeld => ?_)
  try simp only [Act.put, List.setIfInBounds_toArray, List.set_cons_zero, List.set_cons_succ]
  refine wpAnyH_take (i := 10) (oi := ⟨some 75, _, _, _, _, _⟩) (v := (.agg #[.int .i64 c, .int .i64 s, .slice B1 op.length d1, .slice B2 sg.length d2, .slice B3 t.length d3, .bool false])) rfl (by kernel_rfl) (by kernel_rfl) (by kernel_rfl) (fun _ _ _ h => h) (Or.inl ⟨by rfl, by (intro w' hSw; (try dsimp only at hSw); go_simp)⟩) (by assumption) ?_
  try simp only [Act.put, List.setIfInBounds_toArray, List.set_cons_zero, List.set_cons_succ]
  refine wpAnyH_ready (rs := [11]) (by kernel_rfl) (by simp) ?_
  refine AllReadyH.cons (o := ⟨some 76, _, _, _, _, _⟩) rfl (fun K hK => ?_) AllReadyH.nil
  go_simp
  have hb10 := below_alloc (Below.refl w9.heap.size w9) (.cells #[.int .i64 c, .int .i64 s, .slice B1 op.length d1, .slice B2 sg.length d2, .slice B3 t.length d3, .bool false] 75)
  have hg10 := heap_alloc_new w9 (.cells #[.int .i64 c, .int .i64 s, .slice B1 op.length d1, .slice B2 sg.length d2, .slice B3 t.length d3, .bool false] 75)
  have hz10 : (w9.alloc (.cells #[.int .i64 c, .int .i64 s, .slice B1 op.length d1, .slice B2 sg.length d2, .slice B3 t.length d3, .bool false] 75)).heap.size = w9.heap.size + 1 := by rw [World.size_alloc]
  generalize w9.alloc (.cells #[.int .i64 c, .int .i64 s, .slice B1 op.length d1, .slice B2 sg.length d2, .slice B3 t.length d3, .bool false] 75) = w10 at *
  have f910 := Fr.of_below hb10 (fun _ => False)
  have f710 := H9.out.1.trans f910 (fun _ h => h.elim)
  have hs10 := HS.out _ f710
  have H10 := H7.out.1.below f710
  refine hK.out _ _ hs10 (fun hHeld => ?_)
  try simp only [Act.put, List.setIfInBounds_toArray, List.set_cons_zero, List.set_cons_succ]
  refine wpAnyH_ready (rs := [12]) (by kernel_rfl) (by simp) ?_
  refine AllReadyH.cons (o := ⟨none, _, _, _, _, _⟩) rfl (fun K hK => ?_) AllReadyH.nil
  rw [if_pos (by rfl)]
  refine wp_update_abs _ _ _ (by rfl) bm S.length D (by rfl) H10.ld.own (by show S.length < maxLen; unfold maxLen; omega) (.agg #[.int .i64 kind, .int .i64 view, .int .i64 turn, .int .i64 slot, .int .i64 si]) (.pointer (some ⟨w9.heap.size, 0, none⟩)) (plK kind view turn slot si) (by rfl) (by rfl) hkl (.lit (.int .i64 (w9.heap.size : Int))) [] rfl ?_
  intro w11 hown11 hf11
  have nbm : ∀ {k : Nat} {cells : Array Value} {t : TypeId} {fr : Nat × Nat}, w10.heap[k]? = some (.cells cells t fr) → k ≠ bm := fun h e => H10.ld.bm_no _ _ _ (e ▸ h)
  have hs11 : w11.cell? ⟨gl, 0, none⟩ = some (.map (some bm)) ∧ w11.cell? ⟨w4.heap.size, 0, none⟩ = some (.int .i64 kind) ∧ w11.cell? ⟨w4.heap.size, 1, none⟩ = some (.int .i64 view) ∧ w11.cell? ⟨w4.heap.size, 2, none⟩ = some (.int .i64 turn) ∧ w11.cell? ⟨w4.heap.size, 3, none⟩ = some (.int .i64 slot) ∧ w11.cell? ⟨w4.heap.size, 4, none⟩ = some (.int .i64 si) ∧ w11.cell? ⟨gr, 0, none⟩ = some (.int .i64 c) ∧ w11.cell? ⟨gr, 1, none⟩ = some (.int .i64 s) ∧ w11.cell? ⟨gr, 2, none⟩ = some (.slice Ao op.length co) ∧ w11.cell? ⟨gr, 3, none⟩ = some (.slice As sg.length cs) ∧ w11.cell? ⟨W.heap.size, 0, none⟩ = some (.int .i64 si) ∧ w11.cell? ⟨W.heap.size, 1, none⟩ = some (.slice A3 t.length c3) := by
    have h1 := hf11.blk H10.ld.head (nbm H10.ld.head)
    have g2 := f710.blk H7.out.2.2.2 (fun h => h)
    have h2 := hf11.blk g2 (nbm g2)
    have h3 := hf11.blk H10.hr (nbm H10.hr)
    have g4 := f710.blk H7.out.2.2.1 (fun h => h)
    have h4 := hf11.blk g4 (nbm g4)
    simp [World.cell?, h1, h2, h3, h4]
  refine hK.out _ _ hs11 (fun hHeld => ?_)
  try simp only [Act.put, List.setIfInBounds_toArray, List.set_cons_zero, List.set_cons_succ]
  refine wpAnyH_done (by kernel_rfl) ?_ _
  refine NoPanic.normal ?_
  have hbw := H7.out.1.bw
  have hsz7 := H7.out.1.F.size
  have hbs : base ≤ w7.heap.size := Nat.le_trans hbw hsz7
  have hO : ∀ {v : Value} {l : List Int}, OB w9 w7.heap.size v l → OB w10 base v l := fun h => (h.fr f910 (fun _ _ e => e)).lower hbs
  have hsn : SnAt w10 base w9.heap.size ⟨kind, view, turn, slot, si, c, s, op, sg, t, false⟩ := ⟨B1, d1, B2, d2, B3, d3, hg10, hO H9.out.2.1, hO H9.out.2.2.1, hO H9.out.2.2.2, Nat.le_trans hbs H9.out.1.size⟩
  have hlt : ∀ b ∈ Bs, b < w9.heap.size := fun b hb => by
    obtain ⟨j, hj, rfl⟩ := List.getElem_of_mem hb
    obtain ⟨_, _, _, _, _, _, hg, _⟩ := (H7.out.1.ld.at' j _ _ (List.getElem?_eq_getElem (by rw [← H7.out.1.ld.bl]; exact hj)) (List.getElem?_eq_getElem hj)).2
    exact Nat.lt_of_lt_of_le (blk_lt hg) H9.out.1.size
  have hld := H10.ld.put ⟨kind, view, turn, slot, si, c, s, op, sg, t, false⟩ w9.heap.size ⟨HW.out.1, HW.out.2.1, HW.out.2.2.1, HW.out.2.2.2.1, HW.out.2.2.2.2, HL.out.1, vrA_len hvr, HL.out.2.2.2.2.1, HL.out.2.2.2.2.2.1⟩ hh hsn (fun e => by have := hlt _ e; omega) hown11 hf11
  have H11 := H7.out.1.step ((f710.mono (fun _ e => e.elim)).trans (hf11.mono (S' := LF bm Bs) (fun k e => .inl e)) (fun k e => .inl e)) hld (fun b hb => by
    rcases List.mem_append.1 hb with hb | hb
    · exact .inl hb
    · have e : b = w9.heap.size := by simpa using hb
      exact .inr (by rw [e]; exact H9.out.1.size))
  clear hs7 hs8 hs9 hs10 hs11 hHeld HA HB HS H8 H9
  have b5 := B5.out
  go_wp2
  exact HH.out.2.2.2 _ _ _ _ _ _ _ ⟨rfl, rfl⟩ rfl rfl rfl rfl rfl rfl rfl rfl rfl (congrArg (Value.int .i64) B5.out) H11 (.inr (.inl ⟨hvr, fun e => (by have := (H7.out.1.ld.has _).2 e; rw [hh] at this; cases this), hn, rfl, rfl⟩))
end Go.Proofs.Ytnabilhcmplhcaa.Sha
