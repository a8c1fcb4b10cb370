/- Parts of one work, laid together: LdO, LdL. -/
import Derived.Test.YtnabilhcmplhcaaLgM3
import Derived.Test.YtnabilhcmplhcaaLdQb
import Derived.Test.YtnabilhcmplhcaaLdQe
import Derived.Deep.RegionHeld3
import Derived.Test.YtnabilhcmplhcaaQx4
/-
  ledger.Note: whole.
-/
set_option linter.unusedVariables false
set_option linter.unusedSimpArgs false
namespace Go.Proofs.Ytnabilhcmplhcaa.Sha
open Go.RowKit Go.Proofs.YtnabilhcmplhcaaW.PrintWords Go.Proofs.YtnabilhcmplhcaaW.PrintLast Go.Proofs.YtnabilhcmplhcaaW.PrintMore Go.Proofs.Ytnabilhcmplhcaa.Q Go.Proofs.Ytnabilhcmplhcaa.Fr Go.Proofs.Ytnabilhcmplhcaa.Oct
open Go.Maps Go.ChangeMaps

set_option maxHeartbeats 8000000 in
set_option maxRecDepth 100000 in
theorem exitN (u : Nat → Value) (n : Nat) (w : World) (Q : Exit → Act → World → Prop) (hQ : ∀ a', Fm 114 a' → sl a' 13 = u 13 → Q (.exit 0) a' w) :
    Code.wp Try.prog (bodyN Try.f12 0) Q ⟨#[u 0, u 1, u 2, u 3, u 4, u 5, u 6, u 7, u 8, u 9, u 10, u 11, u 12, u 13, u 14, u 15, u 16, u 17, u 18, u 19, u 20, u 21, u 22, u 23, u 24, u 25, u 26, u 27, u 28, .int .i64 (n : Int), .int .i64 (n : Int), u 31, u 32, u 33, u 34, u 35, u 36, u 37, u 38, u 39, u 40, u 41, u 42, u 43, u 44, u 45, u 46, u 47, u 48, u 49, u 50, u 51, u 52, u 53, u 54, u 55, u 56, u 57, u 58, u 59, u 60, u 61, u 62, u 63, u 64, u 65, u 66, u 67, u 68, u 69, u 70, u 71, u 72, u 73, u 74, u 75, u 76, u 77, u 78, u 79, u 80, u 81, u 82, u 83, u 84, u 85, u 86, u 87, u 88, u 89, u 90, u 91, u 92, u 93, u 94, u 95, u 96, u 97, u 98, u 99, u 100, u 101, u 102, u 103, u 104, u 105, u 106, u 107, u 108, u 109, u 110, u 111, u 112, u 113], []⟩ w := by
  have c0 : decide ((n : Int) < (n : Int)) = false := by simp
  have HQ := Aside0.mk hQ
  clear hQ
  conv => arg 2; whnf
  go_wp2
  exact HQ.out _ ⟨rfl, rfl⟩ rfl
theorem Step.len {kind view turn slot c s : Int} {op sg : List Int} {S : List Sn} {E : List Ev} {v : Int × List Int} {S' : List Sn} {E' : List Ev} (h : Step kind view turn slot c s op sg S E v S' E') : E'.length ≤ E.length + 1 := by
  rcases h with ⟨_, _, rfl⟩ | ⟨_, _, _, _, rfl⟩ | ⟨_, _, _, _, rfl⟩ | ⟨_, _, _, _, _, _, _, rfl⟩ | ⟨_, _, _, _, _, _, _, _, rfl⟩ <;> simp
theorem loopN (kind view turn slot c s : Int) (Ao : Option Addr) (co : Nat) (op : List Int) (As : Option Addr) (cs : Nat) (sg : List Int) (Ab : Option Addr) (cb : Nat) (Av : Option Addr) (cv : Nat) (V : List (Int × List Int)) (hV : V.length ≤ 1048576) (w : World) (base gl bm : Nat) (Bs0 : List Nat) (S0 : List Sn) (gb gr : Nat)
    (hcb : (bodyA c s op sg).length ≤ cb) (lo : op.length + sg.length ≤ 1048576) (hco : op.length ≤ co) (hcs : sg.length ≤ cs) (bo : Bys op) (bs : Bys sg) (hv : ∀ v ∈ V, v.2.length ≤ 140737488355327 ∧ Bys v.2 ∧ (Lit.int .i64 v.1).wf = true) (wk : (Lit.int .i64 kind).wf = true) (wv : (Lit.int .i64 view).wf = true) (wt : (Lit.int .i64 turn).wf = true) (wl : (Lit.int .i64 slot).wf = true)
    (Q : Exit → Act → World → Prop) (hQ : ∀ a' W' D S Bs out E, Fm 114 a' → sl a' 13 = out → Nt w W' base gl bm Bs0 view turn c s Ao co op As cs sg Ab Av V gb gr D S Bs out E → Steps kind view turn slot c s op sg S0 [] V S E → Q (.exit 0) a' W')
    (a : Act) (W : World) (h : Fm 114 a ∧ sl a 0 = .pointer (some ⟨gl, 0, none⟩) ∧ sl a 1 = .int .i64 kind ∧ sl a 3 = .int .i64 slot ∧ sl a 8 = .pointer (some ⟨gb, 0, none⟩) ∧ sl a 10 = .pointer (some ⟨gr, 0, none⟩) ∧ sl a 14 = .slice Ab (bodyA c s op sg).length cb ∧ sl a 28 = .slice Av V.length cv ∧ sl a 29 = .int .i64 (V.length : Int) ∧ sl a 30 = .int .i64 0 ∧ ∃ D S Bs out E, sl a 13 = out ∧ Nt w W base gl bm Bs0 view turn c s Ao co op As cs sg Ab Av V gb gr D S Bs out E ∧ Steps kind view turn slot c s op sg S0 [] (V.take 0) S E ∧ E.length ≤ 0) : (Code.loop (bodyN Try.f12 0)).wp Try.prog Q a W := by
  refine wp_loop_up V.length (fun t a W => Fm 114 a ∧ sl a 0 = .pointer (some ⟨gl, 0, none⟩) ∧ sl a 1 = .int .i64 kind ∧ sl a 3 = .int .i64 slot ∧ sl a 8 = .pointer (some ⟨gb, 0, none⟩) ∧ sl a 10 = .pointer (some ⟨gr, 0, none⟩) ∧ sl a 14 = .slice Ab (bodyA c s op sg).length cb ∧ sl a 28 = .slice Av V.length cv ∧ sl a 29 = .int .i64 (V.length : Int) ∧ sl a 30 = .int .i64 (t : Int) ∧ ∃ D S Bs out E, sl a 13 = out ∧ Nt w W base gl bm Bs0 view turn c s Ao co op As cs sg Ab Av V gb gr D S Bs out E ∧ Steps kind view turn slot c s op sg S0 [] (V.take t) S E ∧ E.length ≤ t) ?_ ?_
  · exact h
  rintro t a W ht ⟨hF, h0, h1, h3, h8, h10, h14, h28, h29, h30, D, S, Bs, out, E, h13, hN, hst, hel⟩
  have ha := fm114 hF
  by_cases h64 : t = V.length
  · subst h64
    rw [h29, h30] at ha
    rw [ha]
    rw [List.take_length] at hst
    exact exitN (sl a) _ W _ fun a' b0 b13 => hQ _ _ _ _ _ _ _ b0 (b13.trans h13) hN hst
  · rw [h0, h1, h3, h8, h10, h13, h14, h28, h29, h30] at ha
    rw [ha]
    have hi : t < V.length := by omega
    have hvt : V[t]? = some (V[t].1, V[t].2) := List.getElem?_eq_getElem hi
    have hvv := hv V[t] (List.getElem_mem hi)
    have hK : ∀ a' W' D' S' Bs' out' E', Fm 114 a' → sl a' 0 = .pointer (some ⟨gl, 0, none⟩) → sl a' 1 = .int .i64 kind → sl a' 3 = .int .i64 slot → sl a' 8 = .pointer (some ⟨gb, 0, none⟩) → sl a' 10 = .pointer (some ⟨gr, 0, none⟩) → sl a' 13 = out' → sl a' 14 = .slice Ab (bodyA c s op sg).length cb → sl a' 28 = .slice Av V.length cv → sl a' 29 = .int .i64 (V.length : Int) → sl a' 30 = .int .i64 ((t : Int) + 1) → Nt w W' base gl bm Bs0 view turn c s Ao co op As cs sg Ab Av V gb gr D' S' Bs' out' E' → Step kind view turn slot c s op sg S E (V[t].1, V[t].2) S' E' → t + 1 ≤ V.length ∧ (fun (t : Nat) a W => Fm 114 a ∧ sl a 0 = .pointer (some ⟨gl, 0, none⟩) ∧ sl a 1 = .int .i64 kind ∧ sl a 3 = .int .i64 slot ∧ sl a 8 = .pointer (some ⟨gb, 0, none⟩) ∧ sl a 10 = .pointer (some ⟨gr, 0, none⟩) ∧ sl a 14 = .slice Ab (bodyA c s op sg).length cb ∧ sl a 28 = .slice Av V.length cv ∧ sl a 29 = .int .i64 (V.length : Int) ∧ sl a 30 = .int .i64 (t : Int) ∧ ∃ D S Bs out E, sl a 13 = out ∧ Nt w W base gl bm Bs0 view turn c s Ao co op As cs sg Ab Av V gb gr D S Bs out E ∧ Steps kind view turn slot c s op sg S0 [] (V.take t) S E ∧ E.length ≤ t) (t + 1) a' W' := fun a' W' D' S' Bs' out' E' c0 c1 c2 c3 c4 c5 c6 c7 c8 c9 c10 c11 c12 => by
      refine ⟨by omega, c0, c1, c2, c3, c4, c5, c7, c8, c9, by rw [c10]; congr 1, D', S', Bs', out', E', c6, c11, ?_, Nat.le_trans c12.len (by omega)⟩
      rw [List.take_add_one, hvt]
      exact hst.snoc c12
    by_cases hvr : vrA kind view turn slot (bodyA c s op sg) V[t].1 V[t].2 = true
    · by_cases hh : Maps.has D (plK kind view turn slot V[t].1) = true
      · obtain ⟨x, hx, hxk⟩ := List.mem_map.1 ((hN.ld.has _).1 hh)
        obtain ⟨j, hj, rfl⟩ := List.getElem_of_mem hx
        have hSj : S[j]? = some S[j] := List.getElem?_eq_getElem hj
        have hBl : j < Bs.length := by rw [hN.ld.bl]; exact hj
        have hBj : Bs[j]? = some Bs[j] := List.getElem?_eq_getElem hBl
        by_cases htd : S[j].told = true
        · exact roundNd1 (sl a) kind view turn slot c s Ao co op As cs sg Ab cb Av cv V t _ _ hvt hV w W base gl bm Bs0 gb gr D S Bs out E hcb lo hco hcs bo bs hvv.1 hvv.2.1 wk wv wt wl hvv.2.2 (by omega) hN hvr j _ _ hSj hBj hxk htd _ hK
        · have htd : S[j].told = false := by simpa using htd
          by_cases hbe : bodyA S[j].c S[j].s S[j].op S[j].sg = bodyA c s op sg
          · exact roundNd2 (sl a) kind view turn slot c s Ao co op As cs sg Ab cb Av cv V t _ _ hvt hV w W base gl bm Bs0 gb gr D S Bs out E hcb lo hco hcs bo bs hvv.1 hvv.2.1 wk wv wt wl hvv.2.2 (by omega) hN hvr j _ _ hSj hBj hxk htd hbe _ hK
          · exact roundNe (sl a) kind view turn slot c s Ao co op As cs sg Ab cb Av cv V t _ _ hvt hV w W base gl bm Bs0 gb gr D S Bs out E hcb lo hco hcs bo bs hvv.1 hvv.2.1 wk wv wt wl hvv.2.2 (by omega) hN hvr j _ _ hSj hBj hxk htd hbe _ hK
      · have hh : Maps.has D (plK kind view turn slot V[t].1) = false := by simpa using hh
        by_cases hn : S.length < 8192
        · exact roundNb (sl a) kind view turn slot c s Ao co op As cs sg Ab cb Av cv V t _ _ hvt hV w W base gl bm Bs0 gb gr D S Bs out E hcb lo hco hcs bo bs hvv.1 hvv.2.1 wk wv wt wl hvv.2.2 (by omega) hN hvr hh hn _ hK
        · exact roundNc (sl a) kind view turn slot c s Ao co op As cs sg Ab cb Av cv V t _ _ hvt hV w W base gl bm Bs0 gb gr D S Bs out E hcb lo hco hcs bo bs hvv.1 hvv.2.1 wk wv wt wl hvv.2.2 (by omega) hN hvr hh (by omega) _ hK
    · have hvr : vrA kind view turn slot (bodyA c s op sg) V[t].1 V[t].2 = false := by simpa using hvr
      exact roundNa (sl a) kind view turn slot c s Ao co op As cs sg Ab cb Av cv V t _ _ hvt hV w W base gl bm Bs0 gb gr D S Bs out E hcb lo hco hcs bo bs hvv.1 hvv.2.1 wk wv wt wl hvv.2.2 (by omega) hN hvr _ hK
theorem VC.fr0 {w w' : World} {A : Option Addr} {V : List (Int × List Int)} (h : VC w A V) (hf : Fr (fun _ => False) w w') : VC w' A V := fun i v hi => by
  obtain ⟨ad, A3, c3, e, ⟨cells, fr, ht⟩, h1, h2, h3, h4⟩ := h i v hi
  exact ⟨ad, A3, c3, e, ⟨cells, fr, hf.blk ht (fun h => h)⟩, hf.cell h1 (fun h => h), hf.cell h2 (fun h => h), h3, h4.lies hf⟩
theorem row_lower {w : World} {base base' n : Nat} {v : Value} {xs : List Value} {e : TypeId} {sz : Nat} (h : w.ownsRow base e sz v n xs) (hb : base' ≤ base) : w.ownsRow base' e sz v n xs := by
  obtain ⟨hl, ⟨rfl, h2⟩ | ⟨g, cap, cur, rfl, hb', h2⟩⟩ := h
  · exact ⟨hl, .inl ⟨rfl, h2⟩⟩
  · exact ⟨hl, .inr ⟨g, cap, cur, rfl, Nat.le_trans hb hb', h2⟩⟩
set_option maxHeartbeats 8000000 in
set_option maxRecDepth 100000 in
/-- ledger.Note, of the kinds that are noted. -/
theorem note_calls (kind view turn slot c s : Int) (Ao : Option Addr) (co : Nat) (op : List Int) (As : Option Addr) (cs : Nat) (sg : List Int) (Av : Option Addr) (cv : Nat) (V : List (Int × List Int)) (hV : V.length ≤ 1048576) (w : World) (base gl bm : Nat) (D : DataW Unit) (S : List Sn) (Bs : List Nat) (hl : LdAt w base gl bm D S Bs) (hbw : base ≤ w.heap.size) (hk : kind = 2 ∨ kind = 3) (ho : Rd w Ao op) (hg : Rd w As sg) (hvc : VC w Av V)
    (lo : op.length + sg.length ≤ 1048576) (hco : op.length ≤ co) (hcs : sg.length ≤ cs) (bo : Bys op) (bs : Bys sg) (hv : ∀ v ∈ V, v.2.length ≤ 140737488355327 ∧ Bys v.2 ∧ (Lit.int .i64 v.1).wf = true) (wv : (Lit.int .i64 view).wf = true) (wt : (Lit.int .i64 turn).wf = true) (wl : (Lit.int .i64 slot).wf = true) :
    Calls Try.prog 12 #[.pointer (some ⟨gl, 0, none⟩), .int .i64 kind, .agg #[.int .i64 view, .int .i64 turn], .int .i64 slot, .agg #[.int .i64 c, .int .i64 s, .slice Ao op.length co, .slice As sg.length cs], .slice Av V.length cv] w fun e w' => ∃ D' S' Bs' out E, e = .returned out ∧ LdAt w' base gl bm D' S' Bs' ∧ (∀ b ∈ Bs', b ∈ Bs ∨ w.heap.size ≤ b) ∧ EvRow w' w.heap.size out E ∧ Steps kind view turn slot c s op sg S [] V S' E ∧ Fr (LF bm Bs) w w' := by
  have HH := Aside0.mk (And.intro hl (And.intro hbw (And.intro ho (And.intro hg (And.intro hvc (And.intro lo (And.intro hV hv)))))))
  have wk : (Lit.int .i64 kind).wf = true := by rcases hk with rfl | rfl <;> rfl
  have HW := Aside0.mk (And.intro wk (And.intro wv (And.intro wt (And.intro wl (And.intro bo bs)))))
  have e2 : decide (kind = 2) = true ∨ decide (kind = 3) = true := by rcases hk with rfl | rfl <;> simp
  clear hl hbw ho hg hvc lo hV hv wk wv wt wl bo bs e2
  have hb2 : Below w.heap.size w ((w.alloc (.cells #[.int .i64 view, .int .i64 turn] 28)).alloc (.cells #[.int .i64 c, .int .i64 s, .slice Ao op.length co, .slice As sg.length cs] 31)) := below_alloc (below_alloc (Below.refl _ _) _) _
  have hga := heap_alloc_new (w.alloc (.cells #[.int .i64 view, .int .i64 turn] 28)) (.cells #[.int .i64 c, .int .i64 s, .slice Ao op.length co, .slice As sg.length cs] 31)
  rw [World.size_alloc] at hga
  have hgb := (Fr.of_below (below_alloc (Below.refl _ (w.alloc (.cells #[.int .i64 view, .int .i64 turn] 28))) (.cells #[.int .i64 c, .int .i64 s, .slice Ao op.length co, .slice As sg.length cs] 31)) (fun _ => False)).blk (heap_alloc_new w (.cells #[.int .i64 view, .int .i64 turn] 28)) (fun h => h)
  have main : ∀ (P : Exit → Act → World → Prop), True := fun _ => trivial
  clear main
  rcases hk with rfl | rfl
  · go_enter Try.func12, Try.ntmps12
    go_wp2_with (fail)
    generalize (w.alloc (.cells #[.int .i64 view, .int .i64 turn] 28)).alloc (.cells #[.int .i64 c, .int .i64 s, .slice Ao op.length co, .slice As sg.length cs] 31) = w2 at *
    have f2 := Fr.of_below hb2 (fun _ => False)
    refine (body_calls c s Ao co op As cs sg w2 (HH.out.2.2.1.lies f2) hco (HH.out.2.2.2.1.lies f2) hcs HH.out.2.2.2.2.2.1).mono ?_
    rintro e w4 ⟨Ab, cb, rfl, hcb, hO4, hb4⟩
    have f4 := Fr.of_below hb4 (fun _ => False)
    have F4 := f2.trans f4 (fun _ h => h.elim)
    have HN : Nt w4 w4 base gl bm Bs view turn c s Ao co op As cs sg Ab Av V w.heap.size (w.heap.size + 1) D S Bs (.slice none 0 0) [] :=
      ⟨Fr.refl _ _, HH.out.1.fr0 F4, fun b hb => .inl hb, ⟨_, _, HH.out.1.fr0 F4⟩, f4.blk hgb (fun h => h), f4.blk hga (fun h => h), HH.out.2.2.1.lies F4, HH.out.2.2.2.1.lies F4, QB.rd (q_of_own hO4), HH.out.2.2.2.2.1.fr0 F4, ⟨[], rfl, ⟨rfl, .inl ⟨rfl, rfl⟩⟩, fun j e c hj => by simp at hj⟩, Nat.le_trans HH.out.2.1 F4.size⟩
    have HN := Aside0.mk (And.intro HN F4)
    clear hb2 hga hgb f2 hO4 hb4 f4 F4
    go_wp2_with (fail)
    refine loopN 2 view turn slot c s Ao co op As cs sg Ab cb Av cv V HH.out.2.2.2.2.2.2.1 w4 base gl bm Bs S w.heap.size (w.heap.size + 1) hcb HH.out.2.2.2.2.2.1 hco hcs HW.out.2.2.2.2.1 HW.out.2.2.2.2.2 HH.out.2.2.2.2.2.2.2 HW.out.1 HW.out.2.1 HW.out.2.2.1 HW.out.2.2.2.1 _ ?_ _ _ ⟨⟨rfl, rfl⟩, rfl, rfl, rfl, rfl, rfl, rfl, rfl, rfl, rfl, _, _, _, _, _, rfl, HN.out.1, ⟨rfl, rfl⟩, Nat.le_refl _⟩
    intro a' W' D' S' Bs' out E hFm j13 hR hst
    rw [fm114 hFm, j13]
    have HR := Aside0.mk (And.intro hR hst)
    clear hR hst hFm j13
    go_wp2
    go_ret
    refine ⟨D', S', Bs', out, E, rfl, HR.out.1.ld, fun b hb => (HR.out.1.nb b hb).imp id (fun h => Nat.le_trans HN.out.2.size h), ?_, HR.out.2, (HN.out.2.mono (fun _ h => h.elim)).trans HR.out.1.F (fun k hk => .inl hk)⟩
    obtain ⟨css, h1, h2, h3⟩ := HR.out.1.ev
    exact ⟨css, h1, row_lower h2 HN.out.2.size, h3⟩
  · go_enter Try.func12, Try.ntmps12
    go_wp2_with (fail)
    generalize (w.alloc (.cells #[.int .i64 view, .int .i64 turn] 28)).alloc (.cells #[.int .i64 c, .int .i64 s, .slice Ao op.length co, .slice As sg.length cs] 31) = w2 at *
    have f2 := Fr.of_below hb2 (fun _ => False)
    refine (body_calls c s Ao co op As cs sg w2 (HH.out.2.2.1.lies f2) hco (HH.out.2.2.2.1.lies f2) hcs HH.out.2.2.2.2.2.1).mono ?_
    rintro e w4 ⟨Ab, cb, rfl, hcb, hO4, hb4⟩
    have f4 := Fr.of_below hb4 (fun _ => False)
    have F4 := f2.trans f4 (fun _ h => h.elim)
    have HN : Nt w4 w4 base gl bm Bs view turn c s Ao co op As cs sg Ab Av V w.heap.size (w.heap.size + 1) D S Bs (.slice none 0 0) [] :=
      ⟨Fr.refl _ _, HH.out.1.fr0 F4, fun b hb => .inl hb, ⟨_, _, HH.out.1.fr0 F4⟩, f4.blk hgb (fun h => h), f4.blk hga (fun h => h), HH.out.2.2.1.lies F4, HH.out.2.2.2.1.lies F4, QB.rd (q_of_own hO4), HH.out.2.2.2.2.1.fr0 F4, ⟨[], rfl, ⟨rfl, .inl ⟨rfl, rfl⟩⟩, fun j e c hj => by simp at hj⟩, Nat.le_trans HH.out.2.1 F4.size⟩
    have HN := Aside0.mk (And.intro HN F4)
    clear hb2 hga hgb f2 hO4 hb4 f4 F4
    go_wp2_with (fail)
    refine loopN 3 view turn slot c s Ao co op As cs sg Ab cb Av cv V HH.out.2.2.2.2.2.2.1 w4 base gl bm Bs S w.heap.size (w.heap.size + 1) hcb HH.out.2.2.2.2.2.1 hco hcs HW.out.2.2.2.2.1 HW.out.2.2.2.2.2 HH.out.2.2.2.2.2.2.2 HW.out.1 HW.out.2.1 HW.out.2.2.1 HW.out.2.2.2.1 _ ?_ _ _ ⟨⟨rfl, rfl⟩, rfl, rfl, rfl, rfl, rfl, rfl, rfl, rfl, rfl, _, _, _, _, _, rfl, HN.out.1, ⟨rfl, rfl⟩, Nat.le_refl _⟩
    intro a' W' D' S' Bs' out E hFm j13 hR hst
    rw [fm114 hFm, j13]
    have HR := Aside0.mk (And.intro hR hst)
    clear hR hst hFm j13
    go_wp2
    go_ret
    refine ⟨D', S', Bs', out, E, rfl, HR.out.1.ld, fun b hb => (HR.out.1.nb b hb).imp id (fun h => Nat.le_trans HN.out.2.size h), ?_, HR.out.2, (HN.out.2.mono (fun _ h => h.elim)).trans HR.out.1.F (fun k hk => .inl hk)⟩
    obtain ⟨css, h1, h2, h3⟩ := HR.out.1.ev
    exact ⟨css, h1, row_lower h2 HN.out.2.size, h3⟩
end Go.Proofs.Ytnabilhcmplhcaa.Sha

/-
  The ledger's example is right; LedgerNames.
-/
set_option linter.unusedVariables false
set_option linter.unusedSimpArgs false
namespace Go.Proofs.Ytnabilhcmplhcaa.Sha
open Go.RowKit Go.Proofs.YtnabilhcmplhcaaW.PrintWords Go.Proofs.YtnabilhcmplhcaaW.PrintLast Go.Proofs.YtnabilhcmplhcaaW.PrintMore Go.Proofs.Ytnabilhcmplhcaa.Q Go.Proofs.Ytnabilhcmplhcaa.Fr Go.Proofs.Ytnabilhcmplhcaa.Oct
open Go.Maps Go.ChangeMaps

theorem evrow_len {w : World} {base : Nat} {v : Value} {E : List Ev} (h : EvRow w base v E) : ∃ A c, v = .slice A E.length c := by
  obtain ⟨css, _, ⟨_, ⟨rfl, h2⟩ | ⟨g, cap, cur, rfl, _⟩⟩, _⟩ := h
  · exact ⟨none, 0, by rw [h2]⟩
  · exact ⟨_, _, rfl⟩
theorem evrow_one {w : World} {base : Nat} {v : Value} {ev : Ev} (h : EvRow w base v [ev]) : ∃ g cap, v = .slice (some ⟨g, 0, none⟩) 1 cap ∧ w.cell? ⟨g, 1, none⟩ = some (.int .i64 ev.view) ∧ w.cell? ⟨g, 2, none⟩ = some (.int .i64 ev.turn) ∧ w.cell? ⟨g, 3, none⟩ = some (.int .i64 ev.slot) ∧ w.cell? ⟨g, 4, none⟩ = some (.int .i64 ev.signer) ∧ w.cell? ⟨g, 6, none⟩ = some (.int .i64 ev.kind) := by
  obtain ⟨css, hcl, ⟨hl, ⟨rfl, h2⟩ | ⟨g, cap, cur, rfl, hb, hg, h1, h2, h3, h4⟩⟩, hev⟩ := h
  · cases h2
  · match css, hcl with
    | [c], _ =>
      obtain ⟨hc, B1, d1, B2, d2, B3, d3, B4, d4, B5, d5, B6, d6, e, _⟩ := hev 0 ev c rfl rfl
      injection e with e
      have e := congrArg Array.toList e
      rw [List.toList_toArray] at e
      rw [List.flatten_singleton] at h4
      have hat : ∀ (j : Nat) (u : Value), c[j]? = some u → w.cell? ⟨g, j, none⟩ = some u := fun j u hu => by
        rw [← h4] at hu
        simp only [World.cell?, hg]
        rw [List.getElem?_take] at hu
        split at hu
        · simpa using hu
        · cases hu
      rw [e] at hat
      exact ⟨g, cap, rfl, hat 1 _ rfl, hat 2 _ rfl, hat 3 _ rfl, hat 4 _ rfl, hat 6 _ rfl⟩
theorem LdAt.lf_ge {w : World} {base gl bm : Nat} {D : DataW Unit} {S : List Sn} {Bs : List Nat} (h : LdAt w base gl bm D S Bs) {k : Nat} (hk : LF bm Bs k) : base ≤ k := by
  rcases hk with rfl | hk
  · exact h.hbm
  · obtain ⟨i, hi, rfl⟩ := List.getElem_of_mem hk
    obtain ⟨_, _, _, _, _, _, _, _, _, _, hle⟩ := (h.at' i _ _ (List.getElem?_eq_getElem (by rw [← h.bl]; exact hi)) (List.getElem?_eq_getElem hi)).2
    exact hle
theorem VC.one {w : World} {g : Nat} {si : Int} {A : Option Addr} {c : Nat} {t : List Int} {fr : Nat × Nat} (h : w.heap[g]? = some (.cells #[.int .i64 si, .slice A t.length c] 55 fr)) (hc : t.length ≤ c) (hr : Rd w A t) : VC w (some ⟨g, 0, none⟩) [(si, t)] := fun i v hi => by
  cases i with
  | zero =>
    have : v = (si, t) := by simpa using hi.symm
    subst this
    exact ⟨_, A, c, rfl, ⟨_, _, h⟩, by rw [add_at]; simp [World.cell?, h], by rw [add_at]; simp [World.cell?, h], hc, hr⟩
  | succ i => simp at hi
/-- Who makes a vote makes a right one. -/
theorem vrA_made {kind view turn slot : Int} {body : List Int} {signer : Int} (h0 : 0 ≤ signer) (h1 : signer ≤ 15) : vrA kind view turn slot body signer (vsA kind view turn slot body signer) = true := by
  unfold vrA repK
  rw [if_neg (by omega), if_neg (by omega)]
  simp
  omega
def sn0 (told : Bool) : Sn := ⟨2, 0, 0, 1, 3, 0, 0, [], [], vsA 2 0 0 1 (bodyA 0 0 [] []) 3, told⟩
theorem bodies_ne : bodyA 0 0 [] [] ≠ bodyA 1 1 [] [] := by decide +kernel
theorem alive_x {S' : List Sn} {E : List Ev} (h : Steps 2 0 0 1 0 0 [] [] [] [] [(3, vsA 2 0 0 1 (bodyA 0 0 [] []) 3)] S' E) : S' = [sn0 false] ∧ E = [] := by
  obtain ⟨S1, E1, h1, rfl, rfl⟩ := h
  have hr : vrA 2 0 0 1 (bodyA 0 0 [] []) 3 (vsA 2 0 0 1 (bodyA 0 0 [] []) 3) = true := vrA_made (by decide) (by decide)
  rcases h1 with ⟨h, _⟩ | ⟨_, _, _, rfl, rfl⟩ | ⟨_, _, h, _⟩ | ⟨_, i, x, h, _⟩ | ⟨_, i, x, h, _⟩
  · rw [hr] at h; cases h
  · exact ⟨rfl, rfl⟩
  · simp at h
  · simp at h
  · simp at h
theorem one_get {i : Nat} {x y : Sn} (h : [y][i]? = some x) : i = 0 ∧ x = y := by
  cases i with
  | zero => exact ⟨rfl, by simpa using h.symm⟩
  | succ i => simp at h
theorem alive_y {S' : List Sn} {E : List Ev} (h : Steps 2 0 0 1 1 1 [] [] [sn0 false] [] [(3, vsA 2 0 0 1 (bodyA 1 1 [] []) 3)] S' E) : S' = [sn0 true] ∧ ∃ ev, E = [ev] ∧ ev.signer = 3 := by
  obtain ⟨S1, E1, h1, rfl, rfl⟩ := h
  have hr : vrA 2 0 0 1 (bodyA 1 1 [] []) 3 (vsA 2 0 0 1 (bodyA 1 1 [] []) 3) = true := vrA_made (by decide) (by decide)
  have hk : plK 2 0 0 1 3 ∈ [sn0 false].map Sn.key := by simp [Sn.key, sn0]
  rcases h1 with ⟨h, _⟩ | ⟨_, h, _⟩ | ⟨_, h, _⟩ | ⟨_, i, x, hi, _, h, _⟩ | ⟨_, i, x, hi, _, h1, h2, rfl, rfl⟩
  · rw [hr] at h; cases h
  · exact absurd hk h
  · exact absurd hk h
  · obtain ⟨rfl, rfl⟩ := one_get hi
    rcases h with h | h
    · cases h
    · exact absurd h bodies_ne
  · obtain ⟨rfl, rfl⟩ := one_get hi
    refine ⟨rfl, _, rfl, ?_⟩
    unfold mkEv
    split <;> rfl
theorem alive_z {S' : List Sn} {E : List Ev} (h : Steps 2 0 0 1 1 1 [] [] [sn0 true] [] [(3, vsA 2 0 0 1 (bodyA 1 1 [] []) 3)] S' E) : S' = [sn0 true] ∧ E = [] := by
  obtain ⟨S1, E1, h1, rfl, rfl⟩ := h
  have hr : vrA 2 0 0 1 (bodyA 1 1 [] []) 3 (vsA 2 0 0 1 (bodyA 1 1 [] []) 3) = true := vrA_made (by decide) (by decide)
  have hk : plK 2 0 0 1 3 ∈ [sn0 true].map Sn.key := by simp [Sn.key, sn0]
  rcases h1 with ⟨h, _⟩ | ⟨_, h, _⟩ | ⟨_, h, _⟩ | ⟨_, i, x, hi, _, h, rfl, rfl⟩ | ⟨_, i, x, hi, _, h1, _⟩
  · rw [hr] at h; cases h
  · exact absurd hk h
  · exact absurd hk h
  · exact ⟨rfl, rfl⟩
  · obtain ⟨rfl, rfl⟩ := one_get hi
    cases h1
theorem LdAt.lower {w : World} {base base' gl bm : Nat} {D : DataW Unit} {S : List Sn} {Bs : List Nat} (h : LdAt w base gl bm D S Bs) (hb : base' ≤ base) : LdAt w base' gl bm D S Bs :=
  ⟨h.head, h.own, h.size, h.bl, fun i x b hx hbb => by
    obtain ⟨h0, A1, c1, A2, c2, A3, c3, hg, o1, o2, o3, hle⟩ := h.at' i x b hx hbb
    exact ⟨h0, A1, c1, A2, c2, A3, c3, hg, o1.lower hb, o2.lower hb, o3.lower hb, Nat.le_trans hb hle⟩, h.has, h.keys, h.nd, h.ok, Nat.le_trans hb h.hgl, Nat.le_trans hb h.hbm⟩
def Z4q : Array Value := #[.int .i64 0, .int .i64 0, .slice none 0 0, .slice none 0 0]
set_option maxHeartbeats 8000000 in
set_option maxRecDepth 100000 in
theorem lalive_calls (w : World) : Calls Try.prog 8 #[] w fun e w' => e = .returned (.bool true) ∧ Below w.heap.size w w' := by
  go_enter Try.func8, Try.ntmps8
  go_wp2_with (fail)
  refine (lnew_calls w).mono ?_
  rintro e w1 ⟨gl, bm, rfl, hL1, hb1⟩
  have H1 := Aside0.mk (And.intro hL1 (Fr.of_below hb1 (fun _ => False)))
  clear hL1 hb1
  go_wp2_with (first | ((with_reducible refine gate_dst (N := 2) rfl ?_); refine wpList_alloc_abs (by rfl) 31 (by rfl) (.agg Z4q) (by kernel_rfl) ?_; intro w2 hb2 hs2 hg2) | ((with_reducible refine gate_store (p := 2) rfl ?_); refine Aside0.out ?_))
  refine ⟨?_⟩
  refine wpList_store_abs (by rfl) 31 _ _ (by rfl) w1.heap.size #[.int .i64 1, .int .i64 1, .slice none 0 0, .slice none 0 0] (by rfl) (by rfl) 31 Z4q hg2 (by kernel_rfl) (by rfl) (by simp [Value.oneCell']) ?_
  intro w3 hf3 hs3 hg3
  have F3 : Fr (fun _ => False) w1 w3 := (Fr.of_below hb2 (fun _ => False)).trans hf3 (fun k hk => .inr (by omega))
  have H3 := Aside0.mk (And.intro (H1.out.1.fr0 F3) (And.intro (H1.out.2.trans F3 (fun _ h => h.elim)) hg3))
  obtain ⟨gr, hgr⟩ : ∃ g, w1.heap.size = g := ⟨_, rfl⟩
  rw [hgr] at H3
  rw [hgr]
  clear H1 hb2 hs2 hg2 hf3 hs3 hg3 F3 hgr
  go_wp2_with (fail)
  refine (made_calls 0 0 1 0 0 none 0 [] none 0 [] 3 w3 (Rd.nil _ _) (Nat.le_refl _) (Rd.nil _ _) (Nat.le_refl _) (by decide)).mono ?_
  rintro e w4 ⟨A4, c4, rfl, hc4, hO4, hb4⟩
  have F4 := Fr.of_below hb4 (fun _ => False)
  have H4 := Aside0.mk (And.intro (H3.out.1.fr0 F4) (And.intro (H3.out.2.1.trans F4 (fun _ h => h.elim)) (And.intro (F4.blk H3.out.2.2 (fun h => h)) (QB.rd (q_of_own hO4)))))
  clear H3 hO4 hb4 F4
  go_wp2_with (fail)
  have hg5 := heap_alloc_new w4 (.cells #[.int .i64 3, .slice A4 (vsA 2 0 0 1 (bodyA 0 0 [] []) 3).length c4] 55)
  have hb5 := below_alloc (Below.refl w4.heap.size w4) (.cells #[.int .i64 3, .slice A4 (vsA 2 0 0 1 (bodyA 0 0 [] []) 3).length c4] 55)
  generalize w4.alloc (.cells #[.int .i64 3, .slice A4 (vsA 2 0 0 1 (bodyA 0 0 [] []) 3).length c4] 55) = w5 at *
  have F5 := Fr.of_below hb5 (fun _ => False)
  have L5 := H4.out.1.fr0 F5
  have G5 := H4.out.2.1.trans F5 (fun _ h => h.elim)
  refine (note_calls 2 0 0 1 0 0 none 0 [] none 0 [] (some ⟨w4.heap.size, 0, none⟩) 1 [(3, vsA 2 0 0 1 (bodyA 0 0 [] []) 3)] (by simp) w5 w.heap.size gl bm _ _ _ L5 G5.size (.inl rfl) (Rd.nil _ _) (Rd.nil _ _) (VC.one hg5 hc4 (H4.out.2.2.2.lies F5)) (by simp) (by simp) (by simp) Bys.nil Bys.nil (fun v hv => by
    have : v = (3, vsA 2 0 0 1 (bodyA 0 0 [] []) 3) := by simpa using hv
    subst this
    exact ⟨Nat.le_trans (vsA_len 2 0 0 1 _ 3) (by decide), vsA_bys 2 0 0 1 _ 3, rfl⟩) rfl rfl rfl).mono ?_
  rintro e w6 ⟨D6, S6, Bs6, x6, E6, rfl, L6, nb6, ev6, st6, f6⟩
  obtain ⟨rfl, rfl⟩ := alive_x st6
  obtain ⟨Ax, cx, rfl⟩ := evrow_len ev6
  have H6 := Aside0.mk (And.intro L6 (And.intro (G5.trans f6 (fun k hk => .inr (L5.lf_ge hk))) (f6.blk (F5.blk H4.out.2.2.1 (fun h => h)) (LF.not L5 (F5.blk H4.out.2.2.1 (fun h => h)) (by decide)))))
  clear H4 hg5 hb5 F5 L5 G5 L6 nb6 ev6 st6 f6
  have hS : ∀ w', Fr (fun _ => False) w6 w' → w'.cell? ⟨gr, 0, none⟩ = some (.int .i64 1) ∧ w'.cell? ⟨gr, 1, none⟩ = some (.int .i64 1) ∧ w'.cell? ⟨gr, 2, none⟩ = some (.slice none 0 0) ∧ w'.cell? ⟨gr, 3, none⟩ = some (.slice none 0 0) := fun w' hf => by
    have h1 := hf.blk H6.out.2.2 (fun h => h)
    simp [World.cell?, h1]
  have HA : ∀ w1, Fr (fun _ => False) w6 w1 → Calls Try.prog 19 #[.agg #[.int .i64 0, .int .i64 0], .int .i64 1, .agg #[.int .i64 1, .int .i64 1, .slice none 0 0, .slice none 0 0], .int .i64 3] w1 fun e w2 => ∃ A5 c5, e = .returned (.agg #[.int .i64 3, .slice A5 (vsA 2 0 0 1 (bodyA 1 1 [] []) 3).length c5]) ∧ (w2.cell? ⟨gr, 0, none⟩ = some (.int .i64 1) ∧ w2.cell? ⟨gr, 1, none⟩ = some (.int .i64 1) ∧ w2.cell? ⟨gr, 2, none⟩ = some (.slice none 0 0) ∧ w2.cell? ⟨gr, 3, none⟩ = some (.slice none 0 0)) ∧ Aside0 (Fr (fun _ => False) w6 w2 ∧ (vsA 2 0 0 1 (bodyA 1 1 [] []) 3).length ≤ c5 ∧ Rd w2 A5 (vsA 2 0 0 1 (bodyA 1 1 [] []) 3)) := by
    intro w1 hf1
    refine (made_calls 0 0 1 1 1 none 0 [] none 0 [] 3 w1 (Rd.nil _ _) (Nat.le_refl _) (Rd.nil _ _) (Nat.le_refl _) (by decide)).mono ?_
    rintro e w2 ⟨A5, c5, rfl, hc5, hO, hb⟩
    have f2 := hf1.trans (Fr.of_below hb (fun _ => False)) (fun _ h => h.elim)
    exact ⟨A5, c5, rfl, hS _ f2, ⟨f2, hc5, QB.rd (q_of_own hO)⟩⟩
  have HS := Aside0.mk hS
  have hs0 := hS _ (Fr.refl _ _)
  have HA := Aside0.mk HA
  clear hS
  go_wp2_with (fail)
  refine wp_region_held_drew (S := (fun w' => w'.cell? ⟨gr, 0, none⟩ = some (.int .i64 1) ∧ w'.cell? ⟨gr, 1, none⟩ = some (.int .i64 1) ∧ w'.cell? ⟨gr, 2, none⟩ = some (.slice none 0 0) ∧ w'.cell? ⟨gr, 3, none⟩ = some (.slice none 0 0))) (by kernel_rfl) hs0 (fun hHeld => ?_)
  refine wpAnyH_take (i := 0) (oi := ⟨some 18, _, _, _, _, _⟩) (v := (.pointer (some ⟨gl, 0, none⟩))) rfl (by kernel_rfl) (by kernel_rfl) (by kernel_rfl) (fun _ _ _ h => h) (Or.inl ⟨by rfl, by (intro w' hSw; (try dsimp only at hSw); go_simp)⟩) (by assumption) ?_
  try simp only [Act.put, List.setIfInBounds_toArray, List.set_cons_zero, List.set_cons_succ]
  refine wpAnyH_take (i := 1) (oi := ⟨some 19, _, _, _, _, _⟩) (v := (.agg #[.int .i64 0, .int .i64 0])) rfl (by kernel_rfl) (by kernel_rfl) (by kernel_rfl) (fun _ _ _ h => h) (Or.inl ⟨by rfl, by (intro w' hSw; (try dsimp only at hSw); go_simp)⟩) (by assumption) ?_
  try simp only [Act.put, List.setIfInBounds_toArray, List.set_cons_zero, List.set_cons_succ]
  refine wpAnyH_take (i := 2) (oi := ⟨some 20, _, _, _, _, _⟩) (v := (.agg #[.int .i64 1, .int .i64 1, .slice none 0 0, .slice none 0 0])) rfl (by kernel_rfl) (by kernel_rfl) (by kernel_rfl) (fun _ _ _ h => h) (Or.inl ⟨by rfl, by (intro w' hSw; (try dsimp only at hSw); go_simp)⟩) (by assumption) ?_
  try simp only [Act.put, List.setIfInBounds_toArray, List.set_cons_zero, List.set_cons_succ]
  refine wpAnyH_take (i := 3) (oi := ⟨some 21, _, _, _, _, _⟩) (v := (.agg #[.int .i64 0, .int .i64 0])) rfl (by kernel_rfl) (by kernel_rfl) (by kernel_rfl) (fun _ _ _ h => h) (Or.inl ⟨by rfl, by (intro w' hSw; (try dsimp only at hSw); go_simp)⟩) (by assumption) ?_
  try simp only [Act.put, List.setIfInBounds_toArray, List.set_cons_zero, List.set_cons_succ]
  refine wpAnyH_take (i := 4) (oi := ⟨some 22, _, _, _, _, _⟩) (v := (.agg #[.int .i64 1, .int .i64 1, .slice none 0 0, .slice none 0 0])) rfl (by kernel_rfl) (by kernel_rfl) (by kernel_rfl) (fun _ _ _ h => h) (Or.inl ⟨by rfl, by (intro w' hSw; (try dsimp only at hSw); go_simp)⟩) (by assumption) ?_
  try simp only [Act.put, List.setIfInBounds_toArray, List.set_cons_zero, List.set_cons_succ]
  refine wpAnyH_ready (rs := [5]) (by kernel_rfl) (by simp) ?_
  refine AllReadyH.cons (o := ⟨some 23, _, _, _, _, _⟩) rfl (fun K hK => ?_) AllReadyH.nil
  go_simp
  go_at_call 19
  refine (HA.out _ (Fr.refl _ _).of_drew).mono ?_
  rintro e w7 ⟨A7, c7, rfl, hs1, H7⟩
  refine hK.out _ _ hs1 (fun hHeld => ?_)
  try simp only [Act.put, List.setIfInBounds_toArray, List.set_cons_zero, List.set_cons_succ]
  refine wpAnyH_ready (rs := [6]) (by kernel_rfl) (by simp) ?_
  refine AllReadyH.cons (o := ⟨some 24, _, _, _, _, _⟩) rfl (fun K hK => ?_) AllReadyH.nil
  go_simp
  have hgv := heap_alloc_new w7 (.cells #[.int .i64 3, .slice A7 (vsA 2 0 0 1 (bodyA 1 1 [] []) 3).length c7] 55)
  have hbv := below_alloc (Below.refl w7.heap.size w7) (.cells #[.int .i64 3, .slice A7 (vsA 2 0 0 1 (bodyA 1 1 [] []) 3).length c7] 55)
  generalize w7.alloc (.cells #[.int .i64 3, .slice A7 (vsA 2 0 0 1 (bodyA 1 1 [] []) 3).length c7] 55) = w8 at *
  have fv := Fr.of_below hbv (fun _ => False)
  have F8 := H7.out.1.trans fv (fun _ h => h.elim)
  have hs2 := HS.out _ F8
  have L8 := H6.out.1.fr0 F8
  have G8 := H6.out.2.1.trans F8 (fun _ h => h.elim)
  refine hK.out _ _ hs2 (fun hHeld => ?_)
  try simp only [Act.put, List.setIfInBounds_toArray, List.set_cons_zero, List.set_cons_succ]
  refine wpAnyH_ready (rs := [7]) (by kernel_rfl) (by simp) ?_
  refine AllReadyH.cons (o := ⟨some 25, _, _, _, _, _⟩) rfl (fun K hK => ?_) AllReadyH.nil
  go_simp
  go_at_call 12
  refine (note_calls 2 0 0 1 1 1 none 0 [] none 0 [] (some ⟨w7.heap.size, 0, none⟩) 1 [(3, vsA 2 0 0 1 (bodyA 1 1 [] []) 3)] (by simp) w8 w.heap.size gl bm _ _ _ L8 G8.size (.inl rfl) (Rd.nil _ _) (Rd.nil _ _) (VC.one hgv H7.out.2.1 (H7.out.2.2.lies fv)) (by simp) (by simp) (by simp) Bys.nil Bys.nil (fun v hv => by
    have : v = (3, vsA 2 0 0 1 (bodyA 1 1 [] []) 3) := by simpa using hv
    subst this
    exact ⟨Nat.le_trans (vsA_len 2 0 0 1 _ 3) (by decide), vsA_bys 2 0 0 1 _ 3, rfl⟩) rfl rfl rfl).mono ?_
  rintro e w9 ⟨D9, S9, Bs9, x9, E9, rfl, L9, nb9, ev9, st9, f9⟩
  have hgr8 := F8.blk H6.out.2.2 (fun h => h)
  have hgr9 := f9.blk hgr8 (LF.not L8 hgr8 (by decide))
  have hs3 : w9.cell? ⟨gr, 0, none⟩ = some (.int .i64 1) ∧ w9.cell? ⟨gr, 1, none⟩ = some (.int .i64 1) ∧ w9.cell? ⟨gr, 2, none⟩ = some (.slice none 0 0) ∧ w9.cell? ⟨gr, 3, none⟩ = some (.slice none 0 0) := by simp [World.cell?, hgr9]
  refine hK.out _ _ hs3 (fun hHeld => ?_)
  try simp only [Act.put, List.setIfInBounds_toArray, List.set_cons_zero, List.set_cons_succ]
  refine wpAnyH_take (i := 8) (oi := ⟨some 4, _, _, _, _, _⟩) (v := x9) rfl (by kernel_rfl) (by kernel_rfl) (by kernel_rfl) (fun _ _ _ h => h) (Or.inl ⟨by rfl, by (intro w' hSw; (try dsimp only at hSw); go_simp)⟩) (by assumption) ?_
  try simp only [Act.put, List.setIfInBounds_toArray, List.set_cons_zero, List.set_cons_succ]
  refine wpAnyH_done (by kernel_rfl) ?_ _
  have G9 : Fr (fun _ => False) w w9 := G8.trans f9 (fun k hk => .inr (L8.lf_ge hk))
  obtain ⟨rfl, ev, rfl, hsg⟩ := alive_y st9
  obtain ⟨gy, cy, rfl, _⟩ := evrow_one ev9
  have H9 := Aside0.mk (And.intro L9 (And.intro G9 hgr9))
  have HY := Aside0.mk (And.intro ev9 hsg)
  clear HA HS hs0 hs1 hs2 hs3 hHeld H6 H7 hgv hbv fv F8 L8 G8 L9 nb9 ev9 st9 f9 hgr8 hgr9 G9 hsg
  have hS : ∀ w', Fr (fun _ => False) w9 w' → w'.cell? ⟨gr, 0, none⟩ = some (.int .i64 1) ∧ w'.cell? ⟨gr, 1, none⟩ = some (.int .i64 1) ∧ w'.cell? ⟨gr, 2, none⟩ = some (.slice none 0 0) ∧ w'.cell? ⟨gr, 3, none⟩ = some (.slice none 0 0) := fun w' hf => by
    have h1 := hf.blk H9.out.2.2 (fun h => h)
    simp [World.cell?, h1]
  have HA : ∀ w1, Fr (fun _ => False) w9 w1 → Calls Try.prog 19 #[.agg #[.int .i64 0, .int .i64 0], .int .i64 1, .agg #[.int .i64 1, .int .i64 1, .slice none 0 0, .slice none 0 0], .int .i64 3] w1 fun e w2 => ∃ A5 c5, e = .returned (.agg #[.int .i64 3, .slice A5 (vsA 2 0 0 1 (bodyA 1 1 [] []) 3).length c5]) ∧ (w2.cell? ⟨gr, 0, none⟩ = some (.int .i64 1) ∧ w2.cell? ⟨gr, 1, none⟩ = some (.int .i64 1) ∧ w2.cell? ⟨gr, 2, none⟩ = some (.slice none 0 0) ∧ w2.cell? ⟨gr, 3, none⟩ = some (.slice none 0 0)) ∧ Aside0 (Fr (fun _ => False) w9 w2 ∧ (vsA 2 0 0 1 (bodyA 1 1 [] []) 3).length ≤ c5 ∧ Rd w2 A5 (vsA 2 0 0 1 (bodyA 1 1 [] []) 3)) := by
    intro w1 hf1
    refine (made_calls 0 0 1 1 1 none 0 [] none 0 [] 3 w1 (Rd.nil _ _) (Nat.le_refl _) (Rd.nil _ _) (Nat.le_refl _) (by decide)).mono ?_
    rintro e w2 ⟨A5, c5, rfl, hc5, hO, hb⟩
    have f2 := hf1.trans (Fr.of_below hb (fun _ => False)) (fun _ h => h.elim)
    exact ⟨A5, c5, rfl, hS _ f2, ⟨f2, hc5, QB.rd (q_of_own hO)⟩⟩
  have HS := Aside0.mk hS
  have hs0 := hS _ (Fr.refl _ _)
  have HA := Aside0.mk HA
  clear hS
  go_wp2_with (fail)
  refine wp_region_held_drew (S := (fun w' => w'.cell? ⟨gr, 0, none⟩ = some (.int .i64 1) ∧ w'.cell? ⟨gr, 1, none⟩ = some (.int .i64 1) ∧ w'.cell? ⟨gr, 2, none⟩ = some (.slice none 0 0) ∧ w'.cell? ⟨gr, 3, none⟩ = some (.slice none 0 0))) (by kernel_rfl) hs0 (fun hHeld => ?_)
  refine wpAnyH_take (i := 0) (oi := ⟨some 26, _, _, _, _, _⟩) (v := (.pointer (some ⟨gl, 0, none⟩))) rfl (by kernel_rfl) (by kernel_rfl) (by kernel_rfl) (fun _ _ _ h => h) (Or.inl ⟨by rfl, by (intro w' hSw; (try dsimp only at hSw); go_simp)⟩) (by assumption) ?_
  try simp only [Act.put, List.setIfInBounds_toArray, List.set_cons_zero, List.set_cons_succ]
  refine wpAnyH_take (i := 1) (oi := ⟨some 27, _, _, _, _, _⟩) (v := (.agg #[.int .i64 0, .int .i64 0])) rfl (by kernel_rfl) (by kernel_rfl) (by kernel_rfl) (fun _ _ _ h => h) (Or.inl ⟨by rfl, by (intro w' hSw; (try dsimp only at hSw); go_simp)⟩) (by assumption) ?_
  try simp only [Act.put, List.setIfInBounds_toArray, List.set_cons_zero, List.set_cons_succ]
  refine wpAnyH_take (i := 2) (oi := ⟨some 28, _, _, _, _, _⟩) (v := (.agg #[.int .i64 1, .int .i64 1, .slice none 0 0, .slice none 0 0])) rfl (by kernel_rfl) (by kernel_rfl) (by kernel_rfl) (fun _ _ _ h => h) (Or.inl ⟨by rfl, by (intro w' hSw; (try dsimp only at hSw); go_simp)⟩) (by assumption) ?_
  try simp only [Act.put, List.setIfInBounds_toArray, List.set_cons_zero, List.set_cons_succ]
  refine wpAnyH_take (i := 3) (oi := ⟨some 29, _, _, _, _, _⟩) (v := (.agg #[.int .i64 0, .int .i64 0])) rfl (by kernel_rfl) (by kernel_rfl) (by kernel_rfl) (fun _ _ _ h => h) (Or.inl ⟨by rfl, by (intro w' hSw; (try dsimp only at hSw); go_simp)⟩) (by assumption) ?_
  try simp only [Act.put, List.setIfInBounds_toArray, List.set_cons_zero, List.set_cons_succ]
  refine wpAnyH_take (i := 4) (oi := ⟨some 30, _, _, _, _, _⟩) (v := (.agg #[.int .i64 1, .int .i64 1, .slice none 0 0, .slice none 0 0])) rfl (by kernel_rfl) (by kernel_rfl) (by kernel_rfl) (fun _ _ _ h => h) (Or.inl ⟨by rfl, by (intro w' hSw; (try dsimp only at hSw); go_simp)⟩) (by assumption) ?_
  try simp only [Act.put, List.setIfInBounds_toArray, List.set_cons_zero, List.set_cons_succ]
  refine wpAnyH_ready (rs := [5]) (by kernel_rfl) (by simp) ?_
  refine AllReadyH.cons (o := ⟨some 31, _, _, _, _, _⟩) rfl (fun K hK => ?_) AllReadyH.nil
  go_simp
  go_at_call 19
  refine (HA.out _ (Fr.refl _ _).of_drew).mono ?_
  rintro e w10 ⟨A10, c10, rfl, hs1, H10⟩
  refine hK.out _ _ hs1 (fun hHeld => ?_)
  try simp only [Act.put, List.setIfInBounds_toArray, List.set_cons_zero, List.set_cons_succ]
  refine wpAnyH_ready (rs := [6]) (by kernel_rfl) (by simp) ?_
  refine AllReadyH.cons (o := ⟨some 32, _, _, _, _, _⟩) rfl (fun K hK => ?_) AllReadyH.nil
  go_simp
  have hgv := heap_alloc_new w10 (.cells #[.int .i64 3, .slice A10 (vsA 2 0 0 1 (bodyA 1 1 [] []) 3).length c10] 55)
  have hbv := below_alloc (Below.refl w10.heap.size w10) (.cells #[.int .i64 3, .slice A10 (vsA 2 0 0 1 (bodyA 1 1 [] []) 3).length c10] 55)
  generalize w10.alloc (.cells #[.int .i64 3, .slice A10 (vsA 2 0 0 1 (bodyA 1 1 [] []) 3).length c10] 55) = w11 at *
  have fv := Fr.of_below hbv (fun _ => False)
  have F11 := H10.out.1.trans fv (fun _ h => h.elim)
  have hs2 := HS.out _ F11
  have L11 := H9.out.1.fr0 F11
  have G11 := H9.out.2.1.trans F11 (fun _ h => h.elim)
  refine hK.out _ _ hs2 (fun hHeld => ?_)
  try simp only [Act.put, List.setIfInBounds_toArray, List.set_cons_zero, List.set_cons_succ]
  refine wpAnyH_ready (rs := [7]) (by kernel_rfl) (by simp) ?_
  refine AllReadyH.cons (o := ⟨some 33, _, _, _, _, _⟩) rfl (fun K hK => ?_) AllReadyH.nil
  go_simp
  go_at_call 12
  refine (note_calls 2 0 0 1 1 1 none 0 [] none 0 [] (some ⟨w10.heap.size, 0, none⟩) 1 [(3, vsA 2 0 0 1 (bodyA 1 1 [] []) 3)] (by simp) w11 w.heap.size gl bm _ _ _ L11 G11.size (.inl rfl) (Rd.nil _ _) (Rd.nil _ _) (VC.one hgv H10.out.2.1 (H10.out.2.2.lies fv)) (by simp) (by simp) (by simp) Bys.nil Bys.nil (fun v hv => by
    have : v = (3, vsA 2 0 0 1 (bodyA 1 1 [] []) 3) := by simpa using hv
    subst this
    exact ⟨Nat.le_trans (vsA_len 2 0 0 1 _ 3) (by decide), vsA_bys 2 0 0 1 _ 3, rfl⟩) rfl rfl rfl).mono ?_
  rintro e w12 ⟨D12, S12, Bs12, x12, E12, rfl, L12, nb12, ev12, st12, f12⟩
  have hgr11 := F11.blk H9.out.2.2 (fun h => h)
  have hgr12 := f12.blk hgr11 (LF.not L11 hgr11 (by decide))
  have hs3 : w12.cell? ⟨gr, 0, none⟩ = some (.int .i64 1) ∧ w12.cell? ⟨gr, 1, none⟩ = some (.int .i64 1) ∧ w12.cell? ⟨gr, 2, none⟩ = some (.slice none 0 0) ∧ w12.cell? ⟨gr, 3, none⟩ = some (.slice none 0 0) := by simp [World.cell?, hgr12]
  refine hK.out _ _ hs3 (fun hHeld => ?_)
  try simp only [Act.put, List.setIfInBounds_toArray, List.set_cons_zero, List.set_cons_succ]
  refine wpAnyH_take (i := 8) (oi := ⟨some 5, _, _, _, _, _⟩) (v := x12) rfl (by kernel_rfl) (by kernel_rfl) (by kernel_rfl) (fun _ _ _ h => h) (Or.inl ⟨by rfl, by (intro w' hSw; (try dsimp only at hSw); go_simp)⟩) (by assumption) ?_
  try simp only [Act.put, List.setIfInBounds_toArray, List.set_cons_zero, List.set_cons_succ]
  refine wpAnyH_done (by kernel_rfl) ?_ _
  have G12 : Fr (fun _ => False) w w12 := G11.trans f12 (fun k hk => .inr (L11.lf_ge hk))
  obtain ⟨rfl, rfl⟩ := alive_z st12
  obtain ⟨Az, cz, rfl⟩ := evrow_len ev12
  have hyf : Fr (LF bm Bs9) w9 w12 := (F11.mono (fun _ h => h.elim)).trans f12 (fun k hk => .inl hk)
  have hy12 := H9.out.1.evRow HY.out.1 hyf
  obtain ⟨gy', cy', e, _, _, _, k4, _⟩ := evrow_one hy12
  obtain ⟨rfl, rfl⟩ : gy = gy' ∧ cy = cy' := by simpa using e
  rw [HY.out.2] at k4
  have H12 := Aside0.mk (And.intro L12 G12)
  clear HA HS hs0 hs1 hs2 hs3 hHeld H9 H10 hgv hbv fv F11 L11 G11 L12 nb12 ev12 st12 f12 hgr11 hgr12 G12 HY hyf hy12 e
  go_wp2_with (fail)
  refine (llen_calls w12 w.heap.size gl bm _ _ _ H12.out.1).mono ?_
  rintro e w13 ⟨rfl, hb13⟩
  have H13 := Aside0.mk (H12.out.2.trans (Fr.of_below hb13 (fun _ => False)) (fun _ h => h.elim))
  clear hb13 H12 k4
  go_wp2
  go_ret
  exact ⟨rfl, frB H13.out⟩
set_option maxHeartbeats 8000000 in
set_option maxRecDepth 100000 in
theorem lnames_row (w : World) : Calls Try.prog 5 #[] w fun e w' => e = .returned (.bool true) ∧ Below w.heap.size w w' := by
  go_enter Try.func5, Try.ntmps5
  go_wp2_with (fail)
  refine (lalive_calls w).mono ?_
  rintro e w1 ⟨rfl, hb1⟩
  have H1 := Aside0.mk hb1
  clear hb1
  go_wp2
  go_ret
  exact ⟨rfl, H1.out⟩
end Go.Proofs.Ytnabilhcmplhcaa.Sha
