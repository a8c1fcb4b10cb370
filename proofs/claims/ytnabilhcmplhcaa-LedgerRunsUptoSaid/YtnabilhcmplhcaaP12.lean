/- Parts of the proof of LedgerRunsUptoSaid: laid together and cut down to what LedgerRuns' proof uses (parts: LrH, LrD, LdC, Qx12, LdX, LrI). -/
import Derived.Test.YtnabilhcmplhcaaP10
import Derived.Test.YtnabilhcmplhcaaP11
import Derived.Deep.RegionHeld3
import Derived.Test.YtnabilhcmplhcaaP9
import Derived.Test.YtnabilhcmplhcaaP5
import Derived.Test.YtnabilhcmplhcaaP8
import Derived.Lib.SlMapFilter
import Derived.Maps.RangeWalk
import Derived.Deep.LoopGhost
import Derived.Test.YtnabilhcmplhcaaP1
section
/-
  The document's Note: whole.
-/
set_option linter.unusedVariables false
set_option linter.unusedSimpArgs false
namespace Go.Proofs.Ytnabilhcmplhcaa.Sha
open Go.RowKit Go.Proofs.YtnabilhcmplhcaaW.PrintWords Go.Proofs.YtnabilhcmplhcaaW.PrintLast Go.Proofs.YtnabilhcmplhcaaW.PrintMore Go.Proofs.Ytnabilhcmplhcaa.Q Go.Proofs.Ytnabilhcmplhcaa.Fr Go.Proofs.Ytnabilhcmplhcaa.Oct

set_option maxHeartbeats 8000000 in
set_option maxRecDepth 100000 in
theorem exitRn (u : Nat → Value) (n : Nat) (w : World) (Q : Exit → Act → World → Prop) (hQ : ∀ a', Fm 105 a' → sl a' 0 = u 0 → sl a' 14 = u 14 → Q (.exit 0) a' w) :
    Code.wp Try.prog (bodyN Try.f15 0) Q ⟨#[u 0, u 1, u 2, u 3, u 4, u 5, u 6, u 7, u 8, u 9, u 10, u 11, u 12, u 13, u 14, u 15, u 16, u 17, u 18, u 19, u 20, u 21, u 22, u 23, u 24, u 25, u 26, u 27, u 28, u 29, u 30, .int .i64 (n : Int), .int .i64 (n : Int), u 33, u 34, u 35, u 36, u 37, u 38, u 39, u 40, u 41, u 42, u 43, u 44, u 45, u 46, u 47, u 48, u 49, u 50, u 51, u 52, u 53, u 54, u 55, u 56, u 57, u 58, u 59, u 60, u 61, u 62, u 63, u 64, u 65, u 66, u 67, u 68, u 69, u 70, u 71, u 72, u 73, u 74, u 75, u 76, u 77, u 78, u 79, u 80, u 81, u 82, u 83, u 84, u 85, u 86, u 87, u 88, u 89, u 90, u 91, u 92, u 93, u 94, u 95, u 96, u 97, u 98, u 99, u 100, u 101, u 102, u 103, u 104], []⟩ w := by
  have c0 : decide ((n : Int) < (n : Int)) = false := by simp
  have HQ := Aside0.mk hQ
  clear hQ
  conv => arg 2; whnf
  go_wp2
  exact HQ.out _ ⟨rfl, rfl⟩ rfl rfl
theorem Step.few {kind view turn slot c s : Int} {op sg : List Int} {S : List Sn} {E : List Ev} {v : Int × List Int} {S' : List Sn} {E' : List Ev} (h : Step kind view turn slot c s op sg S E v S' E') (hS : S.length ≤ 8192) : S'.length ≤ 8192 := by
  rcases h with ⟨_, rfl, _⟩ | ⟨_, _, h, rfl, _⟩ | ⟨_, _, _, rfl, _⟩ | ⟨_, _, _, _, _, _, rfl, _⟩ | ⟨_, _, _, _, _, _, _, rfl, _⟩
  · exact hS
  · rw [List.length_append, List.length_singleton]; omega
  · exact hS
  · exact hS
  · rw [List.length_set]; exact hS
theorem loopRn (kind view turn slot c s : Int) (Ao : Option Addr) (co : Nat) (op : List Int) (As : Option Addr) (cs : Nat) (sg : List Int) (Av : Option Addr) (cv : Nat) (V : List (Int × List Int)) (hV : V.length ≤ 1048575) (w0 : World) (S0 : List Sn) (gb gr : Nat) (lo : op.length + sg.length ≤ 1048576) (bo : Bys op) (bs : Bys sg) (hv : ∀ v ∈ V, v.2.length ≤ 140737488355327 ∧ Bys v.2 ∧ (Lit.int .i64 v.1).wf = true) (wk : (Lit.int .i64 kind).wf = true) (wv : (Lit.int .i64 view).wf = true) (wt : (Lit.int .i64 turn).wf = true) (wl : (Lit.int .i64 slot).wf = true)
    (Q : Exit → Act → World → Prop) (hQ : ∀ a' W' l S out E, Fm 105 a' → sl a' 0 = l → sl a' 14 = out → Rt w0 W' view turn c s Ao co op As cs sg Av V gb gr l S out E → Steps kind view turn slot c s op sg S0 [] V S E → S.length ≤ 8192 → E.length ≤ V.length → Q (.exit 0) a' W')
    (a : Act) (W : World) (h : (fun (t : Nat) (a : Act) (W : World) => Fm 105 a ∧ sl a 1 = .int .i64 kind ∧ sl a 3 = .int .i64 slot ∧ sl a 8 = .pointer (some ⟨gb, 0, none⟩) ∧ sl a 10 = .pointer (some ⟨gr, 0, none⟩) ∧ sl a 30 = .slice Av V.length cv ∧ sl a 31 = .int .i64 (V.length : Int) ∧ sl a 32 = .int .i64 (t : Int) ∧ ∃ l S out E, sl a 0 = l ∧ sl a 14 = out ∧ Rt w0 W view turn c s Ao co op As cs sg Av V gb gr l S out E ∧ Steps kind view turn slot c s op sg S0 [] (V.take t) S E ∧ E.length ≤ t ∧ S.length ≤ 8192) 0 a W) : (Code.loop (bodyN Try.f15 0)).wp Try.prog Q a W := by
  refine wp_loop_up V.length (fun (t : Nat) (a : Act) (W : World) => Fm 105 a ∧ sl a 1 = .int .i64 kind ∧ sl a 3 = .int .i64 slot ∧ sl a 8 = .pointer (some ⟨gb, 0, none⟩) ∧ sl a 10 = .pointer (some ⟨gr, 0, none⟩) ∧ sl a 30 = .slice Av V.length cv ∧ sl a 31 = .int .i64 (V.length : Int) ∧ sl a 32 = .int .i64 (t : Int) ∧ ∃ l S out E, sl a 0 = l ∧ sl a 14 = out ∧ Rt w0 W view turn c s Ao co op As cs sg Av V gb gr l S out E ∧ Steps kind view turn slot c s op sg S0 [] (V.take t) S E ∧ E.length ≤ t ∧ S.length ≤ 8192) h ?_
  rintro t a W ht ⟨hF, h1, h3, h8, h10, h30, h31, h32, l, S, out, E, h0, h14, hN, hst, hel, hS⟩
  have ha := fm105 hF
  by_cases h64 : t = V.length
  · subst h64
    rw [h31, h32] at ha
    rw [ha]
    rw [List.take_length] at hst
    exact exitRn (sl a) _ W _ fun a' b0 b1 b14 => hQ _ _ _ _ _ _ b0 (b1.trans h0) (b14.trans h14) hN hst hS hel
  · rw [h0, h1, h3, h8, h10, h14, h30, h31, h32] at ha
    rw [ha]
    have hi : t < V.length := by omega
    have hvt : V[t]? = some (V[t].1, V[t].2) := List.getElem?_eq_getElem hi
    have hvv := hv V[t] (List.getElem_mem hi)
    have hK : ∀ a' W' l' S' out' E', Fm 105 a' → sl a' 0 = l' → sl a' 1 = .int .i64 kind → sl a' 3 = .int .i64 slot → sl a' 8 = .pointer (some ⟨gb, 0, none⟩) → sl a' 10 = .pointer (some ⟨gr, 0, none⟩) → sl a' 14 = out' → sl a' 30 = .slice Av V.length cv → sl a' 31 = .int .i64 (V.length : Int) → sl a' 32 = .int .i64 ((t : Int) + 1) → Rt w0 W' view turn c s Ao co op As cs sg Av V gb gr l' S' out' E' → Step kind view turn slot c s op sg S E (V[t].1, V[t].2) S' E' → t + 1 ≤ V.length ∧ (fun (t : Nat) (a : Act) (W : World) => Fm 105 a ∧ sl a 1 = .int .i64 kind ∧ sl a 3 = .int .i64 slot ∧ sl a 8 = .pointer (some ⟨gb, 0, none⟩) ∧ sl a 10 = .pointer (some ⟨gr, 0, none⟩) ∧ sl a 30 = .slice Av V.length cv ∧ sl a 31 = .int .i64 (V.length : Int) ∧ sl a 32 = .int .i64 (t : Int) ∧ ∃ l S out E, sl a 0 = l ∧ sl a 14 = out ∧ Rt w0 W view turn c s Ao co op As cs sg Av V gb gr l S out E ∧ Steps kind view turn slot c s op sg S0 [] (V.take t) S E ∧ E.length ≤ t ∧ S.length ≤ 8192) (t + 1) a' W' := by
      intro a' W' l' S' out' E' c0 c1 c2 c3 c4 c5 c6 c7 c8 c9 c10 c11
      refine ⟨by omega, c0, c2, c3, c4, c5, c7, c8, by rw [c9]; rfl, l', S', out', E', c1, c6, c10, ?_, Nat.le_trans c11.len (by omega), c11.few hS⟩
      rw [List.take_add_one, hvt]
      exact hst.snoc c11
    have hE : E.length ≤ 1048575 := by omega
    have hSl : S.length ≤ 1048575 := by omega
    exact roundRn (sl a) kind view turn slot c s Ao co op As cs sg Av cv V t _ _ hvt (by omega) w0 W gb gr l S out E lo bo bs hvv.1 hvv.2.1 wk wv wt wl hvv.2.2 hE hSl hN _ hK
/-- Evidences that can be read. -/
def ER (w : World) (A : Option Addr) (E : List Ev) : Prop := ∀ (j : Nat) (e : Ev), E[j]? = some e → ∃ (ad : Addr) (c : List Value), A = some ad ∧ c.length = 23 ∧ EvR w (.agg c.toArray) e ∧ ∀ (k : Nat) (u : Value), c[k]? = some u → w.cell? ⟨(ad.add (j * 23)).block, (ad.add (j * 23)).off + k, none⟩ = some u ∧ (ad.add (j * 23)).spot = none
theorem ER.of_row {w : World} {base : Nat} {out : Value} {E : List Ev} {cs : List (List Value)} (h1 : cs.length = E.length) (hq : w.ownsRow base 48 23 out E.length cs.flatten) (h3 : ∀ (j : Nat) (e : Ev) (c : List Value), E[j]? = some e → cs[j]? = some c → c.length = 23 ∧ EvR w (.agg c.toArray) e) : ∃ A c, out = .slice A E.length c ∧ E.length ≤ c ∧ ER w A E := by
  obtain ⟨A, cc, e, hc⟩ := row_slice hq
  refine ⟨A, cc, e, hc, fun j ev hj => ?_⟩
  have hjl := (List.getElem?_eq_some_iff.1 hj).1
  obtain ⟨g, cap, cur, e2, _, _, hg, hcur⟩ := row_at hq (by omega)
  rw [e] at e2
  injection e2 with e3 _ _
  have hcj : cs[j]? = some (cs[j]'(by rw [h1]; exact hjl)) := List.getElem?_eq_getElem (by rw [h1]; exact hjl)
  obtain ⟨hl, hev⟩ := h3 j ev _ hj hcj
  have hlen : ∀ c ∈ cs, c.length = 23 := fun c hc => by
    obtain ⟨i, hi, rfl⟩ := List.getElem_of_mem hc
    exact (h3 i E[i] _ (List.getElem?_eq_getElem (by rw [← h1]; exact hi)) (List.getElem?_eq_getElem hi)).1
  refine ⟨_, _, e3, hl, hev, fun k u hu => ?_⟩
  have hk : k < 23 := by rw [← hl]; exact (List.getElem?_eq_some_iff.1 hu).1
  have := hcur (j * 23 + k) u (by rw [flat_get hlen hcj hk]; exact hu)
  rw [add_at, Nat.zero_add]
  refine ⟨?_, rfl⟩
  simp only [World.cell?, hg]
  simpa using this
set_option maxHeartbeats 8000000 in
set_option maxRecDepth 100000 in
/-- The document's Note, of the kinds that are noted. -/
theorem rnote_calls (kind view turn slot c s : Int) (Ao : Option Addr) (co : Nat) (op : List Int) (As : Option Addr) (cs : Nat) (sg : List Int) (Av : Option Addr) (cv : Nat) (V : List (Int × List Int)) (hV : V.length ≤ 1048575) (A : Option Addr) (cl : Nat) (S : List Sn) (w : World) (hS : S.length ≤ 8192) (hwr : WR w A S) (hcl : S.length ≤ cl) (ok : ∀ x ∈ S, x.ok) (nd : (S.map Sn.key).Nodup) (ho : Ls w Ao co op) (hg : Ls w As cs sg) (hvr : VR w Av V) (lo : op.length + sg.length ≤ 1048576) (bo : Bys op) (bs : Bys sg) (hv : ∀ v ∈ V, v.2.length ≤ 140737488355327 ∧ Bys v.2 ∧ (Lit.int .i64 v.1).wf = true) (wk : (Lit.int .i64 kind).wf = true) (wv : (Lit.int .i64 view).wf = true) (wt : (Lit.int .i64 turn).wf = true) (wl : (Lit.int .i64 slot).wf = true) (hk : kind = 2 ∨ kind = 3) :
    Calls Try.prog 15 #[.slice A S.length cl, .int .i64 kind, .agg #[.int .i64 view, .int .i64 turn], .int .i64 slot, .agg #[.int .i64 c, .int .i64 s, .slice Ao op.length co, .slice As sg.length cs], .slice Av V.length cv] w fun e w' => ∃ (A1 : Option Addr) (c1 : Nat) (S' : List Sn) (A2 : Option Addr) (c2 : Nat) (E : List Ev), e = .returned (.tuple #[.slice A1 S'.length c1, .slice A2 E.length c2]) ∧ S'.length ≤ c1 ∧ WR w' A1 S' ∧ S'.length ≤ 8192 ∧ ER w' A2 E ∧ E.length ≤ c2 ∧ Steps kind view turn slot c s op sg S [] V S' E ∧ Below w.heap.size w w' := by
  obtain ⟨css, h1, h2, h3⟩ := hwr.cells
  have HS := Aside0.mk (And.intro h1 (And.intro h2 (And.intro h3 (And.intro ok (And.intro nd (And.intro ho (And.intro hg (And.intro hvr (And.intro hS hV)))))))))
  have HW := Aside0.mk (And.intro lo (And.intro bo (And.intro bs (And.intro hv (And.intro wk (And.intro wv (And.intro wt wl)))))))
  have HC := Aside0.mk hcl
  clear h1 h2 h3 ok nd ho hg hvr hS hV lo bo bs hv wk wv wt wl hwr hcl
  have hb2 : Below w.heap.size w ((w.alloc (.cells #[.int .i64 view, .int .i64 turn] 28)).alloc (.cells #[.int .i64 c, .int .i64 s, .slice Ao op.length co, .slice As sg.length cs] 31)) := below_alloc (below_alloc (Below.refl _ _) _) _
  have hga := heap_alloc_new (w.alloc (.cells #[.int .i64 view, .int .i64 turn] 28)) (.cells #[.int .i64 c, .int .i64 s, .slice Ao op.length co, .slice As sg.length cs] 31)
  have hgb := (Fr.of_below (below_alloc (Below.refl _ (w.alloc (.cells #[.int .i64 view, .int .i64 turn] 28))) (.cells #[.int .i64 c, .int .i64 s, .slice Ao op.length co, .slice As sg.length cs] 31)) (fun _ => False)).blk (heap_alloc_new w (.cells #[.int .i64 view, .int .i64 turn] 28)) (fun h => h)
  have hz2 : ((w.alloc (.cells #[.int .i64 view, .int .i64 turn] 28)).alloc (.cells #[.int .i64 c, .int .i64 s, .slice Ao op.length co, .slice As sg.length cs] 31)).heap.size = w.heap.size + 2 := by rw [World.size_alloc, World.size_alloc]
  rw [World.size_alloc] at hga
  rcases hk with rfl | rfl
  · go_enter Try.func15, Try.ntmps15
    go_wp2_with (first | ((with_reducible refine gate_builtin (b := .append) (xs := #[.tmp 18, .tmp 19]) rfl ?_); at_builtin; refine Aside0.out ?_))
    refine ⟨?_⟩
    generalize (w.alloc (.cells #[.int .i64 view, .int .i64 turn] 28)).alloc (.cells #[.int .i64 c, .int .i64 s, .slice Ao op.length co, .slice As sg.length cs] 31) = w2 at *
    have F2 := Fr.of_below hb2 (fun _ => False)
    have hq3 := World.ownsRow_lit (base := w.heap.size) (e := 71) (size := 11) w2 #[] 0 (by omega) (by decide) (by simp)
    have hb3 := below_alloc (Below.refl w2.heap.size w2) (.cells #[] 71)
    have f3 := Fr.of_below hb3 (fun _ => False)
    have hga3 := f3.blk hga (fun h => h)
    have hgb3 := f3.blk hgb (fun h => h)
    have hz3 : (w2.alloc (.cells #[] 71)).heap.size = w.heap.size + 3 := by rw [World.size_alloc, hz2]
    generalize w2.alloc (.cells #[] 71) = w3 at *
    rw [hz2] at hq3
    have F3 := F2.trans f3 (fun _ h => h.elim)
    refine wpList_append_seen rfl (by rfl) w.heap.size _ _ (by rfl) (.slice (some ⟨w.heap.size + 2, 0, none⟩) 0 0) 0 [] (by first | rfl | (rw [← hz2]; rfl)) hq3 A S.length cl css.flatten (by rfl) (by rw [flat_len (len_of HS.out.1 HS.out.2.1), HS.out.1]) (fun j u hu => by
      obtain ⟨ad, e, hc⟩ := HS.out.2.2.1 j u hu
      exact ⟨ad, e, F3.cell hc (fun h => h)⟩) (fun u hu => by
      obtain ⟨c, hc, hu⟩ := List.mem_flatten.1 hu
      obtain ⟨j, hj, rfl⟩ := List.getElem_of_mem hc
      exact (HS.out.2.1 j _ _ (List.getElem?_eq_getElem (by rw [← HS.out.1]; exact hj)) (List.getElem?_eq_getElem hj)).one u hu) (by have := HS.out.2.2.2.2.2.2.2.2.1; omega) F3.size ?_
    intro v4 w4 hq4 hf4
    rw [Nat.zero_add, List.nil_append] at hq4
    have ng : ∀ {k : Nat} {cells : Array Value} {t : TypeId} {fr : Nat × Nat}, w3.heap[k]? = some (.cells cells t fr) → t ≠ 71 → ¬ (some k = (Value.slice (some ⟨w.heap.size + 2, 0, none⟩) 0 0).ownBlock) := fun h1 h2 => not_of hq3 h1 h2
    have hga4 := hf4.blk hga3 (ng hga3 (by decide))
    have hgb4 := hf4.blk hgb3 (ng hgb3 (by decide))
    have F4 : Fr (fun _ => False) w w4 := F3.trans hf4 (fun k hk => .inr (by
      have : k = w.heap.size + 2 := by simpa [Value.ownBlock] using hk
      omega))
    have H4 := Aside0.mk (And.intro F4 (And.intro hgb4 (And.intro hga4 hq4)))
    clear hb2 hga hgb hz2 F2 hq3 hb3 f3 hga3 hgb3 hz3 F3 hf4 ng hga4 hgb4 F4 hq4
    go_wp2_with (fail)
    have hq5 := World.ownsRow_lit (base := w.heap.size) (e := 48) (size := 23) w4 #[] 0 H4.out.1.size (by decide) (by simp)
    have f5 := Fr.of_below (below_alloc (Below.refl w4.heap.size w4) (.cells #[] 48)) (fun _ => False)
    generalize w4.alloc (.cells #[] 48) = w5 at *
    have HR := Aside0.mk (show Rt w w5 view turn c s Ao co op As cs sg Av V w.heap.size (w.heap.size + 1) v4 S (.slice (some ⟨w4.heap.size, 0, none⟩) 0 0) [] from ⟨H4.out.1.trans f5 (fun _ h => h.elim), f5.blk H4.out.2.1 (fun h => h), f5.blk H4.out.2.2.1 (fun h => h), HS.out.2.2.2.2.2.1, HS.out.2.2.2.2.2.2.1, HS.out.2.2.2.2.2.2.2.1, ⟨css, HS.out.1, row_fr0 H4.out.2.2.2 f5, HS.out.2.1⟩, ⟨[], rfl, hq5, fun j e c h => by simp at h⟩, HS.out.2.2.2.1, HS.out.2.2.2.2.1⟩)
    clear H4 hq5 f5
    refine loopRn 2 view turn slot c s Ao co op As cs sg Av cv V HS.out.2.2.2.2.2.2.2.2.2 w S w.heap.size (w.heap.size + 1) HW.out.1 HW.out.2.1 HW.out.2.2.1 HW.out.2.2.2.1 HW.out.2.2.2.2.1 HW.out.2.2.2.2.2.1 HW.out.2.2.2.2.2.2.1 HW.out.2.2.2.2.2.2.2 _ ?_ _ _ ?_
    rotate_left
    · exact ⟨⟨rfl, rfl⟩, rfl, rfl, rfl, rfl, rfl, rfl, rfl, v4, S, _, [], rfl, rfl, HR.out, ⟨rfl, rfl⟩, Nat.le_refl _, HS.out.2.2.2.2.2.2.2.2.1⟩
    intro a' w6 l S' out E hFm j0 j14 hR hst hS8 hE8
    obtain ⟨A1, c1, rfl, hc1, hw1⟩ := hR.lr.wr hR.F hR.ok (by omega)
    obtain ⟨ds, d1, dq, d3⟩ := hR.er
    obtain ⟨A2, c2, rfl, hc2, he2⟩ := ER.of_row d1 dq (fun j e c hj hc => ⟨(d3 j e c hj hc).1, (d3 j e c hj hc).2.fr hR.F⟩)
    rw [fm105 hFm, j0, j14]
    have HZ := Aside0.mk (And.intro hw1 (And.intro hS8 (And.intro he2 (And.intro hst (frB hR.F)))))
    clear hw1 hS8 he2 hst hR ds d1 dq d3 hFm j0 j14 HR hE8
    go_wp2
    go_ret2
    exact ⟨A1, c1, S', A2, c2, E, rfl, hc1, HZ.out.1, HZ.out.2.1, HZ.out.2.2.1, hc2, HZ.out.2.2.2.1, HZ.out.2.2.2.2⟩
  · go_enter Try.func15, Try.ntmps15
    go_wp2_with (first | ((with_reducible refine gate_builtin (b := .append) (xs := #[.tmp 18, .tmp 19]) rfl ?_); at_builtin; refine Aside0.out ?_))
    refine ⟨?_⟩
    generalize (w.alloc (.cells #[.int .i64 view, .int .i64 turn] 28)).alloc (.cells #[.int .i64 c, .int .i64 s, .slice Ao op.length co, .slice As sg.length cs] 31) = w2 at *
    have F2 := Fr.of_below hb2 (fun _ => False)
    have hq3 := World.ownsRow_lit (base := w.heap.size) (e := 71) (size := 11) w2 #[] 0 (by omega) (by decide) (by simp)
    have hb3 := below_alloc (Below.refl w2.heap.size w2) (.cells #[] 71)
    have f3 := Fr.of_below hb3 (fun _ => False)
    have hga3 := f3.blk hga (fun h => h)
    have hgb3 := f3.blk hgb (fun h => h)
    have hz3 : (w2.alloc (.cells #[] 71)).heap.size = w.heap.size + 3 := by rw [World.size_alloc, hz2]
    generalize w2.alloc (.cells #[] 71) = w3 at *
    rw [hz2] at hq3
    have F3 := F2.trans f3 (fun _ h => h.elim)
    refine wpList_append_seen rfl (by rfl) w.heap.size _ _ (by rfl) (.slice (some ⟨w.heap.size + 2, 0, none⟩) 0 0) 0 [] (by first | rfl | (rw [← hz2]; rfl)) hq3 A S.length cl css.flatten (by rfl) (by rw [flat_len (len_of HS.out.1 HS.out.2.1), HS.out.1]) (fun j u hu => by
      obtain ⟨ad, e, hc⟩ := HS.out.2.2.1 j u hu
      exact ⟨ad, e, F3.cell hc (fun h => h)⟩) (fun u hu => by
      obtain ⟨c, hc, hu⟩ := List.mem_flatten.1 hu
      obtain ⟨j, hj, rfl⟩ := List.getElem_of_mem hc
      exact (HS.out.2.1 j _ _ (List.getElem?_eq_getElem (by rw [← HS.out.1]; exact hj)) (List.getElem?_eq_getElem hj)).one u hu) (by have := HS.out.2.2.2.2.2.2.2.2.1; omega) F3.size ?_
    intro v4 w4 hq4 hf4
    rw [Nat.zero_add, List.nil_append] at hq4
    have ng : ∀ {k : Nat} {cells : Array Value} {t : TypeId} {fr : Nat × Nat}, w3.heap[k]? = some (.cells cells t fr) → t ≠ 71 → ¬ (some k = (Value.slice (some ⟨w.heap.size + 2, 0, none⟩) 0 0).ownBlock) := fun h1 h2 => not_of hq3 h1 h2
    have hga4 := hf4.blk hga3 (ng hga3 (by decide))
    have hgb4 := hf4.blk hgb3 (ng hgb3 (by decide))
    have F4 : Fr (fun _ => False) w w4 := F3.trans hf4 (fun k hk => .inr (by
      have : k = w.heap.size + 2 := by simpa [Value.ownBlock] using hk
      omega))
    have H4 := Aside0.mk (And.intro F4 (And.intro hgb4 (And.intro hga4 hq4)))
    clear hb2 hga hgb hz2 F2 hq3 hb3 f3 hga3 hgb3 hz3 F3 hf4 ng hga4 hgb4 F4 hq4
    go_wp2_with (fail)
    have hq5 := World.ownsRow_lit (base := w.heap.size) (e := 48) (size := 23) w4 #[] 0 H4.out.1.size (by decide) (by simp)
    have f5 := Fr.of_below (below_alloc (Below.refl w4.heap.size w4) (.cells #[] 48)) (fun _ => False)
    generalize w4.alloc (.cells #[] 48) = w5 at *
    have HR := Aside0.mk (show Rt w w5 view turn c s Ao co op As cs sg Av V w.heap.size (w.heap.size + 1) v4 S (.slice (some ⟨w4.heap.size, 0, none⟩) 0 0) [] from ⟨H4.out.1.trans f5 (fun _ h => h.elim), f5.blk H4.out.2.1 (fun h => h), f5.blk H4.out.2.2.1 (fun h => h), HS.out.2.2.2.2.2.1, HS.out.2.2.2.2.2.2.1, HS.out.2.2.2.2.2.2.2.1, ⟨css, HS.out.1, row_fr0 H4.out.2.2.2 f5, HS.out.2.1⟩, ⟨[], rfl, hq5, fun j e c h => by simp at h⟩, HS.out.2.2.2.1, HS.out.2.2.2.2.1⟩)
    clear H4 hq5 f5
    refine loopRn 3 view turn slot c s Ao co op As cs sg Av cv V HS.out.2.2.2.2.2.2.2.2.2 w S w.heap.size (w.heap.size + 1) HW.out.1 HW.out.2.1 HW.out.2.2.1 HW.out.2.2.2.1 HW.out.2.2.2.2.1 HW.out.2.2.2.2.2.1 HW.out.2.2.2.2.2.2.1 HW.out.2.2.2.2.2.2.2 _ ?_ _ _ ?_
    rotate_left
    · exact ⟨⟨rfl, rfl⟩, rfl, rfl, rfl, rfl, rfl, rfl, rfl, v4, S, _, [], rfl, rfl, HR.out, ⟨rfl, rfl⟩, Nat.le_refl _, HS.out.2.2.2.2.2.2.2.2.1⟩
    intro a' w6 l S' out E hFm j0 j14 hR hst hS8 hE8
    obtain ⟨A1, c1, rfl, hc1, hw1⟩ := hR.lr.wr hR.F hR.ok (by omega)
    obtain ⟨ds, d1, dq, d3⟩ := hR.er
    obtain ⟨A2, c2, rfl, hc2, he2⟩ := ER.of_row d1 dq (fun j e c hj hc => ⟨(d3 j e c hj hc).1, (d3 j e c hj hc).2.fr hR.F⟩)
    rw [fm105 hFm, j0, j14]
    have HZ := Aside0.mk (And.intro hw1 (And.intro hS8 (And.intro he2 (And.intro hst (frB hR.F)))))
    clear hw1 hS8 he2 hst hR ds d1 dq d3 hFm j0 j14 HR hE8
    go_wp2
    go_ret2
    exact ⟨A1, c1, S', A2, c2, E, rfl, hc1, HZ.out.1, HZ.out.2.1, HZ.out.2.2.1, hc2, HZ.out.2.2.2.1, HZ.out.2.2.2.2⟩
set_option maxHeartbeats 8000000 in
set_option maxRecDepth 100000 in
/-- .. of other kinds. -/
theorem rnote_other (kind view turn slot c s : Int) (Ao : Option Addr) (co : Nat) (op : List Int) (As : Option Addr) (cs : Nat) (sg : List Int) (Av : Option Addr) (cv : Nat) (m : Nat) (A : Option Addr) (cl : Nat) (S : List Sn) (w : World) (hS : S.length ≤ 8192) (hwr : WR w A S) (hcl : S.length ≤ cl) (ok : ∀ x ∈ S, x.ok) (hk : kind ≠ 2 ∧ kind ≠ 3) :
    Calls Try.prog 15 #[.slice A S.length cl, .int .i64 kind, .agg #[.int .i64 view, .int .i64 turn], .int .i64 slot, .agg #[.int .i64 c, .int .i64 s, .slice Ao op.length co, .slice As sg.length cs], .slice Av m cv] w fun e w' => ∃ (A1 : Option Addr) (c1 : Nat) (A2 : Option Addr) (c2 : Nat), e = .returned (.tuple #[.slice A1 S.length c1, .slice A2 0 c2]) ∧ S.length ≤ c1 ∧ WR w' A1 S ∧ Below w.heap.size w w' := by
  obtain ⟨css, h1, h2, h3⟩ := hwr.cells
  have HS := Aside0.mk (And.intro h1 (And.intro h2 (And.intro h3 (And.intro hS ok))))
  have HC := Aside0.mk hcl
  have k2 : (kind == 2) = false := beq_eq_false_iff_ne.2 hk.1
  have k3 : (kind == 3) = false := beq_eq_false_iff_ne.2 hk.2
  have k4 : (kind != 2) = true := bne_iff_ne.2 hk.1
  have k5 : (kind != 3) = true := bne_iff_ne.2 hk.2
  clear h1 h2 h3 hS hwr hcl hk ok
  have hb2 : Below w.heap.size w ((w.alloc (.cells #[.int .i64 view, .int .i64 turn] 28)).alloc (.cells #[.int .i64 c, .int .i64 s, .slice Ao op.length co, .slice As sg.length cs] 31)) := below_alloc (below_alloc (Below.refl _ _) _) _
  have hz2 : ((w.alloc (.cells #[.int .i64 view, .int .i64 turn] 28)).alloc (.cells #[.int .i64 c, .int .i64 s, .slice Ao op.length co, .slice As sg.length cs] 31)).heap.size = w.heap.size + 2 := by rw [World.size_alloc, World.size_alloc]
  go_enter Try.func15, Try.ntmps15
  go_wp2_with (first | ((with_reducible refine gate_builtin (b := .append) (xs := #[.tmp 18, .tmp 19]) rfl ?_); at_builtin; refine Aside0.out ?_))
  refine ⟨?_⟩
  generalize (w.alloc (.cells #[.int .i64 view, .int .i64 turn] 28)).alloc (.cells #[.int .i64 c, .int .i64 s, .slice Ao op.length co, .slice As sg.length cs] 31) = w2 at *
  have F2 := Fr.of_below hb2 (fun _ => False)
  have hq3 := World.ownsRow_lit (base := w.heap.size) (e := 71) (size := 11) w2 #[] 0 (by omega) (by decide) (by simp)
  have f3 := Fr.of_below (below_alloc (Below.refl w2.heap.size w2) (.cells #[] 71)) (fun _ => False)
  generalize w2.alloc (.cells #[] 71) = w3 at *
  rw [hz2] at hq3
  have F3 := F2.trans f3 (fun _ h => h.elim)
  refine wpList_append_seen rfl (by rfl) w.heap.size _ _ (by rfl) (.slice (some ⟨w.heap.size + 2, 0, none⟩) 0 0) 0 [] (by first | rfl | (rw [← hz2]; rfl)) hq3 A S.length cl css.flatten (by rfl) (by rw [flat_len (len_of HS.out.1 HS.out.2.1), HS.out.1]) (fun j u hu => by
    obtain ⟨ad, e, hc⟩ := HS.out.2.2.1 j u hu
    exact ⟨ad, e, F3.cell hc (fun h => h)⟩) (fun u hu => by
    obtain ⟨c, hc, hu⟩ := List.mem_flatten.1 hu
    obtain ⟨j, hj, rfl⟩ := List.getElem_of_mem hc
    exact (HS.out.2.1 j _ _ (List.getElem?_eq_getElem (by rw [← HS.out.1]; exact hj)) (List.getElem?_eq_getElem hj)).one u hu) (by have := HS.out.2.2.2.1; omega) F3.size ?_
  intro v4 w4 hq4 hf4
  rw [Nat.zero_add, List.nil_append] at hq4
  have F4 : Fr (fun _ => False) w w4 := F3.trans hf4 (fun k hk => .inr (by
    have : k = w.heap.size + 2 := by simpa [Value.ownBlock] using hk
    omega))
  have hlr : LRow w4 w w.heap.size v4 S := ⟨css, HS.out.1, hq4, HS.out.2.1⟩
  obtain ⟨A1, c1, rfl, hc1, hw1⟩ := hlr.wr F4 HS.out.2.2.2.2 (by have := HS.out.2.2.2.1; omega)
  have f5 := Fr.of_below (below_alloc (Below.refl w4.heap.size w4) (.cells #[] 48)) (fun _ => False)
  have H4 := Aside0.mk (And.intro F4 (And.intro hw1 f5))
  clear hb2 hz2 F2 hq3 f3 F3 hf4 F4 hq4 hlr hw1 f5
  go_wp2
  go_ret2
  exact ⟨A1, c1, ⟨some ⟨w4.heap.size, 0, none⟩, 0, rfl⟩, hc1, H4.out.2.1.fr H4.out.2.2, frB (H4.out.1.trans H4.out.2.2 (fun _ h => h.elim))⟩
set_option maxHeartbeats 8000000 in
set_option maxRecDepth 100000 in
/-- The program's Note, of other kinds. -/
theorem note_other (kind view turn slot c s : Int) (Ao : Option Addr) (co : Nat) (op : List Int) (As : Option Addr) (cs : Nat) (sg : List Int) (Av : Option Addr) (cv : Nat) (m : Nat) (p : Value) (w : World) (hk : kind ≠ 2 ∧ kind ≠ 3) :
    Calls Try.prog 12 #[p, .int .i64 kind, .agg #[.int .i64 view, .int .i64 turn], .int .i64 slot, .agg #[.int .i64 c, .int .i64 s, .slice Ao op.length co, .slice As sg.length cs], .slice Av m cv] w fun e w' => e = .returned (.slice none 0 0) ∧ Below w.heap.size w w' := by
  have k2 : (kind == 2) = false := beq_eq_false_iff_ne.2 hk.1
  have k3 : (kind == 3) = false := beq_eq_false_iff_ne.2 hk.2
  have k4 : (kind != 2) = true := bne_iff_ne.2 hk.1
  have k5 : (kind != 3) = true := bne_iff_ne.2 hk.2
  have hb2 : Below w.heap.size w ((w.alloc (.cells #[.int .i64 view, .int .i64 turn] 28)).alloc (.cells #[.int .i64 c, .int .i64 s, .slice Ao op.length co, .slice As sg.length cs] 31)) := below_alloc (below_alloc (Below.refl _ _) _) _
  clear hk
  go_enter Try.func12, Try.ntmps12
  go_wp2
  go_ret
  exact ⟨rfl, hb2⟩
end Go.Proofs.Ytnabilhcmplhcaa.Sha
end
section
/-
  The document's Same, of two evidences that are the same.
-/
set_option linter.unusedVariables false
set_option linter.unusedSimpArgs false
namespace Go.Proofs.Ytnabilhcmplhcaa.Sha
open Go.RowKit Go.Proofs.YtnabilhcmplhcaaW.PrintWords Go.Proofs.YtnabilhcmplhcaaW.PrintLast Go.Proofs.YtnabilhcmplhcaaW.PrintMore Go.Proofs.Ytnabilhcmplhcaa.Q Go.Proofs.Ytnabilhcmplhcaa.Fr Go.Proofs.Ytnabilhcmplhcaa.Oct

set_option maxHeartbeats 8000000 in
set_option maxRecDepth 100000 in
theorem svotes_nil (w : World) : Calls Try.prog 33 #[.slice none 0 0, .slice none 0 0] w fun e w' => e = .returned (.bool true) ∧ w' = w := by
  go_enter Try.func33, Try.ntmps33
  go_wp2_with (fail)
  refine wp_loop_up 0 (fun t a' w' => a' = _ ∧ w' = w) ⟨rfl, rfl⟩ ?_
  rintro t a w' ht ⟨rfl, rfl⟩
  go_wp2
  go_ret
  exact ⟨rfl, rfl⟩
/-- An evidence's parts are of moderate length, and bytes. -/
structure Ev.ok (e : Ev) : Prop where
  lX : e.opX.length + e.sgX.length ≤ 1048576
  lY : e.opY.length + e.sgY.length ≤ 1048576
  tX : e.tX.length ≤ 1048576
  tY : e.tY.length ≤ 1048576
  b1 : Bys e.opX
  b2 : Bys e.sgX
  b4 : Bys e.opY
  b5 : Bys e.sgY
set_option maxHeartbeats 8000000 in
set_option maxRecDepth 100000 in
theorem rsame_calls (e : Ev) (v1 v2 : Value) (w : World) (h1 : EvR w v1 e) (h2 : EvR w v2 e) (he : e.ok) :
    Calls Try.prog 16 #[v1, v2] w fun ex w' => ex = .returned (.bool true) ∧ Below w.heap.size w w' := by
  obtain ⟨B1, d1, B2, d2, B3, d3, B4, d4, B5, d5, B6, d6, rfl, b1, b2, b3, b4, b5, b6⟩ := h1
  obtain ⟨C1, f1, C2, f2, C3, f3, C4, f4, C5, f5, C6, f6, rfl, c1, c2, c3, c4, c5, c6⟩ := h2
  have HB := Aside0.mk (And.intro b1 (And.intro b2 (And.intro b3 (And.intro b4 (And.intro b5 b6)))))
  have HC := Aside0.mk (And.intro c1 (And.intro c2 (And.intro c3 (And.intro c4 (And.intro c5 c6)))))
  have HE := Aside0.mk he
  clear b1 b2 b3 b4 b5 b6 c1 c2 c3 c4 c5 c6 he
  go_enter Try.func16, Try.ntmps16
  go_wp2_with (first | ((with_reducible refine gate_dst (N := 2) rfl ?_); refine wpList_box_abs (by rfl) 48 _ (by rfl) #[.int .i64 13, .int .i64 e.view, .int .i64 e.turn, .int .i64 e.slot, .int .i64 e.signer, .int .i64 0, .int .i64 e.kind, .int .i64 0, .int .i64 e.cX, .int .i64 e.sX, .slice B1 e.opX.length d1, .slice B2 e.sgX.length d2, .int .i64 e.cY, .int .i64 e.sY, .slice B4 e.opY.length d4, .slice B5 e.sgY.length d5, .slice B6 e.tY.length d6, .slice B3 e.tX.length d3, .slice none 0 0, .slice none 0 0, .slice none 0 0, .slice none 0 0, .slice none 0 0] (by rfl) ?_; intro w1 hb1 hs1 hg1) | ((with_reducible refine gate_dst (N := 3) rfl ?_); refine wpList_box_abs (by rfl) 48 _ (by rfl) #[.int .i64 13, .int .i64 e.view, .int .i64 e.turn, .int .i64 e.slot, .int .i64 e.signer, .int .i64 0, .int .i64 e.kind, .int .i64 0, .int .i64 e.cX, .int .i64 e.sX, .slice C1 e.opX.length f1, .slice C2 e.sgX.length f2, .int .i64 e.cY, .int .i64 e.sY, .slice C4 e.opY.length f4, .slice C5 e.sgY.length f5, .slice C6 e.tY.length f6, .slice C3 e.tX.length f3, .slice none 0 0, .slice none 0 0, .slice none 0 0, .slice none 0 0, .slice none 0 0] (by rfl) ?_; intro w2 hb2 hs2 hg2; (with_reducible refine Aside0.out ?_)))
  refine ⟨?_⟩
  rw [hs1] at hg2
  have fb := Fr.of_below hb2 (fun _ => False)
  have F2 := (Fr.of_below hb1 (fun _ => False)).trans fb (fun _ h => h.elim)
  have hg12 := fb.blk hg1 (fun h => h)
  have HN := Aside0.mk (And.intro F2 (And.intro hg12 hg2))
  clear hb1 hs1 hg1 hb2 hs2 hg2 fb F2 hg12
  have HS : Aside0 (∀ w', Fr (fun _ => False) w2 w' → w'.cell? ⟨w.heap.size, 0, none⟩ = some (.int .i64 13) ∧ w'.cell? ⟨w.heap.size, 1, none⟩ = some (.int .i64 e.view) ∧ w'.cell? ⟨w.heap.size, 2, none⟩ = some (.int .i64 e.turn) ∧ w'.cell? ⟨w.heap.size, 3, none⟩ = some (.int .i64 e.slot) ∧ w'.cell? ⟨w.heap.size, 4, none⟩ = some (.int .i64 e.signer) ∧ w'.cell? ⟨w.heap.size, 5, none⟩ = some (.int .i64 0) ∧ w'.cell? ⟨w.heap.size, 6, none⟩ = some (.int .i64 e.kind) ∧ w'.cell? ⟨w.heap.size, 7, none⟩ = some (.int .i64 0) ∧ w'.cell? ⟨w.heap.size, 8, none⟩ = some (.int .i64 e.cX) ∧ w'.cell? ⟨w.heap.size, 9, none⟩ = some (.int .i64 e.sX) ∧ w'.cell? ⟨w.heap.size, 10, none⟩ = some (.slice B1 e.opX.length d1) ∧ w'.cell? ⟨w.heap.size, 11, none⟩ = some (.slice B2 e.sgX.length d2) ∧ w'.cell? ⟨w.heap.size, 12, none⟩ = some (.int .i64 e.cY) ∧ w'.cell? ⟨w.heap.size, 13, none⟩ = some (.int .i64 e.sY) ∧ w'.cell? ⟨w.heap.size, 14, none⟩ = some (.slice B4 e.opY.length d4) ∧ w'.cell? ⟨w.heap.size, 15, none⟩ = some (.slice B5 e.sgY.length d5) ∧ w'.cell? ⟨w.heap.size, 16, none⟩ = some (.slice B6 e.tY.length d6) ∧ w'.cell? ⟨w.heap.size, 17, none⟩ = some (.slice B3 e.tX.length d3) ∧ w'.cell? ⟨w.heap.size, 18, none⟩ = some (.slice none 0 0) ∧ w'.cell? ⟨w.heap.size, 19, none⟩ = some (.slice none 0 0) ∧ w'.cell? ⟨w.heap.size, 20, none⟩ = some (.slice none 0 0) ∧ w'.cell? ⟨w.heap.size, 21, none⟩ = some (.slice none 0 0) ∧ w'.cell? ⟨w.heap.size, 22, none⟩ = some (.slice none 0 0) ∧ w'.cell? ⟨(w.heap.size + 1), 0, none⟩ = some (.int .i64 13) ∧ w'.cell? ⟨(w.heap.size + 1), 1, none⟩ = some (.int .i64 e.view) ∧ w'.cell? ⟨(w.heap.size + 1), 2, none⟩ = some (.int .i64 e.turn) ∧ w'.cell? ⟨(w.heap.size + 1), 3, none⟩ = some (.int .i64 e.slot) ∧ w'.cell? ⟨(w.heap.size + 1), 4, none⟩ = some (.int .i64 e.signer) ∧ w'.cell? ⟨(w.heap.size + 1), 5, none⟩ = some (.int .i64 0) ∧ w'.cell? ⟨(w.heap.size + 1), 6, none⟩ = some (.int .i64 e.kind) ∧ w'.cell? ⟨(w.heap.size + 1), 7, none⟩ = some (.int .i64 0) ∧ w'.cell? ⟨(w.heap.size + 1), 8, none⟩ = some (.int .i64 e.cX) ∧ w'.cell? ⟨(w.heap.size + 1), 9, none⟩ = some (.int .i64 e.sX) ∧ w'.cell? ⟨(w.heap.size + 1), 10, none⟩ = some (.slice C1 e.opX.length f1) ∧ w'.cell? ⟨(w.heap.size + 1), 11, none⟩ = some (.slice C2 e.sgX.length f2) ∧ w'.cell? ⟨(w.heap.size + 1), 12, none⟩ = some (.int .i64 e.cY) ∧ w'.cell? ⟨(w.heap.size + 1), 13, none⟩ = some (.int .i64 e.sY) ∧ w'.cell? ⟨(w.heap.size + 1), 14, none⟩ = some (.slice C4 e.opY.length f4) ∧ w'.cell? ⟨(w.heap.size + 1), 15, none⟩ = some (.slice C5 e.sgY.length f5) ∧ w'.cell? ⟨(w.heap.size + 1), 16, none⟩ = some (.slice C6 e.tY.length f6) ∧ w'.cell? ⟨(w.heap.size + 1), 17, none⟩ = some (.slice C3 e.tX.length f3) ∧ w'.cell? ⟨(w.heap.size + 1), 18, none⟩ = some (.slice none 0 0) ∧ w'.cell? ⟨(w.heap.size + 1), 19, none⟩ = some (.slice none 0 0) ∧ w'.cell? ⟨(w.heap.size + 1), 20, none⟩ = some (.slice none 0 0) ∧ w'.cell? ⟨(w.heap.size + 1), 21, none⟩ = some (.slice none 0 0) ∧ w'.cell? ⟨(w.heap.size + 1), 22, none⟩ = some (.slice none 0 0)) := ⟨fun w' hf => by
    have h1 := hf.blk HN.out.2.1 (fun h => h)
    have h2 := hf.blk HN.out.2.2 (fun h => h)
    simp [World.cell?, h1, h2]⟩
  have k : w2.cell? ⟨w.heap.size, 0, none⟩ = some (.int .i64 13) ∧ w2.cell? ⟨w.heap.size, 1, none⟩ = some (.int .i64 e.view) ∧ w2.cell? ⟨w.heap.size, 2, none⟩ = some (.int .i64 e.turn) ∧ w2.cell? ⟨w.heap.size, 3, none⟩ = some (.int .i64 e.slot) ∧ w2.cell? ⟨w.heap.size, 4, none⟩ = some (.int .i64 e.signer) ∧ w2.cell? ⟨w.heap.size, 5, none⟩ = some (.int .i64 0) ∧ w2.cell? ⟨w.heap.size, 6, none⟩ = some (.int .i64 e.kind) ∧ w2.cell? ⟨w.heap.size, 7, none⟩ = some (.int .i64 0) ∧ w2.cell? ⟨w.heap.size, 8, none⟩ = some (.int .i64 e.cX) ∧ w2.cell? ⟨w.heap.size, 9, none⟩ = some (.int .i64 e.sX) ∧ w2.cell? ⟨w.heap.size, 10, none⟩ = some (.slice B1 e.opX.length d1) ∧ w2.cell? ⟨w.heap.size, 11, none⟩ = some (.slice B2 e.sgX.length d2) ∧ w2.cell? ⟨(w.heap.size + 1), 0, none⟩ = some (.int .i64 13) ∧ w2.cell? ⟨(w.heap.size + 1), 1, none⟩ = some (.int .i64 e.view) ∧ w2.cell? ⟨(w.heap.size + 1), 2, none⟩ = some (.int .i64 e.turn) ∧ w2.cell? ⟨(w.heap.size + 1), 3, none⟩ = some (.int .i64 e.slot) ∧ w2.cell? ⟨(w.heap.size + 1), 4, none⟩ = some (.int .i64 e.signer) ∧ w2.cell? ⟨(w.heap.size + 1), 5, none⟩ = some (.int .i64 0) ∧ w2.cell? ⟨(w.heap.size + 1), 6, none⟩ = some (.int .i64 e.kind) ∧ w2.cell? ⟨(w.heap.size + 1), 7, none⟩ = some (.int .i64 0) ∧ w2.cell? ⟨(w.heap.size + 1), 8, none⟩ = some (.int .i64 e.cX) ∧ w2.cell? ⟨(w.heap.size + 1), 9, none⟩ = some (.int .i64 e.sX) ∧ w2.cell? ⟨(w.heap.size + 1), 10, none⟩ = some (.slice C1 e.opX.length f1) ∧ w2.cell? ⟨(w.heap.size + 1), 11, none⟩ = some (.slice C2 e.sgX.length f2) := by
    obtain ⟨a0, a1, a2, a3, a4, a5, a6, a7, a8, a9, a10, a11, a12, a13, a14, a15, a16, a17, a18, a19, a20, a21, a22, b0, b1, b2, b3, b4, b5, b6, b7, b8, b9, b10, b11, b12, b13, b14, b15, b16, b17, b18, b19, b20, b21, b22⟩ := HS.out _ (Fr.refl _ _)
    exact ⟨a0, a1, a2, a3, a4, a5, a6, a7, a8, a9, a10, a11, b0, b1, b2, b3, b4, b5, b6, b7, b8, b9, b10, b11⟩
  obtain ⟨k0, k1, k2, k3, k4, k5, k6, k7, k8, k9, k10, k11, k12, k13, k14, k15, k16, k17, k18, k19, k20, k21, k22, k23⟩ := k
  have F2r : Aside0 (Fr (fun _ => False) w2 w2) := ⟨Fr.refl _ _⟩
  go_wp2_with (fail)
  clear k0 k1 k2 k3 k4 k5 k6 k7 k8 k9 k10 k11 k12 k13 k14 k15 k16 k17 k18 k19 k20 k21 k22 k23
  refine (samer_calls e.cX e.sX B1 d1 e.opX B2 d2 e.sgX e.cX e.sX C1 f1 e.opX C2 f2 e.sgX w2 (HB.out.1.2.lies (HN.out.1.trans F2r.out (fun _ h => h.elim))) HB.out.1.1 (HB.out.2.1.2.lies (HN.out.1.trans F2r.out (fun _ h => h.elim))) HB.out.2.1.1 HE.out.lX (HC.out.1.2.lies (HN.out.1.trans F2r.out (fun _ h => h.elim))) HC.out.1.1 (HC.out.2.1.2.lies (HN.out.1.trans F2r.out (fun _ h => h.elim))) HC.out.2.1.1 HE.out.lX HE.out.b1 HE.out.b2 HE.out.b1 HE.out.b2).mono ?_
  rintro ex w3 ⟨rfl, hb3⟩
  rw [show sameR e.cX e.sX e.opX e.sgX e.cX e.sX e.opX e.sgX = true by simp [sameR]]
  have f3 := F2r.out.trans (Fr.of_below hb3 (fun _ => False)) (fun _ h => h.elim)
  have F3r := Aside0.mk f3
  clear hb3 f3 F2r
  have k : w3.cell? ⟨w.heap.size, 12, none⟩ = some (.int .i64 e.cY) ∧ w3.cell? ⟨w.heap.size, 13, none⟩ = some (.int .i64 e.sY) ∧ w3.cell? ⟨w.heap.size, 14, none⟩ = some (.slice B4 e.opY.length d4) ∧ w3.cell? ⟨w.heap.size, 15, none⟩ = some (.slice B5 e.sgY.length d5) ∧ w3.cell? ⟨(w.heap.size + 1), 12, none⟩ = some (.int .i64 e.cY) ∧ w3.cell? ⟨(w.heap.size + 1), 13, none⟩ = some (.int .i64 e.sY) ∧ w3.cell? ⟨(w.heap.size + 1), 14, none⟩ = some (.slice C4 e.opY.length f4) ∧ w3.cell? ⟨(w.heap.size + 1), 15, none⟩ = some (.slice C5 e.sgY.length f5) := by
    obtain ⟨a0, a1, a2, a3, a4, a5, a6, a7, a8, a9, a10, a11, a12, a13, a14, a15, a16, a17, a18, a19, a20, a21, a22, b0, b1, b2, b3, b4, b5, b6, b7, b8, b9, b10, b11, b12, b13, b14, b15, b16, b17, b18, b19, b20, b21, b22⟩ := HS.out _ (F3r.out)
    exact ⟨a12, a13, a14, a15, b12, b13, b14, b15⟩
  obtain ⟨k0, k1, k2, k3, k4, k5, k6, k7⟩ := k
  go_wp2_with (fail)
  clear k0 k1 k2 k3 k4 k5 k6 k7
  refine (samer_calls e.cY e.sY B4 d4 e.opY B5 d5 e.sgY e.cY e.sY C4 f4 e.opY C5 f5 e.sgY w3 (HB.out.2.2.2.1.2.lies (HN.out.1.trans F3r.out (fun _ h => h.elim))) HB.out.2.2.2.1.1 (HB.out.2.2.2.2.1.2.lies (HN.out.1.trans F3r.out (fun _ h => h.elim))) HB.out.2.2.2.2.1.1 HE.out.lY (HC.out.2.2.2.1.2.lies (HN.out.1.trans F3r.out (fun _ h => h.elim))) HC.out.2.2.2.1.1 (HC.out.2.2.2.2.1.2.lies (HN.out.1.trans F3r.out (fun _ h => h.elim))) HC.out.2.2.2.2.1.1 HE.out.lY HE.out.b4 HE.out.b5 HE.out.b4 HE.out.b5).mono ?_
  rintro ex w4 ⟨rfl, hb4⟩
  rw [show sameR e.cY e.sY e.opY e.sgY e.cY e.sY e.opY e.sgY = true by simp [sameR]]
  have f4 := F3r.out.trans (Fr.of_below hb4 (fun _ => False)) (fun _ h => h.elim)
  have F4r := Aside0.mk f4
  clear hb4 f4 F3r
  have k : w4.cell? ⟨w.heap.size, 16, none⟩ = some (.slice B6 e.tY.length d6) ∧ w4.cell? ⟨(w.heap.size + 1), 16, none⟩ = some (.slice C6 e.tY.length f6) := by
    obtain ⟨a0, a1, a2, a3, a4, a5, a6, a7, a8, a9, a10, a11, a12, a13, a14, a15, a16, a17, a18, a19, a20, a21, a22, b0, b1, b2, b3, b4, b5, b6, b7, b8, b9, b10, b11, b12, b13, b14, b15, b16, b17, b18, b19, b20, b21, b22⟩ := HS.out _ (F4r.out)
    exact ⟨a16, b16⟩
  obtain ⟨k0, k1⟩ := k
  go_wp2_with (fail)
  clear k0 k1
  refine (catenaryref01_Same.calls B6 d6 e.tY C6 f6 e.tY true w4 ((HB.out.2.2.2.2.2.2.lies (HN.out.1.trans F4r.out (fun _ h => h.elim))).C (by have := HE.out.tY; omega)) HB.out.2.2.2.2.2.1 ((HC.out.2.2.2.2.2.2.lies (HN.out.1.trans F4r.out (fun _ h => h.elim))).C (by have := HE.out.tY; omega)) HC.out.2.2.2.2.2.1 (same_self _)).mono ?_
  rintro ex w5 ⟨rfl, hd5⟩
  have hb5 := hd5.below
  clear hd5
  have f5 := F4r.out.trans (Fr.of_below hb5 (fun _ => False)) (fun _ h => h.elim)
  have F5r := Aside0.mk f5
  clear hb5 f5 F4r
  have k : w5.cell? ⟨w.heap.size, 17, none⟩ = some (.slice B3 e.tX.length d3) ∧ w5.cell? ⟨(w.heap.size + 1), 17, none⟩ = some (.slice C3 e.tX.length f3) := by
    obtain ⟨a0, a1, a2, a3, a4, a5, a6, a7, a8, a9, a10, a11, a12, a13, a14, a15, a16, a17, a18, a19, a20, a21, a22, b0, b1, b2, b3, b4, b5, b6, b7, b8, b9, b10, b11, b12, b13, b14, b15, b16, b17, b18, b19, b20, b21, b22⟩ := HS.out _ (F5r.out)
    exact ⟨a17, b17⟩
  obtain ⟨k0, k1⟩ := k
  go_wp2_with (fail)
  clear k0 k1
  refine (catenaryref01_Same.calls B3 d3 e.tX C3 f3 e.tX true w5 ((HB.out.2.2.1.2.lies (HN.out.1.trans F5r.out (fun _ h => h.elim))).C (by have := HE.out.tX; omega)) HB.out.2.2.1.1 ((HC.out.2.2.1.2.lies (HN.out.1.trans F5r.out (fun _ h => h.elim))).C (by have := HE.out.tX; omega)) HC.out.2.2.1.1 (same_self _)).mono ?_
  rintro ex w6 ⟨rfl, hd6⟩
  have hb6 := hd6.below
  clear hd6
  have f6 := F5r.out.trans (Fr.of_below hb6 (fun _ => False)) (fun _ h => h.elim)
  have F6r := Aside0.mk f6
  clear hb6 f6 F5r
  have k : w6.cell? ⟨w.heap.size, 18, none⟩ = some (.slice none 0 0) ∧ w6.cell? ⟨(w.heap.size + 1), 18, none⟩ = some (.slice none 0 0) := by
    obtain ⟨a0, a1, a2, a3, a4, a5, a6, a7, a8, a9, a10, a11, a12, a13, a14, a15, a16, a17, a18, a19, a20, a21, a22, b0, b1, b2, b3, b4, b5, b6, b7, b8, b9, b10, b11, b12, b13, b14, b15, b16, b17, b18, b19, b20, b21, b22⟩ := HS.out _ (F6r.out)
    exact ⟨a18, b18⟩
  obtain ⟨k0, k1⟩ := k
  go_wp2_with (fail)
  clear k0 k1
  refine (svotes_nil w6).mono ?_
  rintro ex w7 ⟨rfl, ew7⟩
  have hb7 : Below w6.heap.size w6 w7 := by rw [ew7]; exact Below.refl _ _
  clear ew7
  have f7 := F6r.out.trans (Fr.of_below hb7 (fun _ => False)) (fun _ h => h.elim)
  have F7r := Aside0.mk f7
  clear hb7 f7 F6r
  have k : w7.cell? ⟨w.heap.size, 19, none⟩ = some (.slice none 0 0) ∧ w7.cell? ⟨(w.heap.size + 1), 19, none⟩ = some (.slice none 0 0) := by
    obtain ⟨a0, a1, a2, a3, a4, a5, a6, a7, a8, a9, a10, a11, a12, a13, a14, a15, a16, a17, a18, a19, a20, a21, a22, b0, b1, b2, b3, b4, b5, b6, b7, b8, b9, b10, b11, b12, b13, b14, b15, b16, b17, b18, b19, b20, b21, b22⟩ := HS.out _ (F7r.out)
    exact ⟨a19, b19⟩
  obtain ⟨k0, k1⟩ := k
  go_wp2_with (fail)
  clear k0 k1
  refine (svotes_nil w7).mono ?_
  rintro ex w8 ⟨rfl, ew8⟩
  have hb8 : Below w7.heap.size w7 w8 := by rw [ew8]; exact Below.refl _ _
  clear ew8
  have f8 := F7r.out.trans (Fr.of_below hb8 (fun _ => False)) (fun _ h => h.elim)
  have F8r := Aside0.mk f8
  clear hb8 f8 F7r
  have k : w8.cell? ⟨w.heap.size, 20, none⟩ = some (.slice none 0 0) ∧ w8.cell? ⟨w.heap.size, 21, none⟩ = some (.slice none 0 0) ∧ w8.cell? ⟨w.heap.size, 22, none⟩ = some (.slice none 0 0) ∧ w8.cell? ⟨(w.heap.size + 1), 20, none⟩ = some (.slice none 0 0) ∧ w8.cell? ⟨(w.heap.size + 1), 21, none⟩ = some (.slice none 0 0) ∧ w8.cell? ⟨(w.heap.size + 1), 22, none⟩ = some (.slice none 0 0) := by
    obtain ⟨a0, a1, a2, a3, a4, a5, a6, a7, a8, a9, a10, a11, a12, a13, a14, a15, a16, a17, a18, a19, a20, a21, a22, b0, b1, b2, b3, b4, b5, b6, b7, b8, b9, b10, b11, b12, b13, b14, b15, b16, b17, b18, b19, b20, b21, b22⟩ := HS.out _ (F8r.out)
    exact ⟨a20, a21, a22, b20, b21, b22⟩
  obtain ⟨k0, k1, k2, k3, k4, k5⟩ := k
  go_wp2_with (fail)
  refine wp_loop_up 0 (fun t a' w' => a' = _ ∧ w8 = w') ⟨rfl, rfl⟩ ?_
  rintro t a w' ht ⟨rfl, rfl⟩
  go_wp2_with (fail)
  refine wp_loop_up 0 (fun t a' w' => a' = _ ∧ w8 = w') ⟨rfl, rfl⟩ ?_
  rintro t a w' ht ⟨rfl, rfl⟩
  go_wp2_with (fail)
  refine wp_loop_up 0 (fun t a' w' => a' = _ ∧ w8 = w') ⟨rfl, rfl⟩ ?_
  rintro t a w' ht ⟨rfl, rfl⟩
  go_wp2
  go_ret
  exact ⟨rfl, frB (HN.out.1.trans F8r.out (fun _ h => h.elim))⟩
end Go.Proofs.Ytnabilhcmplhcaa.Sha
end
section
/-
  ledger.Cut: the votes of the slots up to one go.
-/
set_option linter.unusedVariables false
set_option linter.unusedSimpArgs false
namespace Go.Proofs.Ytnabilhcmplhcaa.Sha
open Go.RowKit Go.Proofs.YtnabilhcmplhcaaW.PrintWords Go.Proofs.YtnabilhcmplhcaaW.PrintLast Go.Proofs.YtnabilhcmplhcaaW.PrintMore Go.Proofs.Ytnabilhcmplhcaa.Q Go.Proofs.Ytnabilhcmplhcaa.Fr Go.Proofs.Ytnabilhcmplhcaa.Oct
open Go.Maps Go.ChangeMaps

def cutL (slot : Int) (S : List Sn) (Bs : List Nat) : List (Sn × Nat) := (S.zip Bs).filter fun p => decide (slot < p.1.slot)
theorem cutS {slot : Int} : ∀ {S : List Sn} {Bs : List Nat}, Bs.length = S.length → (cutL slot S Bs).map (·.1) = S.filter (fun x => decide (slot < x.slot))
  | [], Bs, _ => by simp [cutL]
  | x :: S, [], h => by simp at h
  | x :: S, b :: Bs, h => by
    have ih := cutS (slot := slot) (S := S) (Bs := Bs) (by simpa using h)
    unfold cutL at ih ⊢
    rw [List.zip_cons_cons, List.filter_cons, List.filter_cons]
    by_cases hd : slot < x.slot
    · rw [if_pos (by simpa using hd), if_pos (by simpa using hd), List.map_cons, ih]
    · rw [if_neg (by simpa using hd), if_neg (by simpa using hd), ih]
theorem zip_at {S : List Sn} {Bs : List Nat} {x : Sn} {b : Nat} (h : (x, b) ∈ S.zip Bs) : ∃ j : Nat, S[j]? = some x ∧ Bs[j]? = some b := by
  obtain ⟨j, hj, e⟩ := List.getElem_of_mem h
  have h2 : (S.zip Bs)[j]? = some (x, b) := by rw [List.getElem?_eq_getElem hj, e]
  rw [List.getElem?_zip_eq_some] at h2
  exact ⟨j, h2.1, h2.2⟩
theorem own_n {w : World} {R : Value → Option (DataW Unit × List MemPlace)} {b n : Nat} {k : TypeId} {D : DataW Unit} (h : w.ownsMap Try.prog k R b n D) : w.ownsMap Try.prog k R b (Maps.size D) D := by
  obtain ⟨es, clock, hb, F, hs, rfl⟩ := h
  refine ⟨es, clock, hb, F, ?_, rfl⟩
  simp [Maps.size, length_sorted]
open Classical in
noncomputable def pdC (slot : Int) (S : List Sn) (kl : Lit) (_ : DataW Unit) : Bool := decide (∃ x ∈ S, x.key = kl ∧ x.slot ≤ slot)
theorem nodup_key {S : List Sn} (hn : (S.map Sn.key).Nodup) {x y : Sn} (hx : x ∈ S) (hy : y ∈ S) (h : x.key = y.key) : x = y := by
  obtain ⟨i, hi, rfl⟩ := List.getElem_of_mem hx
  obtain ⟨j, hj, rfl⟩ := List.getElem_of_mem hy
  have : i = j := (List.getElem?_inj (by simpa using hi) hn).1 (by simp [hi, hj, h])
  subst this
  rfl
open Classical in
theorem pdC_at {slot : Int} {S : List Sn} (hn : (S.map Sn.key).Nodup) {x : Sn} (hx : x ∈ S) (d : DataW Unit) : pdC slot S x.key d = decide (x.slot ≤ slot) := by
  unfold pdC
  by_cases h : x.slot ≤ slot
  · rw [decide_eq_true h]
    exact decide_eq_true ⟨x, hx, rfl, h⟩
  · rw [decide_eq_false h]
    refine decide_eq_false ?_
    rintro ⟨y, hy, e, h2⟩
    rw [nodup_key hn hy hx e] at h2
    exact h h2
/-- The map without what is cut is the ledger without it. -/
theorem LdAt.cut {w w2 : World} {base gl bm : Nat} {es0 : List (Lit × DataW Unit)} {S : List Sn} {Bs : List Nat} (h : LdAt w base gl bm (.map es0) S Bs) (hap : es0.Pairwise (fun p q => p.1 ≠ q.1)) (hkeys : ∀ p ∈ es0, WideAt.IsKeyLit p.1) (slot : Int) (n : Nat) (hown : w2.ownsMap Try.prog 67 ptrE bm n (Lib.deleteFuncD (pdC slot S) (.map es0))) (hf : Fr (fun k => k = bm) w w2) : LdAt w2 base gl bm (Lib.deleteFuncD (pdC slot S) (.map es0)) ((cutL slot S Bs).map (·.1)) ((cutL slot S Bs).map (·.2)) := by
  have hS : ∀ {y : Sn} {d : Nat}, SnAt w base d y → SnAt w2 base d y := fun {y d} hy => hy.fr hf (h.ne_bm hy) (fun k cells hc e => h.bm_no _ _ _ (e ▸ hc))
  have hperm : (es0.map (·.1)).Perm (S.map Sn.key) := by
    refine (List.perm_ext_iff_of_nodup ?_ h.keys).2 (fun kl => ?_)
    · exact List.pairwise_map.2 hap
    · rw [← h.has kl]
      constructor
      · intro hk
        obtain ⟨p, hp, rfl⟩ := List.mem_map.1 hk
        exact List.any_eq_true.2 ⟨p, hp, WideAt.sameKey_self (hkeys p hp)⟩
      · intro hk
        obtain ⟨p, hp, hpk⟩ := List.any_eq_true.1 hk
        exact List.mem_map.2 ⟨p, hp, WideAt.sameKey_eq hpk⟩
  have hz : ∀ p ∈ cutL slot S Bs, p.1 ∈ S ∧ slot < p.1.slot := fun p hp => by
    have := List.mem_filter.1 hp
    exact ⟨(List.of_mem_zip this.1).1, by simpa using this.2⟩
  have hmem : ∀ x : Sn, x ∈ (cutL slot S Bs).map (·.1) ↔ x ∈ S ∧ slot < x.slot := fun x => by
    rw [cutS h.bl, List.mem_filter]
    simp
  have hsz : (es0.filter fun p => !pdC slot S p.1 p.2).length = ((cutL slot S Bs).map (·.1)).length := by
    rw [cutS h.bl, ← List.countP_eq_length_filter, ← List.countP_eq_length_filter]
    have e1 : List.countP (fun p => !pdC slot S p.1 p.2) es0 = List.countP (fun kl => !pdC slot S kl .nil) (es0.map (·.1)) := by
      rw [List.countP_map]
      exact List.countP_congr (fun p hp => by simp [pdC])
    have e2 : List.countP (fun x : Sn => decide (slot < x.slot)) S = List.countP (fun kl => !pdC slot S kl .nil) (S.map Sn.key) := by
      rw [List.countP_map]
      refine List.countP_congr (fun x hx => ?_)
      simp only [Function.comp, pdC_at h.keys hx]
      simp
    rw [e1, e2, hperm.countP_eq]
  have hin : ∀ {x : Sn}, x ∈ S → slot < x.slot → ∃ p ∈ es0.filter (fun p => !pdC slot S p.1 p.2), p.1 = x.key := fun {x} hx hs => by
    have hk : x.key ∈ es0.map (·.1) := hperm.mem_iff.2 (List.mem_map.2 ⟨x, hx, rfl⟩)
    obtain ⟨p, hp, e⟩ := List.mem_map.1 hk
    refine ⟨p, List.mem_filter.2 ⟨hp, ?_⟩, e⟩
    rw [e, pdC_at h.keys hx]
    simp
    omega
  have hkey : ∀ {x : Sn}, x ∈ S → WideAt.IsKeyLit x.key := fun {x} hx => by
    have hk := h.ok x hx
    exact placeLaw.key (plK_of hk.wk hk.wv hk.wt hk.wl hk.wi)
  have hat : ∀ {x : Sn}, x ∈ S → slot < x.slot → (Lib.deleteFuncD (pdC slot S) (.map es0)).atKey x.key zL = (DataW.map es0).atKey x.key zL := fun {x} hx hs => by
    obtain ⟨p, hp, e⟩ := hin hx hs
    have hp0 := (List.mem_filter.1 hp).1
    have e2 : p = (x.key, p.2) := by rw [← e]
    have h1 := WideAt.atKey_mem zL (hkey hx) (hap.filter _) (by rw [e2] at hp; exact hp)
    have h2 := WideAt.atKey_mem zL (hkey hx) hap (by rw [e2] at hp0; exact hp0)
    exact h1.trans h2.symm
  refine ⟨hf.blk h.head h.ne, ?_, hsz, by simp, ?_, ?_, ?_, ?_, ?_, h.hgl, h.hbm⟩
  · rw [← hsz]
    exact own_n hown
  · intro i x b hx hb
    rw [List.getElem?_map, Option.map_eq_some_iff] at hx hb
    obtain ⟨p, hp, rfl⟩ := hx
    obtain ⟨q, hq, rfl⟩ := hb
    rw [hp] at hq
    obtain rfl : p = q := by simpa using hq
    have hpm := List.mem_of_getElem? hp
    obtain ⟨j, hj, hj2⟩ := zip_at (x := p.1) (b := p.2) (List.mem_filter.1 hpm).1
    have h0 := h.at' j p.1 p.2 hj hj2
    exact ⟨by rw [hat (hz p hpm).1 (hz p hpm).2]; exact h0.1, hS h0.2⟩
  · intro kl
    constructor
    · intro hk
      obtain ⟨p, hp, hpk⟩ := List.any_eq_true.1 hk
      have e := WideAt.sameKey_eq hpk
      obtain ⟨hp0, hp1⟩ := List.mem_filter.1 hp
      have hk2 : p.1 ∈ S.map Sn.key := hperm.mem_iff.1 (List.mem_map.2 ⟨p, hp0, rfl⟩)
      obtain ⟨x, hx, ex⟩ := List.mem_map.1 hk2
      rw [← ex, pdC_at h.keys hx] at hp1
      exact List.mem_map.2 ⟨x, (hmem x).2 ⟨hx, by simpa using hp1⟩, by rw [ex, e]⟩
    · intro hk
      obtain ⟨x, hx, rfl⟩ := List.mem_map.1 hk
      obtain ⟨hx, hs⟩ := (hmem x).1 hx
      obtain ⟨p, hp, e⟩ := hin hx hs
      exact List.any_eq_true.2 ⟨p, hp, by rw [e]; exact WideAt.sameKey_self (hkey hx)⟩
  · rw [cutS h.bl]
    exact h.keys.sublist ((List.filter_sublist).map _)
  · have : (cutL slot S Bs).map (·.2) |>.Sublist Bs := by
      have h1 : ((cutL slot S Bs).map (·.2)).Sublist ((S.zip Bs).map (·.2)) := (List.filter_sublist).map _
      rw [show (S.zip Bs).map (·.2) = Bs from List.map_snd_zip (by rw [h.bl]; exact Nat.le_refl _)] at h1
      exact h1
    exact h.nd.sublist this
  · intro x hx
    exact h.ok x ((hmem x).1 hx).1
def Z5c : Array Value := #[.int .i64 0, .int .i64 0, .int .i64 0, .int .i64 0, .int .i64 0]
set_option maxHeartbeats 8000000 in
set_option maxRecDepth 100000 in
/-- The closure. -/
theorem cut1_calls (a b c d e : Int) (v : Value) (gs : Nat) (slot : Int) (w : World) (h : w.cell? ⟨gs, 0, none⟩ = some (.int .i64 slot)) :
    Calls Try.prog 23 #[.agg #[.int .i64 a, .int .i64 b, .int .i64 c, .int .i64 d, .int .i64 e], v, .pointer (some ⟨gs, 0, none⟩)] w fun ex w' => ex = .returned (.bool (decide (d ≤ slot))) ∧ Below w.heap.size w w' := by
  have hb : gs < w.heap.size := World.block_lt_of_cell? w _ h
  have h1 : (w.alloc (.cells #[.int .i64 a, .int .i64 b, .int .i64 c, .int .i64 d, .int .i64 e] 67)).cell? ⟨gs, 0, none⟩ = some (.int .i64 slot) := by
    rw [World.cell?_alloc_past _ _ _ hb]
    exact h
  have hbl := below_alloc (Below.refl w.heap.size w) (.cells #[.int .i64 a, .int .i64 b, .int .i64 c, .int .i64 d, .int .i64 e] 67)
  go_enter Try.func23, Try.ntmps23
  go_wp2
  go_ret
  exact ⟨rfl, hbl⟩
set_option maxHeartbeats 8000000 in
set_option maxRecDepth 100000 in
/-- maps.DeleteFunc with the closure. -/
theorem delf_calls (w : World) (base gl bm : Nat) (D : DataW Unit) (S : List Sn) (Bs : List Nat) (h : LdAt w base gl bm D S Bs) (gs : Nat) (slot : Int) (hc : w.cell? ⟨gs, 0, none⟩ = some (.int .i64 slot)) (hgs : gs ≠ bm) :
    Calls Try.prog 22 #[.map (some bm), .func (.func 23) #[] #[.pointer (some ⟨gs, 0, none⟩)]] w fun e w' => e = .returned (.tuple #[]) ∧ (∃ D', LdAt w' base gl bm D' ((cutL slot S Bs).map (·.1)) ((cutL slot S Bs).map (·.2))) ∧ Fr (fun k => k = bm) w w' := by
  have hown := h.own
  obtain ⟨es0, hD, hap, hkeys⟩ := hown.entries placeLaw
  rw [hD] at h hown
  have HL := Aside0.mk (And.intro h (And.intro hap hkeys))
  have hlen := S.length
  obtain ⟨n, hn⟩ : ∃ n, S.length = n := ⟨_, rfl⟩
  rw [hn] at hown
  have hgb := World.block_lt_of_cell? w _ hc
  have HC := Aside0.mk (And.intro hc hgb)
  clear h hap hkeys hn hc hgb hlen
  go_enter Try.func22, Try.ntmps22
  go_wp2_with (first
    | (at_range; refine wpList_range_own _ rfl _ 62 rfl 67 68 placeLaw undMap ptrE bm n _ rfl hown ?_; intro w0 hrg0 hg0 hs0)
    | go_in)
  try go_frame
  go_loopw [8] (fun _ wr => ∃ (left : Lit → Bool) (cnt : Nat), wr.ranges Try.prog 67 ptrE bm w.heap.size n (Fk (pdC slot S) es0 left) left cnt ∧ w.grownBy wr (some bm) ∧ ∀ kl, left kl = true → Maps.has (.map es0) kl = true)
    (fun _ wr => wr.rangeLeft bm w.heap.size)
  case atStart => exact ⟨_, _, by rw [Fk_start HL.out.2.2]; exact hrg0, hg0.but _, fun _ h => h⟩
  case round =>
    obtain ⟨left, cnt, hrg, hgw, hlf⟩ := hrel
    go_wp2_with (first
      | (at_next; refine wpList_next_ranges _ rfl _ rfl 67 placeLaw ptrE id id (fun key _ _ => ⟨key, rfl⟩) (fun v _ _ => ⟨v, rfl⟩) bm w.heap.size n _ _ _ rfl hrg ?_ ?_)
      | go_in)
    · intro _ hl0
      go_wp2
      go_end0
      have hf : Fr (fun k => k = bm) w _ := (Fr.of_grown hgw).mono (fun k e => by simpa using e)
      refine ⟨rfl, ⟨_, HL.out.1.cut HL.out.2.1 HL.out.2.2 slot n (by rw [← Fk_end hl0]; exact hrg.owns) hf⟩, hf⟩
    · intro key c kl yd yp w1 cnt1 hkey hlx hv hat hrg1 hlt hg1 hs1 hen
      have hgw1 := hgw.andThen hg1 (fun j hj => by cases hj; exact Or.inl (Nat.le_refl _))
      have hsk := (HL.out.1.has kl).1 (hlf kl hlx)
      obtain ⟨x, hx, rfl⟩ := List.mem_map.1 hsk
      have hxo := HL.out.1.ok x hx
      obtain rfl : Value.agg #[.int .i64 x.kind, .int .i64 x.view, .int .i64 x.turn, .int .i64 x.slot, .int .i64 x.signer] = key := placeLaw.inj (plK_of hxo.wk hxo.wv hxo.wt hxo.wl hxo.wi) hkey
      have hpd := pdC_at (slot := slot) HL.out.1.keys hx yd
      have HG := Aside0.mk (And.intro hgw1 (And.intro hkey (And.intro hlx (And.intro hat (And.intro hlf (And.intro hlt hrg))))))
      have HR1 := Aside0.mk hrg1
      have hgs1 : w1.cell? ⟨gs, 0, none⟩ = some (.int .i64 slot) := (World.cell?_of_block (hgw1.block gs HC.out.2 (fun e => hgs (by simpa using e)))).trans HC.out.1
      have HGS := Aside0.mk hgs1
      clear hgw1 hkey hlx hat hlf hlt hrg hrg1 hgw hg1 hs1 hsk
      go_wp2_with (first
        | ((with_reducible refine gate_dst (N := 4) rfl ?_); refine wpList_alloc_abs (by rfl) 67 (by rfl) (.agg Z5c) (by kernel_rfl) ?_; intro w5 hb5 hs5 hg5)
        | ((with_reducible refine gate_store (p := 4) rfl ?_); refine Aside0.out ?_))
      refine ⟨?_⟩
      refine wpList_store_abs (by rfl) 67 _ _ (by rfl) w1.heap.size #[.int .i64 x.kind, .int .i64 x.view, .int .i64 x.turn, .int .i64 x.slot, .int .i64 x.signer] (by rfl) (by rfl) 67 Z5c hg5 (by kernel_rfl) (by rfl) (by simp [Value.oneCell']) ?_
      intro w6 hf6 hs6 hg6
      have F6 : Fr (fun _ => False) w1 w6 := (Fr.of_below hb5 (fun _ => False)).trans hf6 (fun k hk => .inr (by omega))
      have y : w6.cell? ⟨w1.heap.size, 0, none⟩ = some (.int .i64 x.kind) ∧ w6.cell? ⟨w1.heap.size, 1, none⟩ = some (.int .i64 x.view) ∧ w6.cell? ⟨w1.heap.size, 2, none⟩ = some (.int .i64 x.turn) ∧ w6.cell? ⟨w1.heap.size, 3, none⟩ = some (.int .i64 x.slot) ∧ w6.cell? ⟨w1.heap.size, 4, none⟩ = some (.int .i64 x.signer) := by simp [World.cell?, hg6]
      obtain ⟨y0, y1, y2, y3, y4⟩ := y
      have H6 := Aside0.mk (And.intro F6 hg6)
      clear hb5 hs5 hg5 hf6 hs6 hg6 F6 hgs1
      go_wp2_with (fail)
      refine (cut1_calls x.kind x.view x.turn x.slot x.signer c gs slot w6 (H6.out.1.cell HGS.out (fun e => e))).mono ?_
      rintro e w7 ⟨rfl, hb7⟩
      have F7 := H6.out.1.then_below hb7
      have hg7 := (Fr.of_below hb7 (fun _ => False)).blk H6.out.2 (fun e => e)
      clear y0 y1 y2 y3 y4
      have y : w7.cell? ⟨w1.heap.size, 0, none⟩ = some (.int .i64 x.kind) ∧ w7.cell? ⟨w1.heap.size, 1, none⟩ = some (.int .i64 x.view) ∧ w7.cell? ⟨w1.heap.size, 2, none⟩ = some (.int .i64 x.turn) ∧ w7.cell? ⟨w1.heap.size, 3, none⟩ = some (.int .i64 x.slot) ∧ w7.cell? ⟨w1.heap.size, 4, none⟩ = some (.int .i64 x.signer) := by simp [World.cell?, hg7]
      obtain ⟨y0, y1, y2, y3, y4⟩ := y
      have hg17 : w1.grownBy w7 none := ⟨F7.os, F7.tape, F7.output, F7.size, fun i hi _ => F7.block i hi (fun e => e)⟩
      have hrg7 := HR1.out.kept hg17 (by simp) (by simp)
      have hgw7 := HG.out.1.andThen hg17 (fun j hj => by cases hj)
      have HGW := Aside0.mk hgw7
      have HM := Aside0.mk hg17
      clear hb7 F7 hg7 hg17 hgw7 H6
      by_cases hd : x.slot ≤ slot
      · have cd : decide (x.slot ≤ slot) = true := decide_eq_true hd
        rw [cd] at hpd
        have HP := Aside0.mk hpd
        clear hpd hd
        go_wp2_with (first
          | (at_delete; refine wpList_delete_ranges _ rfl _ _ 62 67 rfl 68 placeLaw undMap ptrE bm w.heap.size n _ _ _ rfl hrg7 _ _ rfl HG.out.2.1 ?_; intro w8 cnt8 hrg8 hle hturn; go_frame)
          | go_in)
        rw [strike_twice] at hrg8
        go_roundw
        case rel => exact ⟨_, cnt8, by rw [← Fk_struck HL.out.2.1 (placeLaw.key HG.out.2.1) HG.out.2.2.1 HP.out HG.out.2.2.2.1]; exact hrg8, HGW.out.andThen hturn.grown (fun j hj => by cases hj; exact Or.inr rfl), fun kl h => HG.out.2.2.2.2.1 kl (by simp at h; exact h.1)⟩
        case measure =>
          rw [hrg8.left_eq, HG.out.2.2.2.2.2.2.left_eq]
          exact Nat.lt_of_le_of_lt hle HG.out.2.2.2.2.2.1
      · have cd : decide (x.slot ≤ slot) = false := decide_eq_false hd
        rw [cd] at hpd
        have HP := Aside0.mk hpd
        clear hpd hd
        go_wp2
        go_roundw
        case rel => exact ⟨_, cnt1, by rw [← Fk_stays HL.out.2.1 (placeLaw.key HG.out.2.1) HG.out.2.2.1 HP.out HG.out.2.2.2.1]; exact hrg7, HGW.out, fun kl h => HG.out.2.2.2.2.1 kl (by simp at h; exact h.1)⟩
        case measure =>
          rw [hrg7.left_eq, HG.out.2.2.2.2.2.2.left_eq]
          exact HG.out.2.2.2.2.2.1
set_option maxHeartbeats 8000000 in
set_option maxRecDepth 100000 in
/-- ledger.Cut. -/
theorem lcut_calls (w : World) (base gl bm : Nat) (D : DataW Unit) (S : List Sn) (Bs : List Nat) (h : LdAt w base gl bm D S Bs) (slot : Int) :
    Calls Try.prog 10 #[.pointer (some ⟨gl, 0, none⟩), .int .i64 slot] w fun e w' => e = .returned (.tuple #[]) ∧ (∃ D', LdAt w' base gl bm D' ((cutL slot S Bs).map (·.1)) ((cutL slot S Bs).map (·.2))) ∧ Fr (fun k => k = bm) w w' := by
  have hmf : ∀ (fn : Fn) (first cap : Array Value) (w : World), (Instr.makeFunc fn first cap).run Try.prog w = .ok (.func fn first cap) w := fun _ _ _ _ => rfl
  have hbx := below_alloc (Below.refl w.heap.size w) (.cells #[.int .i64 slot] 3)
  have hgx := heap_alloc_new w (.cells #[.int .i64 slot] 3)
  have fx := Fr.of_below hbx (fun _ => False)
  have hc : (w.alloc (.cells #[.int .i64 slot] 3)).cell? ⟨gl, 0, none⟩ = some (.map (some bm)) := by simp [World.cell?, fx.blk h.head (fun e => e)]
  have HH := Aside0.mk (And.intro (h.fr0 fx) (And.intro hgx (And.intro fx (show w.heap.size ≠ bm by
    have := h.own.lt
    omega))))
  clear hbx hgx fx h
  go_enter Try.func10, Try.ntmps10
  go_wp2_with (fail)
  generalize w.alloc (.cells #[.int .i64 slot] 3) = w2 at *
  refine (delf_calls w2 base gl bm D S Bs HH.out.1 w.heap.size slot (by simp [World.cell?, HH.out.2.1]) HH.out.2.2.2).mono ?_
  rintro e w3 ⟨rfl, hL, hf⟩
  have H3 := Aside0.mk (And.intro hL hf)
  clear hL hf hc
  go_wp2
  go_end0
  exact ⟨rfl, H3.out.1, (HH.out.2.2.1.mono (fun _ e => e.elim)).trans H3.out.2 (fun k hk => .inl hk)⟩
end Go.Proofs.Ytnabilhcmplhcaa.Sha
end
section
/- Written by a program of this session out of the translation; Lean checks it. -/
namespace Go.Proofs.Ytnabilhcmplhcaa.Q
open Go.RowKit Go.Proofs.YtnabilhcmplhcaaW.PrintWords Go.Proofs.YtnabilhcmplhcaaW.PrintLast Go.Proofs.YtnabilhcmplhcaaW.PrintMore
attribute [local go_sem] max2_int min2_int max_two min_two max_three min_three max_four min_four   -- for this text's walks alone
set_option linter.unusedVariables false
set_option linter.unusedSimpArgs false

/-! ### catenaryref05_CopyVotes: function 14 -/
def catenaryref05_CopyVotes.l0 : Nat → List (S55) → List (S55) → Int → Int → Option ((List (S55)))
  | 0, _, _, _, _ => none
  | k + 1, x3, x7, x8, x9 => if x9 < x8 then (if 0 ≤ x9 then (if x9 < (x7.length : Int) then ((some (([] : List Int) : List Int)).bind fun y246 => (if y246.length + ((rd_T55 x7 x9).f1).length < 140737488355328 then (if x3.length < 4398046511104 then (catenaryref05_CopyVotes.l0 k (x3 ++ [(⟨(rd_T55 x7 x9).f0, (y246 ++ ((rd_T55 x7 x9).f1))⟩ : S55)]) x7 x8 (wrap64 (x9 + 1))) else (none)) else (none))) else (none)) else (none)) else (some x3)
def catenaryref05_CopyVotes.f (k : Nat) (l0 : List (S55)) : Option ((List (S55))) := catenaryref05_CopyVotes.l0 k (([] : List (S55))) l0 (l0.length : Int) 0
def catenaryref05_CopyVotes.T5 : Bool × List (List Nat × List Nat) := (true, [([], []), ([], []), ([1], [1]), ([], []), ([], []), ([4], [4]), ([3, 5], [3, 5]), ([2, 6], [2, 6]), ([7], [7]), ([0, 8, 6], [0, 8]), ([9, 9, 0, 1, 2, 3, 4, 5, 6, 7, 8, 9], [0, 9])])
def catenaryref05_CopyVotes.B5 : List Nat := [0, 0, 2, 0, 0, 16, 56, 126, 254, 511, 1023]
theorem catenaryref05_CopyVotes.tab5 : rtab .any (opsOf Try.f14 5) = catenaryref05_CopyVotes.T5 := by kernel_rfl
theorem catenaryref05_CopyVotes.bits5 : waitsOk catenaryref05_CopyVotes.T5.2 catenaryref05_CopyVotes.B5 = true := by kernel_rfl
set_option maxHeartbeats 8000000 in
set_option maxRecDepth 100000 in
theorem catenaryref05_CopyVotes.calls (k : Nat) (A0 : Option Addr) (c0 : Nat) (l0 : List (S55)) (r : List (S55)) (w : World) (hr0 : Kd.C k55 w A0 l0.length l0) (hc0 : l0.length ≤ c0) (h : catenaryref05_CopyVotes.f k l0 = some r) :
    Calls Try.prog 14 #[.slice A0 l0.length c0] w fun e w' => ∃ v0_ : Value, e = .returned (v0_) ∧ Kd.S k55 55 w' w.heap.size (fun _ => True) v0_ r ∧ Below w.heap.size w w' := by
  have hu55 := Try.underlying55
  have HR0 := Aside0.mk hr0
  have HC0 := Aside0.mk hc0
  clear hr0 hc0
  have HB := Aside0.mk (Below.refl w.heap.size w)
  have H : (catenaryref05_CopyVotes.l0 k (([] : List (S55))) l0 (l0.length : Int) 0) = some r := h
  clear h
  obtain ⟨y241, hy241⟩ : ∃ y_ : List (S55), y_ = (([] : List (S55))) := ⟨_, rfl⟩
  replace H : (catenaryref05_CopyVotes.l0 k y241 l0 (l0.length : Int) 0) = some r := by first | (rw [hy241]; with_reducible exact H) | (have H2_ := (Option.bind_some _ _).symm.trans H; rw [hy241]; with_reducible exact H2_) | (have H2_ := (Option.bind_some _ _).symm.trans H; with_reducible exact H2_) | with_reducible exact H | (rw [hy241]; exact H) | exact H
  have Ny241 := Aside0.mk hy241
  clear hy241
  have H' := Aside0.mk H
  clear H
  go_enter Try.func14, Try.ntmps14
  go_wp2_with (first | ((with_reducible refine gate_dst (N := 6) rfl ?_); refine Kd.S_lit k55 _ 55 ?hg (N := 6) ?hd (xs := ([] : List (S55))) (inner := []) (ok := fun _ => True) (okp := fun _ => True) ?hr ?hp (fun _ hk => hk) trivial (Below.refl _ _) (Nat.le_refl _) (by simp) ?_; (case hd => rfl); (case hg => rfl); (case hr => first | (go_simp; done) | (go_simp; rfl)); (case hp => exact (Reps.none _ _)); intro v242 w2 ho3 hb hg_ hnew_; clear hg_ hnew_; (first | rw [← Ny241.out] at ho3 | (simp only [Int.reduceToNat] at ho3; rw [← Ny241.out] at ho3)); have n0_ := Aside0.mk (Kd.S_lower ho3 (below_size (by repeat (first | (with_reducible first | exact HB.out | apply below_alloc | apply pw_below_drewN | apply below_drew1) | exact HB.out)))); have n1_ := Aside0.mk (below_step (by repeat (first | (with_reducible first | exact HB.out | apply below_alloc | apply pw_below_drewN | apply below_drew1) | exact HB.out)) hb); clear HB; have HO243 := n0_; have HB := n1_; clear n0_ n1_; clear hb ho3))
  go_loopg [3, 9] k (fun kq v3 v9 w' => ∃ (x3_1 : List (S55)) (x9_1 : Int), v9 = .int .i64 x9_1 ∧ Aside0 (catenaryref05_CopyVotes.l0 kq x3_1 l0 (l0.length : Int) x9_1 = some r) ∧ Aside0 (kq ≤ k) ∧ Aside0 (Kd.S k55 55 w' w.heap.size (fun _ => True) v3 x3_1) ∧ Aside0 (Below w.heap.size w w'))
  case atStart => exact ⟨(y241), (0), (by first | rfl | (simp; done) | (simp [*]; done)), H', ⟨Nat.le_refl _⟩, ⟨by (with_reducible repeat (first | apply Kd.S_alloc | apply Kd.S_drewN | apply Kd.S_drew)); exact HO243.out⟩, ⟨by repeat (first | (with_reducible first | exact HB.out | apply below_alloc | apply pw_below_drewN | apply below_drew1) | exact HB.out)⟩⟩
  case round =>
    clear H'
    try clear c1
    try clear p2
    obtain ⟨x3_1, x9_1, rfl, HA, HK1, HO_3, HB⟩ := hrel
    cases gk with
    | zero => exact absurd HA.out (by simp [catenaryref05_CopyVotes.l0])
    | succ k1 =>
      have H := HA.out
      clear HA
      simp only [catenaryref05_CopyVotes.l0] at H
      by_cases c4 : x9_1 < (l0.length : Int)
      · rw [if_pos c4] at H
        have c4b0 : decide (x9_1 < (l0.length : Int)) = true := decide_eq_true c4
        clear c4
        by_cases c5 : 0 ≤ x9_1
        · rw [if_pos c5] at H
          have c5b0 : decide (0 ≤ x9_1) = true := decide_eq_true c5
          clear c5
          by_cases c6 : x9_1 < (l0.length : Int)
          · rw [if_pos c6] at H
            have c6b0 : decide (x9_1 < (l0.length : Int)) = true := decide_eq_true c6
            clear c6
            obtain ⟨y246, hy246⟩ : ∃ y_ : List Int, y_ = (([] : List Int)) := ⟨_, rfl⟩
            replace H : (if y246.length + ((rd_T55 l0 x9_1).f1).length < 140737488355328 then (if x3_1.length < 4398046511104 then (catenaryref05_CopyVotes.l0 k1 (x3_1 ++ [(⟨(rd_T55 l0 x9_1).f0, (y246 ++ ((rd_T55 l0 x9_1).f1))⟩ : S55)]) l0 (l0.length : Int) (wrap64 (x9_1 + 1))) else (none)) else (none)) = some r := by first | (rw [hy246]; with_reducible exact H) | (have H2_ := (Option.bind_some _ _).symm.trans H; rw [hy246]; with_reducible exact H2_) | (have H2_ := (Option.bind_some _ _).symm.trans H; with_reducible exact H2_) | with_reducible exact H | (rw [hy246]; exact H) | exact H
            have Ny246 := Aside0.mk hy246
            clear hy246
            by_cases c7 : y246.length + ((rd_T55 l0 x9_1).f1).length < 140737488355328
            · rw [if_pos c7] at H
              have LMc7 := Aside0.mk c7
              clear c7
              obtain ⟨y249, hy249⟩ : ∃ y_ : List Int, y_ = (y246 ++ ((rd_T55 l0 x9_1).f1)) := ⟨_, rfl⟩
              replace H : (if x3_1.length < 4398046511104 then (catenaryref05_CopyVotes.l0 k1 (x3_1 ++ [(⟨(rd_T55 l0 x9_1).f0, y249⟩ : S55)]) l0 (l0.length : Int) (wrap64 (x9_1 + 1))) else (none)) = some r := by first | (rw [hy249]; with_reducible exact H) | (have H2_ := (Option.bind_some _ _).symm.trans H; rw [hy249]; with_reducible exact H2_) | (have H2_ := (Option.bind_some _ _).symm.trans H; with_reducible exact H2_) | with_reducible exact H | (rw [hy249]; exact H) | exact H
              have Ny249 := Aside0.mk hy249
              clear hy249
              by_cases c8 : x3_1.length < 4398046511104
              · rw [if_pos c8] at H
                have LMc8 := Aside0.mk c8
                clear c8
                obtain ⟨y252, hy252⟩ : ∃ y_ : List (S55), y_ = (x3_1 ++ [(⟨(rd_T55 l0 x9_1).f0, y249⟩ : S55)]) := ⟨_, rfl⟩
                replace H : (catenaryref05_CopyVotes.l0 k1 y252 l0 (l0.length : Int) (wrap64 (x9_1 + 1))) = some r := by first | (rw [hy252]; with_reducible exact H) | (have H2_ := (Option.bind_some _ _).symm.trans H; rw [hy252]; with_reducible exact H2_) | (have H2_ := (Option.bind_some _ _).symm.trans H; with_reducible exact H2_) | with_reducible exact H | (rw [hy252]; exact H) | exact H
                have Ny252 := Aside0.mk hy252
                clear hy252
                have H' := Aside0.mk H
                clear H
                have p244 : 0 ≤ (x9_1 : Int) := of_decide_eq_true (by first | (with_reducible assumption) | assumption)
                have q244 : x9_1 < (l0.length : Int) := of_decide_eq_true (by first | (with_reducible assumption) | assumption)
                obtain ⟨ad244, A244_1, c244_1, e244, hx244_0, hx244_1, hl244_1, hi244_1⟩ := at_T55 HR0.out x9_1 p244 q244
                cases e244
                replace hx244_0 := (HB.out.cell (World.block_lt_of_cell? w _ hx244_0)).trans hx244_0
                replace hx244_1 := (HB.out.cell (World.block_lt_of_cell? w _ hx244_1)).trans hx244_1
                have HR244_1 := Aside0.mk hi244_1
                have HC244_1 := Aside0.mk hl244_1
                clear hi244_1 hl244_1
                replace p244 := eq_true p244
                replace q244 := eq_true q244
                try go_wp2_with (first | ((with_reducible refine gate_dst (N := 5) rfl ?_); refine box_event ?hg (N := 5) ?hd (cs := #[.int .i64 0, .slice none 0 0]) (t := 55) ?hr ?_; (case hd => rfl); (case hg => rfl); (case hr => first | (go_simp; done) | (go_simp; rfl)); intro gb245 hg w9 hbox hb; have n0_ := Aside0.mk (Kd.S_below (Kd.S_elderB (by (with_reducible repeat (first | apply Kd.S_alloc | apply Kd.S_drewN | apply Kd.S_drew)); exact HO_3.out) gb245 (Nat.le_of_eq hg.symm)) hb); have n1_ := Aside0.mk (below_step (by repeat (first | (with_reducible first | exact HB.out | apply below_alloc | apply pw_below_drewN | apply below_drew1) | exact HB.out)) hb); have n2_ := Aside0.mk (hbox); have n3_ := Aside0.mk ((by rw [hg]; exact (below_size (by repeat (first | (with_reducible first | exact HB.out | apply below_alloc | apply pw_below_drewN | apply below_drew1) | exact HB.out))) : w.heap.size ≤ gb245)); have n4_ := Aside0.mk ((by rw [hg]; exact (below_size (by repeat (first | (with_reducible first | exact HB.out | apply below_alloc | apply pw_below_drewN | apply below_drew1) | exact HB.out))) : w.heap.size ≤ gb245)); clear HO_3; clear HB; have HO_3 := n0_; have HB := n1_; have BK245 := n2_; have GW245 := n3_; have GE245 := n4_; clear n0_ n1_ n2_ n3_ n4_; clear hb hbox hg; have hcz10_0 : w9.cell? ⟨gb245, 0, none⟩ = some (.int .i64 0) := (blk_cell BK245.out 0).trans rfl; have hcz10_1 : w9.cell? ⟨gb245, 1, none⟩ = some (.slice none 0 0) := (blk_cell BK245.out 1).trans rfl; have hfz10_0 := blk_frozen BK245.out 0; have hfz10_1 := blk_frozen BK245.out 1))
                have n0_ : Aside0 (Kd.S k55 55 ((w9.setCell ⟨gb245, 0, none⟩ (.int .i64 ((rd_T55 l0 x9_1).f0))).setCell ⟨gb245, 1, none⟩ (.slice A244_1 ((rd_T55 l0 x9_1).f1).length c244_1)) w.heap.size (fun k_ => k_ ≠ gb245) u3 x3_1) := ⟨by (with_reducible repeat (first | apply Kd.S_alloc | apply Kd.S_drewN | apply Kd.S_drew)); exact Kd.S_mono (Kd.S_far (p := ⟨gb245, 1, none⟩) (Kd.S_far (p := ⟨gb245, 0, none⟩) (Kd.S_mono HO_3.out (fun k_ hk => (⟨hk, hk.2⟩ : _ ∧ k_ ≠ gb245))) (fun _ hk => hk.2) (.int .i64 ((rd_T55 l0 x9_1).f0))) (fun _ hk => hk.2) (.slice A244_1 ((rd_T55 l0 x9_1).f1).length c244_1)) (fun _ hk => hk.1.2)⟩
                have n1_ : Aside0 (((w9.setCell ⟨gb245, 0, none⟩ (.int .i64 ((rd_T55 l0 x9_1).f0))).setCell ⟨gb245, 1, none⟩ (.slice A244_1 ((rd_T55 l0 x9_1).f1).length c244_1)).heap[gb245]? = some (.cells #[.int .i64 ((rd_T55 l0 x9_1).f0), .slice A244_1 ((rd_T55 l0 x9_1).f1).length c244_1] 55 (0, 0))) := ⟨by (with_reducible repeat (first | refine blk_drewN ?_ _ | refine blk_drew ?_ | refine blk_alloc ?_ _)); refine blk_put (cs := #[.int .i64 ((rd_T55 l0 x9_1).f0), .slice none 0 0]) ?_ 1 _ rfl; (with_reducible repeat (first | refine blk_drewN ?_ _ | refine blk_drew ?_ | refine blk_alloc ?_ _)); refine blk_put (cs := #[.int .i64 0, .slice none 0 0]) ?_ 0 _ rfl; (with_reducible repeat (first | refine blk_drewN ?_ _ | refine blk_drew ?_ | refine blk_alloc ?_ _)); exact BK245.out⟩
                have n2_ : Aside0 (Below w.heap.size w ((w9.setCell ⟨gb245, 0, none⟩ (.int .i64 ((rd_T55 l0 x9_1).f0))).setCell ⟨gb245, 1, none⟩ (.slice A244_1 ((rd_T55 l0 x9_1).f1).length c244_1))) := ⟨by repeat (first | (with_reducible first | exact HB.out | apply below_alloc | apply pw_below_drewN | apply below_drew1 | refine below_set ?_ GE245.out) | exact HB.out)⟩
                (try clear HO_3)
                (try clear BK245)
                (try clear HB)
                generalize ((w9.setCell ⟨gb245, 0, none⟩ (.int .i64 ((rd_T55 l0 x9_1).f0))).setCell ⟨gb245, 1, none⟩ (.slice A244_1 ((rd_T55 l0 x9_1).f1).length c244_1)) = w11 at n0_ n1_ n2_ ⊢
                have HO_3 := n0_
                have BK245 := n1_
                have HB := n2_
                clear n0_ n1_ n2_
                have n0_ := Aside0.mk (Kd.S_drew HO_3.out)
                have n1_ := Aside0.mk (blk_drew BK245.out)
                have n2_ := Aside0.mk (below_drew1 HB.out)
                clear HO_3
                clear BK245
                clear HB
                have HO_3 := n0_
                have BK245 := n1_
                have HB := n2_
                clear n0_ n1_ n2_
                refine start_ (n := 11) (S := fun w' => w'.cell? ⟨gb245, 0, none⟩ = some (.int .i64 ((rd_T55 l0 x9_1).f0)) ∧ w'.cell? ⟨gb245, 1, none⟩ = some (.slice A244_1 ((rd_T55 l0 x9_1).f1).length c244_1)) (ds := []) #[false, false, false, false, false, false, false, false, false, false, false] (by kernel_rfl) rfl rfl ⟨(blk_cell BK245.out 0).trans rfl, (blk_cell BK245.out 1).trans rfl⟩ (fun hHeld => ?_); refine with_tabW catenaryref05_CopyVotes.tab5 catenaryref05_CopyVotes.bits5 (fun HT_ HW_ => ?_)
                generalize w11.drew = w12 at HO_3 BK245 HB hHeld ⊢
                refine pure_ (i := 0) (N := some 13) (v := ?_) (a' := ?_) #[true, false, false, false, false, false, false, false, false, false, false] rfl rfl (any_of HT_.out (by kernel_rfl)) (fun _ _ _ h => h) (Or.inl ⟨by rfl, ?_⟩) ?_ ?_
                rotate_left
                · intro w'
                  go_simp
                  with_reducible rfl
                rotate_left
                · simp only [Act.put, List.setIfInBounds_toArray, List.set_cons_zero, List.set_cons_succ, i64_w, i32_w]
                  rfl
                refine pure_ (i := 1) (N := some 14) (v := ?_) (a' := ?_) #[true, true, false, false, false, false, false, false, false, false, false] rfl rfl (any_of HT_.out (by kernel_rfl)) (fun _ _ _ h => h) (Or.inl ⟨by rfl, ?_⟩) ?_ ?_
                rotate_left
                · intro w'
                  go_simp
                  with_reducible rfl
                rotate_left
                · simp only [Act.put, List.setIfInBounds_toArray, List.set_cons_zero, List.set_cons_succ, i64_w, i32_w]
                  rfl
                refine pure_ (i := 4) (N := some 17) (v := ?_) (a' := ?_) #[true, true, false, false, true, false, false, false, false, false, false] rfl rfl (any_of HT_.out (by kernel_rfl)) (fun _ _ _ h => h) (Or.inl ⟨by rfl, ?_⟩) ?_ ?_
                rotate_left
                · intro w'
                  go_simp
                  with_reducible rfl
                rotate_left
                · simp only [Act.put, List.setIfInBounds_toArray, List.set_cons_zero, List.set_cons_succ, i64_w, i32_w]
                  rfl
                refine take_ (i := 2) (N := some 15) (v := ?_) (a' := ?_) #[true, true, true, false, true, false, false, false, false, false, false] rfl rfl (take_ofW HT_.out HW_.out (by kernel_rfl)) (fun _ _ _ h => h) (Or.inl ⟨by rfl, ?_⟩) hHeld ?_ ?_
                rotate_left
                · rintro w' ⟨s0, s1⟩
                  go_simp
                  with_reducible rfl
                rotate_left
                · simp only [Act.put, List.setIfInBounds_toArray, List.set_cons_zero, List.set_cons_succ, i64_w, i32_w]
                  rfl
                refine take_ (i := 5) (N := some 18) (v := ?_) (a' := ?_) #[true, true, true, false, true, true, false, false, false, false, false] rfl rfl (take_ofW HT_.out HW_.out (by kernel_rfl)) (fun _ _ _ h => h) (Or.inl ⟨by rfl, ?_⟩) hHeld ?_ ?_
                rotate_left
                · rintro w' ⟨s0, s1⟩
                  go_simp
                  with_reducible rfl
                rotate_left
                · simp only [Act.put, List.setIfInBounds_toArray, List.set_cons_zero, List.set_cons_succ, i64_w, i32_w]
                  rfl
                refine one_ (i := 3) (N := some 16) #[true, true, true, true, true, true, false, false, false, false, false] rfl rfl (one_of HT_.out (by kernel_rfl)) (by decide) (fun K hK => ?_)
                refine Kd.R_lit_step (Kd.int .u8) _ 5 ?hg (N := 16) ?hd (xs := ([] : List Int)) (inner := []) (ok := fun _ => True) (okp := fun _ => True) ?hr ?hp (fun _ hk => hk) trivial (Below.refl _ _) (Nat.le_refl _) (by simp) ?_; (case hd => rfl); (case hg => rfl); (case hr => first | (go_simp; done) | (go_simp; rfl)); (case hp => exact (Reps.none _ _))
                intro v247 w13 ho14 hb hg_ hnew_
                clear hg_ hnew_
                (first | rw [← Ny246.out] at ho14 | (simp only [Int.reduceToNat] at ho14; rw [← Ny246.out] at ho14))
                have n0_ := Aside0.mk (Kd.S_elder' (by (with_reducible repeat (first | apply Kd.S_alloc | apply Kd.S_drewN | apply Kd.S_drew)); exact HO_3.out) (Kd.R_base ho14) hb)
                have n1_ := Aside0.mk (Kd.R_lower ho14 (below_size (by repeat (first | (with_reducible first | exact HB.out | apply below_alloc | apply pw_below_drewN | apply below_drew1 | refine below_set ?_ GE245.out) | exact HB.out))))
                have n2_ := Aside0.mk (blk_below (g := gb245) (o := .cells #[.int .i64 ((rd_T55 l0 x9_1).f0), .slice A244_1 ((rd_T55 l0 x9_1).f1).length c244_1] 55 (0, 0)) (by (with_reducible repeat (first | refine blk_drewN ?_ _ | refine blk_drew ?_ | refine blk_alloc ?_ _)); exact BK245.out) hb)
                have n3_ := Aside0.mk (below_step (by repeat (first | (with_reducible first | exact HB.out | apply below_alloc | apply pw_below_drewN | apply below_drew1 | refine below_set ?_ GE245.out) | exact HB.out)) hb)
                clear HO_3
                clear BK245
                clear HB
                have HO_3 := n0_
                have HO248 := n1_
                have BK245 := n2_
                have HB := n3_
                clear n0_ n1_ n2_ n3_
                clear hb ho14
                refine hK.out _ _ ⟨(blk_cell BK245.out 0).trans rfl, (blk_cell BK245.out 1).trans rfl⟩ (fun hHeld => ?_)
                clear hK K
                refine norm_ (a' := ?_) ?_ ?_
                rotate_left
                · show Act.put _ (some 16) _ = _
                  simp only [Act.put, List.setIfInBounds_toArray, List.set_cons_zero, List.set_cons_succ, i64_w, i32_w]
                  rfl
                refine one_ (i := 6) (N := some 19) #[true, true, true, true, true, true, true, false, false, false, false] rfl rfl (one_of HT_.out (by kernel_rfl)) (by decide) (fun K hK => ?_)
                refine Kd.R_append_rows_step (Kd.int .u8) (w0 := w) w.heap.size (by rfl) (.tmp 16) (.tmp 18) 29 5 (.int .u8 0) 1 rfl Try.underlying29 info5 rfl (by decide) (by omega) v247 y246 ((rd_T55 l0 x9_1).f1) _ _ _ (fun _ => True) (fun _ => False) rfl rfl ?aO ?aR (fun _ _ h => h) (fun _ h => h.elim) ?aF ?aB ?aS ?aL ?_
                (case aR => repeat (first | exact (Kd.C_below HR244_1.out HB.out) | (with_reducible refine Kd.C_alloc ?_ _) | (with_reducible refine Kd.C_drewN ?_ _) | (with_reducible refine Kd.C_drew ?_)))
                (case aB => exact (by repeat (first | (with_reducible first | exact HB.out | apply below_alloc | apply pw_below_drewN | apply below_drew1 | refine below_set ?_ GE245.out) | exact HB.out)))
                (case aF => exact (fun _ _ => trivial))
                (case aO => exact (by (with_reducible repeat (first | apply Kd.R_alloc | apply Kd.R_drewN | apply Kd.R_drew)); exact HO248.out))
                (case aS => exact (below_size (by repeat (first | (with_reducible first | exact HB.out | apply below_alloc | apply pw_below_drewN | apply below_drew1 | refine below_set ?_ GE245.out) | exact HB.out))))
                (case aL => have := LMc7.out; omega)
                intro v250 w15 ho hb hg hat
                rw [← Ny249.out] at ho
                have n0_ := Aside0.mk (Kd.S_after (ok := (fun k_ => k_ ≠ gb245)) (by (with_reducible repeat (first | apply Kd.S_alloc | apply Kd.S_drewN | apply Kd.S_drew)); exact HO_3.out) hg hat)
                have n1_ := Aside0.mk (blk_grown (g := gb245) (o := .cells #[.int .i64 ((rd_T55 l0 x9_1).f0), .slice A244_1 ((rd_T55 l0 x9_1).f1).length c244_1] 55 (0, 0)) (by (with_reducible repeat (first | refine blk_drewN ?_ _ | refine blk_drew ?_ | refine blk_alloc ?_ _)); exact BK245.out) hg (Kd.R_ne HO248.out BK245.out (by decide)))
                have n2_ := Aside0.mk (hb)
                have n3_ := Aside0.mk (ho)
                clear HO_3
                clear BK245
                clear HB
                clear HO248
                have HO_3 := n0_
                have BK245 := n1_
                have HB := n2_
                have HO251 := n3_
                clear n0_ n1_ n2_ n3_
                clear ho hb hg hat
                obtain ⟨Ao16, co16, eo16⟩ := Kd.R_slice HO251.out
                (first | subst eo16 | (injection eo16 with f1_ f2_ f3_; have f4_ := f1_.symm; have f5_ := f3_.symm; clear f1_ f2_ f3_; subst f4_; subst f5_))
                refine hK.out _ _ ⟨(blk_cell BK245.out 0).trans rfl, (blk_cell BK245.out 1).trans rfl⟩ (fun hHeld => ?_)
                clear hK K
                refine norm_ (a' := ?_) ?_ ?_
                rotate_left
                · show Act.put _ (some 19) _ = _
                  simp only [Act.put, List.setIfInBounds_toArray, List.set_cons_zero, List.set_cons_succ, i64_w, i32_w]
                  rfl
                refine pure_ (i := 7) (N := some 20) (v := ?_) (a' := ?_) #[true, true, true, true, true, true, true, true, false, false, false] rfl rfl (any_of HT_.out (by kernel_rfl)) (fun _ _ _ h => h) (Or.inl ⟨by rfl, ?_⟩) ?_ ?_
                rotate_left
                · intro w'
                  go_simp
                  with_reducible rfl
                rotate_left
                · simp only [Act.put, List.setIfInBounds_toArray, List.set_cons_zero, List.set_cons_succ, i64_w, i32_w]
                  rfl
                refine one_ (i := 8) (N := some 21) #[true, true, true, true, true, true, true, true, true, false, false] rfl rfl (one_of HT_.out (by kernel_rfl)) (by decide) (fun K hK => ?_)
                refine value_ (w1 := ?_) (v := ?_) (by rfl) rfl ?_ ?_
                rotate_left 2
                · go_simp
                  constructor
                  · rfl
                  · rfl
                refine hK.out _ _ ⟨(blk_cell (blk_alloc BK245.out _) 0).trans rfl, (blk_cell (blk_alloc BK245.out _) 1).trans rfl⟩ (fun hHeld => ?_)
                clear hK K
                refine norm_ (a' := ?_) ?_ ?_
                rotate_left
                · show Act.put _ (some 21) _ = _
                  simp only [Act.put, List.setIfInBounds_toArray, List.set_cons_zero, List.set_cons_succ, i64_w, i32_w]
                  rfl
                refine one_ (i := 9) (N := some 22) #[true, true, true, true, true, true, true, true, true, true, false] rfl rfl (one_of HT_.out (by kernel_rfl)) (by decide) (fun K hK => ?_)
                refine Kd.S_append_step k55 (w0 := w) w.heap.size (by rfl) (.tmp 13) (.tmp 21) 32 55 (.agg #[(.int .i64 0), (.slice none 0 0)]) 32 rfl Try.underlying32 info55 rfl (by decide) (by omega) u3 x3_1 (⟨(rd_T55 l0 x9_1).f0, y249⟩ : S55) [.int .i64 ((rd_T55 l0 x9_1).f0), .slice Ao16 y249.length co16] (fun k_ => k_ ≠ gb245) (fun k_ => some k_ = (.slice Ao16 y249.length co16 : Value).ownBlock) rfl rfl ?aP (fun k_ hk_ => ((Kd.R_mono (ok' := fun k_ => ((fun k_ => k_ ≠ gb245)) k_ ∧ some k_ ≠ (u3 : Value).ownBlock) (Kd.R_types (Kd.R_apart' (HO251.out) (Kd.S_typed HO_3.out) (by decide)) BK245.out (by decide)) (fun k_ hk => ⟨hk.2, hk.1.2⟩))).1 k_ hk_.symm) ?aF ?aO ?aB ?aS ?aL ?_
                (case aP => exact k55_mkM _ _ _ (⟨(rd_T55 l0 x9_1).f0, y249⟩ : S55) (Kd.R_mono (Kd.R_tight rfl (Kd.R_mono (ok' := fun k_ => ((fun k_ => k_ ≠ gb245)) k_ ∧ some k_ ≠ (u3 : Value).ownBlock) (Kd.R_types (Kd.R_apart' (HO251.out) (Kd.S_typed HO_3.out) (by decide)) BK245.out (by decide)) (fun k_ hk => ⟨hk.2, hk.1.2⟩))) (fun _ h_ => h_)))
                (case aB => exact (by repeat (first | (with_reducible first | exact HB.out | apply below_alloc | apply pw_below_drewN | apply below_drew1 | refine below_set ?_ GE245.out) | exact HB.out)))
                (case aF => exact (fun k_ hk => Kd.freshB (g := gb245) (o := .cells #[.int .i64 ((rd_T55 l0 x9_1).f0), .slice A244_1 ((rd_T55 l0 x9_1).f1).length c244_1] 55 (0, 0)) (by (with_reducible repeat (first | refine blk_drewN ?_ _ | refine blk_drew ?_ | refine blk_alloc ?_ _)); exact BK245.out) k_ hk))
                (case aO => exact (by (with_reducible repeat (first | apply Kd.S_alloc | apply Kd.S_drewN | apply Kd.S_drew)); exact Kd.S_mono HO_3.out (fun k_ hk => ⟨hk.1, fun e_ => hk.2 e_⟩)))
                (case aS => exact (below_size (by repeat (first | (with_reducible first | exact HB.out | apply below_alloc | apply pw_below_drewN | apply below_drew1 | refine below_set ?_ GE245.out) | exact HB.out))))
                (case aL => have := LMc8.out; omega)
                intro v253 w17 ho hb hg hat
                rw [← Ny252.out] at ho
                have n0_ := Aside0.mk (blk_grown (g := gb245) (o := .cells #[.int .i64 ((rd_T55 l0 x9_1).f0), .slice A244_1 ((rd_T55 l0 x9_1).f1).length c244_1] 55 (0, 0)) (by (with_reducible repeat (first | refine blk_drewN ?_ _ | refine blk_drew ?_ | refine blk_alloc ?_ _)); exact BK245.out) hg (Kd.S_away HO_3.out (fun _ hk => hk.1)))
                have n1_ := Aside0.mk (hb)
                have n2_ := Aside0.mk (ho)
                clear BK245
                clear HB
                clear HO_3
                clear HO251
                have BK245 := n0_
                have HB := n1_
                have HO254 := n2_
                clear n0_ n1_ n2_
                clear ho hb hg hat
                refine hK.out _ _ ⟨(blk_cell BK245.out 0).trans rfl, (blk_cell BK245.out 1).trans rfl⟩ (fun hHeld => ?_)
                clear hK K
                refine norm_ (a' := ?_) ?_ ?_
                rotate_left
                · show Act.put _ (some 22) _ = _
                  simp only [Act.put, List.setIfInBounds_toArray, List.set_cons_zero, List.set_cons_succ, i64_w, i32_w]
                  rfl
                refine pure_ (i := 10) (N := some 3) (v := ?_) (a' := ?_) #[true, true, true, true, true, true, true, true, true, true, true] rfl rfl (any_of HT_.out (by kernel_rfl)) (fun _ _ _ h => h) (Or.inl ⟨by rfl, ?_⟩) ?_ ?_
                rotate_left
                · intro w'
                  go_simp
                  with_reducible rfl
                rotate_left
                · simp only [Act.put, List.setIfInBounds_toArray, List.set_cons_zero, List.set_cons_succ, i64_w, i32_w]
                  rfl
                refine done_ (done_of HT_.out (by kernel_rfl)) ?_
                try go_wp2
                go_roundg k1
                case measure => have := HK1.out; omega
                case rel => exact ⟨(y252), (wrap64 (x9_1 + 1)), (by first | rfl | (simp; done) | (simp [*]; done)), H', ⟨by have := HK1.out; omega⟩, ⟨by (with_reducible repeat (first | apply Kd.S_alloc | apply Kd.S_drewN | apply Kd.S_drew)); exact Kd.S_mono HO254.out (fun _ hk => trivial)⟩, ⟨by repeat (first | (with_reducible first | exact HB.out | apply below_alloc | apply pw_below_drewN | apply below_drew1 | refine below_set ?_ GE245.out) | exact HB.out)⟩⟩
              · rw [if_neg c8] at H
                exact absurd H (by simp)
            · rw [if_neg c7] at H
              exact absurd H (by simp)
          · rw [if_neg c6] at H
            exact absurd H (by simp)
        · rw [if_neg c5] at H
          exact absurd H (by simp)
      · rw [if_neg c4] at H
        have c4b0 : decide (x9_1 < (l0.length : Int)) = false := decide_eq_false c4
        clear c4
        obtain rfl := Option.some.inj H
        go_wp2
        go_ret
        exact ⟨_, by first | rfl | (simp [errW_none, errW_some] <;> rfl) | (simp [*, errW_none, errW_some] <;> rfl), by (with_reducible repeat (first | apply Kd.S_alloc | apply Kd.S_drewN | apply Kd.S_drew)); exact HO_3.out, by repeat (first | (with_reducible first | exact HB.out | apply below_alloc | apply pw_below_drewN | apply below_drew1) | exact HB.out)⟩

end Go.Proofs.Ytnabilhcmplhcaa.Q
end
section
/-
  What the ledger's laws use beside the ledger: copies of votes.
-/
set_option linter.unusedVariables false
set_option linter.unusedSimpArgs false
namespace Go.Proofs.Ytnabilhcmplhcaa.Sha
open Go.RowKit Go.Proofs.YtnabilhcmplhcaaW.PrintWords Go.Proofs.YtnabilhcmplhcaaW.PrintLast Go.Proofs.YtnabilhcmplhcaaW.PrintMore Go.Proofs.Ytnabilhcmplhcaa.Q Go.Proofs.Ytnabilhcmplhcaa.Fr Go.Proofs.Ytnabilhcmplhcaa.Oct

theorem copyv_loop (l : List S55) (hl : l.length ≤ 1048576) (hb : ∀ x ∈ l, x.f1.length < 140737488355328) (d : Nat) : ∀ (k i : Nat), i + d = l.length → d < k → catenaryref05_CopyVotes.l0 k (l.take i) l (l.length : Int) (i : Int) = some l := by
  induction d with
  | zero =>
    intro k i h1 h2
    obtain ⟨k, rfl⟩ : ∃ k', k = k' + 1 := ⟨k - 1, by omega⟩
    rw [catenaryref05_CopyVotes.l0, if_neg (by omega), List.take_of_length_le (by omega)]
  | succ d ih =>
    intro k i h1 h2
    obtain ⟨k, rfl⟩ : ∃ k', k = k' + 1 := ⟨k - 1, by omega⟩
    have hi : i < l.length := by omega
    have e : rd_T55 l (i : Int) = l[i] := by simp [rd_T55, List.getD_eq_getElem?_getD, List.getElem?_eq_getElem hi]
    have hx := hb l[i] (List.getElem_mem hi)
    rw [catenaryref05_CopyVotes.l0, if_pos (by omega), if_pos (by omega), if_pos (by omega), Option.bind_some, e, List.nil_append, List.length_nil, Nat.zero_add, if_pos hx, if_pos (by rw [List.length_take]; omega)]
    rw [show wrap64 ((i : Int) + 1) = ((i + 1 : Nat) : Int) by unfold wrap64; omega]
    have := ih k (i + 1) (by omega) (by omega)
    rw [List.take_add_one, List.getElem?_eq_getElem hi] at this
    exact this
def prV (x : S55) : Int × List Int := (x.f0, x.f1)
theorem VC.of_C {w : World} {A : Option Addr} {l : List S55} (h : Kd.C k55 w A l.length l) (ht : ∀ ad, A = some ad → ∃ cells fr, w.heap[ad.block]? = some (.cells cells 55 fr)) : VC w A (l.map prV) := fun i v hi => by
  rw [List.getElem?_map, Option.map_eq_some_iff] at hi
  obtain ⟨x, hx, rfl⟩ := hi
  have hlt := (List.getElem?_eq_some_iff.1 hx).1
  obtain ⟨ad, A1, c1, rfl, h1, h2, h3, h4⟩ := at_T55 h (i : Int) (by omega) (by omega)
  have e : rd_T55 l (i : Int) = x := by simp [rd_T55, List.getD_eq_getElem?_getD, hx]
  rw [e] at h1 h2 h3 h4
  exact ⟨ad, A1, c1, rfl, ht ad rfl, h1, h2, h3, Rd.of_C h4⟩
theorem copyv_calls (A : Option Addr) (c : Nat) (l : List S55) (w : World) (hr : Kd.C k55 w A l.length l) (hc : l.length ≤ c) (hl : l.length ≤ 1048576) (hb : ∀ x ∈ l, x.f1.length < 140737488355328) :
    Calls Try.prog 14 #[.slice A l.length c] w fun e w' => ∃ B d, e = .returned (.slice B l.length d) ∧ l.length ≤ d ∧ VC w' B (l.map prV) ∧ Below w.heap.size w w' := by
  refine (catenaryref05_CopyVotes.calls (l.length + 1) A c l l w hr hc (by
    have := copyv_loop l hl hb l.length (l.length + 1) 0 (by omega) (by omega)
    simpa [catenaryref05_CopyVotes.f] using this)).mono ?_
  rintro e w' ⟨v, rfl, hS, hbel⟩
  obtain ⟨B, d, rfl, hd, hC⟩ := Kd.S_reads hS
  obtain ⟨inner, _, ⟨e, _⟩ | ⟨g, cap, cur, e, _, hg, _⟩⟩ := Kd.S_own hS
  · injection e with e1 e2 e3
    subst e1
    exact ⟨none, d, rfl, hd, VC.of_C hC (fun ad e => by cases e), hbel⟩
  · injection e with e1 e2 e3
    subst e1
    exact ⟨_, d, rfl, hd, VC.of_C hC (fun ad e => by cases e; exact ⟨_, _, hg⟩), hbel⟩
end Go.Proofs.Ytnabilhcmplhcaa.Sha
end
section
/-
  What votes do, told once more: nothing else can come of them; the document's Cut; both Notes, of any kind.
-/
set_option linter.unusedVariables false
set_option linter.unusedSimpArgs false
namespace Go.Proofs.Ytnabilhcmplhcaa.Sha
open Go.RowKit Go.Proofs.YtnabilhcmplhcaaW.PrintWords Go.Proofs.YtnabilhcmplhcaaW.PrintLast Go.Proofs.YtnabilhcmplhcaaW.PrintMore Go.Proofs.Ytnabilhcmplhcaa.Q Go.Proofs.Ytnabilhcmplhcaa.Fr Go.Proofs.Ytnabilhcmplhcaa.Oct

theorem key_same {S : List Sn} (nd : (S.map Sn.key).Nodup) {i j : Nat} {x y : Sn} (hi : S[i]? = some x) (hj : S[j]? = some y) (e : x.key = y.key) : i = j ∧ x = y := by
  have h : (S.map Sn.key)[i]? = (S.map Sn.key)[j]? := by rw [List.getElem?_map, List.getElem?_map, hi, hj, Option.map_some, Option.map_some, e]
  have := (List.getElem?_inj (by have := (List.getElem?_eq_some_iff.1 hi).1; simpa using this) nd).1 h
  subst this
  rw [hi] at hj
  exact ⟨rfl, by simpa using hj⟩
theorem Step.of_wrong {kind view turn slot c s : Int} {op sg : List Int} {S : List Sn} {E : List Ev} {v : Int × List Int} {S' : List Sn} {E' : List Ev} (h : Step kind view turn slot c s op sg S E v S' E') (hv : vrA kind view turn slot (bodyA c s op sg) v.1 v.2 = false) : S' = S ∧ E' = E := by
  unfold Step at h
  rw [hv] at h
  rcases h with ⟨_, h1, h2⟩ | ⟨h, _⟩ | ⟨h, _⟩ | ⟨h, _⟩ | ⟨h, _⟩
  · exact ⟨h1, h2⟩
  all_goals exact absurd h Bool.false_ne_true
theorem Step.of_new {kind view turn slot c s : Int} {op sg : List Int} {S : List Sn} {E : List Ev} {v : Int × List Int} {S' : List Sn} {E' : List Ev} (h : Step kind view turn slot c s op sg S E v S' E') (hv : vrA kind view turn slot (bodyA c s op sg) v.1 v.2 = true) (hn : plK kind view turn slot v.1 ∉ S.map Sn.key) (h8 : S.length < 8192) : S' = S ++ [⟨kind, view, turn, slot, v.1, c, s, op, sg, v.2, false⟩] ∧ E' = E := by
  unfold Step at h
  rw [hv] at h
  rcases h with ⟨h, _⟩ | ⟨_, _, _, h1, h2⟩ | ⟨_, _, h, _⟩ | ⟨_, i, x, hx, hk, _⟩ | ⟨_, i, x, hx, hk, _⟩
  · exact absurd h.symm Bool.false_ne_true
  · exact ⟨h1, h2⟩
  · exact absurd h8 (Nat.not_lt.2 h)
  · exact absurd (List.mem_map.2 ⟨x, List.mem_of_getElem? hx, hk⟩) hn
  · exact absurd (List.mem_map.2 ⟨x, List.mem_of_getElem? hx, hk⟩) hn
theorem Step.of_full {kind view turn slot c s : Int} {op sg : List Int} {S : List Sn} {E : List Ev} {v : Int × List Int} {S' : List Sn} {E' : List Ev} (h : Step kind view turn slot c s op sg S E v S' E') (hv : vrA kind view turn slot (bodyA c s op sg) v.1 v.2 = true) (hn : plK kind view turn slot v.1 ∉ S.map Sn.key) (h8 : 8192 ≤ S.length) : S' = S ∧ E' = E := by
  unfold Step at h
  rw [hv] at h
  rcases h with ⟨h, _⟩ | ⟨_, _, h, _⟩ | ⟨_, _, _, h1, h2⟩ | ⟨_, i, x, hx, hk, _⟩ | ⟨_, i, x, hx, hk, _⟩
  · exact absurd h.symm Bool.false_ne_true
  · exact absurd h (Nat.not_lt.2 h8)
  · exact ⟨h1, h2⟩
  · exact absurd (List.mem_map.2 ⟨x, List.mem_of_getElem? hx, hk⟩) hn
  · exact absurd (List.mem_map.2 ⟨x, List.mem_of_getElem? hx, hk⟩) hn
theorem Step.of_old {kind view turn slot c s : Int} {op sg : List Int} {S : List Sn} {E : List Ev} {v : Int × List Int} {S' : List Sn} {E' : List Ev} (nd : (S.map Sn.key).Nodup) (h : Step kind view turn slot c s op sg S E v S' E') (hv : vrA kind view turn slot (bodyA c s op sg) v.1 v.2 = true) {i : Nat} {x : Sn} (hx : S[i]? = some x) (hk : x.key = plK kind view turn slot v.1) (ht : x.told = true ∨ bodyA x.c x.s x.op x.sg = bodyA c s op sg) : S' = S ∧ E' = E := by
  have hm : plK kind view turn slot v.1 ∈ S.map Sn.key := List.mem_map.2 ⟨x, List.mem_of_getElem? hx, hk⟩
  unfold Step at h
  rw [hv] at h
  rcases h with ⟨h, _⟩ | ⟨_, h, _⟩ | ⟨_, h, _⟩ | ⟨_, _, _, _, _, _, h1, h2⟩ | ⟨_, j, y, hy, hky, h1, h2, _⟩
  · exact absurd h.symm Bool.false_ne_true
  · exact absurd hm h
  · exact absurd hm h
  · exact ⟨h1, h2⟩
  · obtain ⟨_, e⟩ := key_same nd hx hy (hk.trans hky.symm)
    rw [e] at ht
    rcases ht with ht | ht
    · exact absurd (h1.symm.trans ht) Bool.false_ne_true
    · exact absurd ht h2
theorem Step.of_told {kind view turn slot c s : Int} {op sg : List Int} {S : List Sn} {E : List Ev} {v : Int × List Int} {S' : List Sn} {E' : List Ev} (nd : (S.map Sn.key).Nodup) (h : Step kind view turn slot c s op sg S E v S' E') (hv : vrA kind view turn slot (bodyA c s op sg) v.1 v.2 = true) {i : Nat} {x : Sn} (hx : S[i]? = some x) (hk : x.key = plK kind view turn slot v.1) (ht : x.told = false) (hb : bodyA x.c x.s x.op x.sg ≠ bodyA c s op sg) : S' = S.set i { x with told := true } ∧ E' = E ++ [mkEv x c s op sg v.2] := by
  have hm : plK kind view turn slot v.1 ∈ S.map Sn.key := List.mem_map.2 ⟨x, List.mem_of_getElem? hx, hk⟩
  unfold Step at h
  rw [hv] at h
  rcases h with ⟨h, _⟩ | ⟨_, h, _⟩ | ⟨_, h, _⟩ | ⟨_, j, y, hy, hky, h1, _⟩ | ⟨_, j, y, hy, hky, _, _, h1, h2⟩
  · exact absurd h.symm Bool.false_ne_true
  · exact absurd hm h
  · exact absurd hm h
  · obtain ⟨_, e⟩ := key_same nd hx hy (hk.trans hky.symm)
    rw [← e] at h1
    rcases h1 with h1 | h1
    · exact absurd (ht.symm.trans h1) Bool.false_ne_true
    · exact absurd h1 hb
  · obtain ⟨e1, e2⟩ := key_same nd hx hy (hk.trans hky.symm)
    rw [e1, e2]
    exact ⟨h1, h2⟩
theorem Step.det {kind view turn slot c s : Int} {op sg : List Int} {S : List Sn} {E : List Ev} {v : Int × List Int} {S1 S2 : List Sn} {E1 E2 : List Ev} (nd : (S.map Sn.key).Nodup) (h1 : Step kind view turn slot c s op sg S E v S1 E1) (h2 : Step kind view turn slot c s op sg S E v S2 E2) : S1 = S2 ∧ E1 = E2 := by
  rcases h1 with ⟨a, e1, e2⟩ | ⟨a, b, d, e1, e2⟩ | ⟨a, b, d, e1, e2⟩ | ⟨a, i, x, hx, hk, ht, e1, e2⟩ | ⟨a, i, x, hx, hk, ht, hb, e1, e2⟩
  · obtain ⟨g1, g2⟩ := h2.of_wrong a
    exact ⟨e1.trans g1.symm, e2.trans g2.symm⟩
  · obtain ⟨g1, g2⟩ := h2.of_new a b d
    exact ⟨e1.trans g1.symm, e2.trans g2.symm⟩
  · obtain ⟨g1, g2⟩ := h2.of_full a b d
    exact ⟨e1.trans g1.symm, e2.trans g2.symm⟩
  · obtain ⟨g1, g2⟩ := h2.of_old nd a hx hk ht
    exact ⟨e1.trans g1.symm, e2.trans g2.symm⟩
  · obtain ⟨g1, g2⟩ := h2.of_told nd a hx hk ht hb
    exact ⟨e1.trans g1.symm, e2.trans g2.symm⟩
theorem Step.nodup {kind view turn slot c s : Int} {op sg : List Int} {S : List Sn} {E : List Ev} {v : Int × List Int} {S' : List Sn} {E' : List Ev} (nd : (S.map Sn.key).Nodup) (h : Step kind view turn slot c s op sg S E v S' E') : (S'.map Sn.key).Nodup := by
  rcases h with ⟨_, rfl, _⟩ | ⟨_, hn, _, rfl, _⟩ | ⟨_, _, _, rfl, _⟩ | ⟨_, _, _, _, _, _, rfl, _⟩ | ⟨_, i, x, hx, _, _, _, rfl, _⟩
  · exact nd
  · rw [List.map_append]
    refine List.nodup_append.2 ⟨nd, by simp, fun a ha b hb e => ?_⟩
    have e2 : b = plK kind view turn slot v.1 := by simpa [Sn.key] using hb
    rw [e, e2] at ha
    exact hn ha
  · exact nd
  · exact nd
  · rw [tell_keys hx]
    exact nd
theorem Steps.det {kind view turn slot c s : Int} {op sg : List Int} : ∀ {V : List (Int × List Int)} {S : List Sn} {E : List Ev} {S1 S2 : List Sn} {E1 E2 : List Ev}, (S.map Sn.key).Nodup → Steps kind view turn slot c s op sg S E V S1 E1 → Steps kind view turn slot c s op sg S E V S2 E2 → S1 = S2 ∧ E1 = E2
  | [], _, _, _, _, _, _, _, ⟨rfl, rfl⟩, ⟨rfl, rfl⟩ => ⟨rfl, rfl⟩
  | v :: V, S, E, S1, S2, E1, E2, nd, ⟨T1, F1, h1, g1⟩, ⟨T2, F2, h2, g2⟩ => by
    obtain ⟨rfl, rfl⟩ := Step.det nd h1 h2
    exact Steps.det (h1.nodup nd) g1 g2
/-- Evidences are of moderate length. -/
theorem mkEv_ok {x : Sn} (hx : x.ok) {c s : Int} {op sg t : List Int} (lo : op.length + sg.length ≤ 1048576) (bo : Bys op) (bs : Bys sg) (lt : t.length ≤ 1048576) : (mkEv x c s op sg t).ok := by
  unfold mkEv
  split
  · exact ⟨lo, hx.lo, lt, hx.lt, bo, bs, hx.bo, hx.bs⟩
  · exact ⟨hx.lo, lo, hx.lt, lt, hx.bo, hx.bs, bo, bs⟩
theorem Step.evok {kind view turn slot c s : Int} {op sg : List Int} {S : List Sn} {E : List Ev} {v : Int × List Int} {S' : List Sn} {E' : List Ev} (lo : op.length + sg.length ≤ 1048576) (bo : Bys op) (bs : Bys sg) (wk : (Lit.int .i64 kind).wf = true) (wv : (Lit.int .i64 view).wf = true) (wt : (Lit.int .i64 turn).wf = true) (wl : (Lit.int .i64 slot).wf = true) (wi : (Lit.int .i64 v.1).wf = true) (ok : ∀ x ∈ S, x.ok) (eok : ∀ e ∈ E, e.ok) (h : Step kind view turn slot c s op sg S E v S' E') : (∀ x ∈ S', x.ok) ∧ ∀ e ∈ E', e.ok := by
  rcases h with ⟨_, rfl, rfl⟩ | ⟨hv, hn, _, rfl, rfl⟩ | ⟨_, _, _, rfl, rfl⟩ | ⟨_, _, _, _, _, _, rfl, rfl⟩ | ⟨hv, i, x, hx, _, _, _, rfl, rfl⟩
  · exact ⟨ok, eok⟩
  · refine ⟨fun z hz => ?_, eok⟩
    rcases List.mem_append.1 hz with hz | hz
    · exact ok z hz
    · obtain rfl : z = _ := by simpa using hz
      exact ⟨wk, wv, wt, wl, wi, lo, vrA_len hv, bo, bs⟩
  · exact ⟨ok, eok⟩
  · exact ⟨ok, eok⟩
  · refine ⟨tell_ok hx ok, fun z hz => ?_⟩
    rcases List.mem_append.1 hz with hz | hz
    · exact eok z hz
    · obtain rfl : z = _ := by simpa using hz
      exact mkEv_ok (ok x (List.mem_of_getElem? hx)) lo bo bs (vrA_len hv)
theorem Steps.evok {kind view turn slot c s : Int} {op sg : List Int} (lo : op.length + sg.length ≤ 1048576) (bo : Bys op) (bs : Bys sg) (wk : (Lit.int .i64 kind).wf = true) (wv : (Lit.int .i64 view).wf = true) (wt : (Lit.int .i64 turn).wf = true) (wl : (Lit.int .i64 slot).wf = true) : ∀ {V : List (Int × List Int)} {S : List Sn} {E : List Ev} {S' : List Sn} {E' : List Ev}, (∀ v ∈ V, (Lit.int .i64 v.1).wf = true) → (∀ x ∈ S, x.ok) → (∀ e ∈ E, e.ok) → Steps kind view turn slot c s op sg S E V S' E' → ∀ e ∈ E', e.ok
  | [], _, _, _, _, _, _, eok, ⟨rfl, rfl⟩ => eok
  | v :: V, S, E, S', E', hv, ok, eok, ⟨T, F, h, g⟩ => by
    obtain ⟨k1, k2⟩ := h.evok lo bo bs wk wv wt wl (hv v (List.mem_cons_self ..)) ok eok
    exact Steps.evok lo bo bs wk wv wt wl (fun u hu => hv u (List.mem_cons_of_mem _ hu)) k1 k2 g
theorem Steps.few {kind view turn slot c s : Int} {op sg : List Int} : ∀ {V : List (Int × List Int)} {S : List Sn} {E : List Ev} {S' : List Sn} {E' : List Ev}, Steps kind view turn slot c s op sg S E V S' E' → E'.length ≤ E.length + V.length
  | [], _, _, _, _, ⟨rfl, rfl⟩ => by simp
  | v :: V, S, E, S', E', ⟨T, F, h, g⟩ => by
    have h1 := h.len
    have h2 := Steps.few g
    rw [List.length_cons]
    omega
/-- What votes of any kind do. -/
def NoteR (kind view turn slot c s : Int) (op sg : List Int) (S : List Sn) (V : List (Int × List Int)) (S' : List Sn) (E : List Ev) : Prop := (kind = 2 ∨ kind = 3 → Steps kind view turn slot c s op sg S [] V S' E) ∧ (¬ (kind = 2 ∨ kind = 3) → S' = S ∧ E = [])
theorem NoteR.det {kind view turn slot c s : Int} {op sg : List Int} {S : List Sn} {V : List (Int × List Int)} {S1 S2 : List Sn} {E1 E2 : List Ev} (nd : (S.map Sn.key).Nodup) (h1 : NoteR kind view turn slot c s op sg S V S1 E1) (h2 : NoteR kind view turn slot c s op sg S V S2 E2) : S1 = S2 ∧ E1 = E2 := by
  by_cases hk : kind = 2 ∨ kind = 3
  · exact Steps.det nd (h1.1 hk) (h2.1 hk)
  · obtain ⟨rfl, rfl⟩ := h1.2 hk
    obtain ⟨rfl, rfl⟩ := h2.2 hk
    exact ⟨rfl, rfl⟩
theorem ER.fr {w w' : World} {A : Option Addr} {E : List Ev} (h : ER w A E) (hf : Fr (fun _ => False) w w') : ER w' A E := fun j e hj => by
  obtain ⟨ad, c, h1, h2, h3, h4⟩ := h j e hj
  exact ⟨ad, c, h1, h2, h3.fr hf, fun k u hu => ⟨hf.cell (h4 k u hu).1 (fun h => h), (h4 k u hu).2⟩⟩
theorem ER.nil (w : World) (A : Option Addr) : ER w A [] := fun j e h => by simp at h
/-- The list is read where the ledger is written. -/
theorem LdAt.wr {w w' : World} {base gl bm : Nat} {D : DataW Unit} {L : List Sn} {Bs : List Nat} (h : LdAt w base gl bm D L Bs) {A : Option Addr} {S : List Sn} (hw : WR w A S) (ok : ∀ x ∈ S, x.ok) (hf : Fr (LF bm Bs) w w') : WR w' A S := by
  refine ⟨?_, fun ad e => ?_⟩
  · obtain ⟨cs, h1, h2, h3⟩ := hw.cells
    have hlen := len_of h1 h2
    refine ⟨by rw [List.length_map], by have := hw.C.2.1; exact this, fun hn => ?_⟩
    obtain ⟨ad, e, _⟩ := hw.C.2.2 hn
    refine ⟨ad, e, fun j p hj => ?_⟩
    rw [List.getElem?_map, Option.map_eq_some_iff] at hj
    obtain ⟨x, hx, rfl⟩ := hj
    have hjl := (List.getElem?_eq_some_iff.1 hx).1
    have hcj : cs[j]? = some (cs[j]'(by rw [h1]; exact hjl)) := List.getElem?_eq_getElem (by rw [h1]; exact hjl)
    obtain ⟨X1, e1, X2, e2, X3, e3, ec, r1, r2, r3⟩ := h2 j x _ hx hcj
    have hs : SnIs w' (cs[j]'(by rw [h1]; exact hjl)) x := ⟨X1, e1, X2, e2, X3, e3, ec, ⟨r1.1, h.rd r1.2 hf⟩, ⟨r2.1, h.rd r2.2 hf⟩, ⟨r3.1, h.rd r3.2 hf⟩⟩
    refine ⟨_, hs.len, hs.K (ok x (List.mem_of_getElem? hx)), fun i u hu => ?_⟩
    have hi : i < 11 := by rw [← hs.len]; exact (List.getElem?_eq_some_iff.1 hu).1
    obtain ⟨ad', e', hc⟩ := h3 (j * 11 + i) u (by rw [flat_get hlen hcj hi]; exact hu)
    rw [e] at e'
    injection e' with e'
    subst e'
    obtain ⟨cells, fr, ht⟩ := hw.ty ad e
    refine hf.cell hc (fun hk => ?_)
    rw [addr_block] at hk
    have := (h.lf_type hk ht).1
    cases this
  · obtain ⟨cells, fr, ht⟩ := hw.ty ad e
    refine ⟨cells, fr, hf.blk ht (fun hk => ?_)⟩
    have := (h.lf_type hk ht).1
    cases this
set_option maxRecDepth 100000 in
theorem fm25 {a : Act} (h : Fm 25 a) : a = ⟨#[sl a 0, sl a 1, sl a 2, sl a 3, sl a 4, sl a 5, sl a 6, sl a 7, sl a 8, sl a 9, sl a 10, sl a 11, sl a 12, sl a 13, sl a 14, sl a 15, sl a 16, sl a 17, sl a 18, sl a 19, sl a 20, sl a 21, sl a 22, sl a 23, sl a 24], []⟩ := by
  obtain ⟨T, D⟩ := a
  obtain ⟨h1, h2⟩ := h
  obtain rfl : D = [] := h2
  obtain ⟨l⟩ := T
  have h1 : l.length = 25 := h1
  congr 2
  refine List.ext_getElem? fun i => ?_
  by_cases hi : i < 25
  · have hx : ∀ j, j < 25 → l[j]? = some (sl ⟨⟨l⟩, []⟩ j) := fun j hj => by
      have hl : j < l.length := by omega
      simp [sl, Array.getD_eq_getD_getElem?, List.getElem?_eq_getElem hl]
    rw [hx i hi]
    have : ∀ (s : Nat → Value) (i : Nat), i < 25 → ((List.range 25).map s)[i]? = some (s i) := fun s i hi => by simp [hi]
    exact (this _ i hi).symm
  · have h2 : ∀ (s : Nat → Value), ((List.range 25).map s)[i]? = none := fun s => by simp; omega
    exact (List.getElem?_eq_none (by omega)).trans (h2 _).symm
set_option maxHeartbeats 8000000 in
set_option maxRecDepth 100000 in
theorem roundCu (u : Nat → Value) (A : Option Addr) (c : Nat) (S : List Sn) (j : Nat) (x : Sn) (hx : S[j]? = some x) (hS : S.length ≤ 1048576) (slot : Int) (w W : World) (hW : WR w A S) (hf : Fr (fun _ => False) w W) (l : Value) (L : List Sn) (hL : L.length < 1048576) (hlr : LRow W w w.heap.size l L)
    (Q : Exit → Act → World → Prop) (hQ : ∀ a' W' l', Fm 25 a' → sl a' 1 = .int .i64 slot → sl a' 5 = l' → sl a' 9 = .slice A S.length c → sl a' 10 = .int .i64 (S.length : Int) → sl a' 11 = .int .i64 ((j : Int) + 1) → Fr (fun _ => False) w W' → LRow W' w w.heap.size l' (L ++ [x].filter fun x => decide (slot < x.slot)) → Q .normal a' W') :
    Code.wp Try.prog (bodyN Try.f11 0) Q ⟨#[u 0, .int .i64 slot, u 2, u 3, u 4, l, u 6, u 7, u 8, .slice A S.length c, .int .i64 (S.length : Int), .int .i64 (j : Int), u 12, u 13, u 14, u 15, u 16, u 17, u 18, u 19, u 20, u 21, u 22, u 23, u 24], []⟩ W := by
  obtain ⟨ad, X1, e1, X2, e2, X3, e3, rfl, hc, hsn⟩ := hW.elem hx
  obtain ⟨x0, x1, x2, x3, x4, x5, x6, x7, x8, x9, x10⟩ := hc
  replace x0 := hf.cell x0 (fun h => h)
  replace x1 := hf.cell x1 (fun h => h)
  replace x2 := hf.cell x2 (fun h => h)
  replace x3 := hf.cell x3 (fun h => h)
  replace x4 := hf.cell x4 (fun h => h)
  replace x5 := hf.cell x5 (fun h => h)
  replace x6 := hf.cell x6 (fun h => h)
  replace x7 := hf.cell x7 (fun h => h)
  replace x8 := hf.cell x8 (fun h => h)
  replace x9 := hf.cell x9 (fun h => h)
  replace x10 := hf.cell x10 (fun h => h)
  have hj := (List.getElem?_eq_some_iff.1 hx).1
  obtain ⟨n, hn⟩ : ∃ n, S.length = n := ⟨_, rfl⟩
  rw [hn] at hj hS hQ ⊢
  have b0 : decide ((j : Int) < (n : Int)) = true := decide_eq_true (by omega)
  have b1 : (0 : Int) ≤ (j : Int) := by omega
  have b2 : (j : Int) < (n : Int) := by omega
  have b5 : wrap64 ((j : Int) + 1) = (j : Int) + 1 := by unfold wrap64; omega
  have B5 := Aside0.mk b5
  have HQ := Aside0.mk hQ
  have HS := Aside0.mk (And.intro hf (And.intro hlr (And.intro hsn hL)))
  clear b5 hQ hW hx hn hj hS hf hlr hsn hL
  conv => arg 2; whnf
  go_wp2_with (first | ((with_reducible refine gate_dst (N := 7) rfl ?_); refine wpList_alloc_abs (by rfl) 71 (by rfl) (.agg Z11) (by kernel_rfl) ?_; intro w2 hb2 hs2 hg2) | ((with_reducible refine gate_store (p := 7) rfl ?_); refine Aside0.out ?_))
  refine ⟨?_⟩
  refine wpList_store_abs (by rfl) 71 _ _ (by rfl) W.heap.size #[.int .i64 x.kind, .int .i64 x.slot, .int .i64 x.signer, .int .i64 x.view, .int .i64 x.turn, .int .i64 x.c, .int .i64 x.s, .slice X1 x.op.length e1, .slice X2 x.sg.length e2, .slice X3 x.t.length e3, .bool x.told] (by rfl) (by rfl) 71 Z11 hg2 (by kernel_rfl) (by rfl) (by simp [Value.oneCell']) ?_
  intro w3 hf3 hs3 hg3
  have F3 : Fr (fun _ => False) W w3 := (Fr.of_below hb2 (fun _ => False)).trans hf3 (fun k hk => .inr (by omega))
  have y : w3.cell? ⟨W.heap.size, 0, none⟩ = some (.int .i64 x.kind) ∧ w3.cell? ⟨W.heap.size, 1, none⟩ = some (.int .i64 x.slot) ∧ w3.cell? ⟨W.heap.size, 2, none⟩ = some (.int .i64 x.signer) ∧ w3.cell? ⟨W.heap.size, 3, none⟩ = some (.int .i64 x.view) ∧ w3.cell? ⟨W.heap.size, 4, none⟩ = some (.int .i64 x.turn) ∧ w3.cell? ⟨W.heap.size, 5, none⟩ = some (.int .i64 x.c) ∧ w3.cell? ⟨W.heap.size, 6, none⟩ = some (.int .i64 x.s) ∧ w3.cell? ⟨W.heap.size, 7, none⟩ = some (.slice X1 x.op.length e1) ∧ w3.cell? ⟨W.heap.size, 8, none⟩ = some (.slice X2 x.sg.length e2) ∧ w3.cell? ⟨W.heap.size, 9, none⟩ = some (.slice X3 x.t.length e3) ∧ w3.cell? ⟨W.heap.size, 10, none⟩ = some (.bool x.told) := by simp [World.cell?, hg3]
  obtain ⟨y0, y1, y2, y3, y4, y5, y6, y7, y8, y9, y10⟩ := y
  have HF := Aside0.mk (And.intro (HS.out.1.trans F3 (fun _ h => h.elim)) (HS.out.2.1.fr F3))
  clear hb2 hs2 hg2 hf3 hs3 hg3 F3 x0 x1 x2 x3 x4 x5 x6 x7 x8 x9 x10
  by_cases hd : slot < x.slot
  · have c1 : decide (slot < x.slot) = true := decide_eq_true hd
    have HD := Aside0.mk hd
    clear hd
    go_wp2_with (first | ((with_reducible refine gate_builtin (b := .append) (xs := #[.tmp 19, .tmp 21]) rfl ?_); at_builtin; refine Aside0.out ?_))
    refine ⟨?_⟩
    have hg7 := heap_alloc_new w3 (.cells #[.int .i64 x.kind, .int .i64 x.slot, .int .i64 x.signer, .int .i64 x.view, .int .i64 x.turn, .int .i64 x.c, .int .i64 x.s, .slice X1 x.op.length e1, .slice X2 x.sg.length e2, .slice X3 x.t.length e3, .bool x.told] 71)
    have f7 := Fr.of_below (below_alloc (Below.refl w3.heap.size w3) (.cells #[.int .i64 x.kind, .int .i64 x.slot, .int .i64 x.signer, .int .i64 x.view, .int .i64 x.turn, .int .i64 x.c, .int .i64 x.s, .slice X1 x.op.length e1, .slice X2 x.sg.length e2, .slice X3 x.t.length e3, .bool x.told] 71)) (fun _ => False)
    generalize w3.alloc (.cells #[.int .i64 x.kind, .int .i64 x.slot, .int .i64 x.signer, .int .i64 x.view, .int .i64 x.turn, .int .i64 x.c, .int .i64 x.s, .slice X1 x.op.length e1, .slice X2 x.sg.length e2, .slice X3 x.t.length e3, .bool x.told] 71) = w7 at *
    obtain ⟨css, h1, hq, h3⟩ := HF.out.2
    refine wpList_append_seen rfl (by rfl) w.heap.size _ _ (by rfl) _ L.length css.flatten (by rfl) (row_fr0 hq f7) (some ⟨w3.heap.size, 0, none⟩) 1 1 [.int .i64 x.kind, .int .i64 x.slot, .int .i64 x.signer, .int .i64 x.view, .int .i64 x.turn, .int .i64 x.c, .int .i64 x.s, .slice X1 x.op.length e1, .slice X2 x.sg.length e2, .slice X3 x.t.length e3, .bool x.told] (by rfl) rfl (fun j u hu => ⟨_, rfl, by
      rw [add_at, Nat.zero_add]
      simp only [World.cell?, hg7]
      simpa using hu⟩) (by simp [Value.oneCell']) (by have := HS.out.2.2.2; omega) (HF.out.1.trans f7 (fun _ h => h.elim)).size ?_
    intro v8 w8 hq8 hf8
    have hlr8 := LRow.snoc h1 h3 HS.out.2.2.1 hq8
    have F8 : Fr (fun _ => False) w w8 := (HF.out.1.trans f7 (fun _ h => h.elim)).trans hf8 (fun k hk => .inr (row_type hq k hk.symm).1)
    have H8 := Aside0.mk (And.intro F8 hlr8)
    clear hlr8 F8 hq8 hf8 hg7 f7 HF hq h1 h3 y0 y1 y2 y3 y4 y5 y6 y7 y8 y9 y10
    go_wp2
    refine HQ.out _ _ v8 ⟨rfl, rfl⟩ rfl rfl rfl rfl (congrArg (Value.int .i64) B5.out) H8.out.1 ?_
    rw [List.filter_cons, if_pos (by simpa using HD.out)]
    exact H8.out.2
  · have c1 : decide (slot < x.slot) = false := decide_eq_false hd
    have HD := Aside0.mk hd
    clear hd
    go_wp2
    refine HQ.out _ _ l ⟨rfl, rfl⟩ rfl rfl rfl rfl (congrArg (Value.int .i64) B5.out) HF.out.1 ?_
    rw [List.filter_cons, if_neg (by simpa using HD.out), List.filter_nil, List.append_nil]
    exact HF.out.2
set_option maxHeartbeats 8000000 in
set_option maxRecDepth 100000 in
theorem exitCu (u : Nat → Value) (n : Nat) (w : World) (Q : Exit → Act → World → Prop) (hQ : ∀ a', Fm 25 a' → sl a' 5 = u 5 → Q (.exit 0) a' w) :
    Code.wp Try.prog (bodyN Try.f11 0) Q ⟨#[u 0, u 1, u 2, u 3, u 4, u 5, u 6, u 7, u 8, u 9, .int .i64 (n : Int), .int .i64 (n : Int), u 12, u 13, u 14, u 15, u 16, u 17, u 18, u 19, u 20, u 21, u 22, u 23, u 24], []⟩ w := by
  have c0 : decide ((n : Int) < (n : Int)) = false := by simp
  have HQ := Aside0.mk hQ
  clear hQ
  conv => arg 2; whnf
  go_wp2
  exact HQ.out _ ⟨rfl, rfl⟩ rfl
set_option maxHeartbeats 8000000 in
set_option maxRecDepth 100000 in
/-- The document's Cut. -/
theorem rcut_calls (slot : Int) (S : List Sn) (hS : S.length ≤ 1048576) (ok : ∀ x ∈ S, x.ok) (A : Option Addr) (c : Nat) (w : World) (h : WR w A S) (hc : S.length ≤ c) :
    Calls Try.prog 11 #[.slice A S.length c, .int .i64 slot] w fun e w' => ∃ A1 c1, e = .returned (.slice A1 (S.filter fun x => decide (slot < x.slot)).length c1) ∧ (S.filter fun x => decide (slot < x.slot)).length ≤ c1 ∧ WR w' A1 (S.filter fun x => decide (slot < x.slot)) ∧ Below w.heap.size w w' := by
  have HX := Aside0.mk (And.intro h (And.intro ok hS))
  clear h ok hS hc
  go_enter Try.func11, Try.ntmps11
  go_wp2_with (fail)
  have hq2 := World.ownsRow_lit (base := w.heap.size) (e := 71) (size := 11) w #[] 0 (Nat.le_refl _) (by decide) (by simp)
  have f2 := (Fr.refl (fun _ => False) w).alloc (.cells #[] 71)
  generalize w.alloc (.cells #[] 71) = w2 at *
  refine wp_loop_up S.length (fun (t : Nat) (a : Act) (W : World) => Fm 25 a ∧ sl a 1 = .int .i64 slot ∧ sl a 9 = .slice A S.length c ∧ sl a 10 = .int .i64 (S.length : Int) ∧ sl a 11 = .int .i64 (t : Int) ∧ Fr (fun _ => False) w W ∧ LRow W w w.heap.size (sl a 5) ((S.take t).filter fun x => decide (slot < x.slot))) ⟨⟨rfl, rfl⟩, rfl, rfl, rfl, rfl, f2, [], rfl, hq2, fun j x c h => by simp at h⟩ ?_
  rintro t a W ht ⟨hF, h1, h9, h10, h11, hf, hlr⟩
  have ha := fm25 hF
  by_cases h64 : t = S.length
  · subst h64
    rw [h10, h11] at ha
    rw [ha]
    refine exitCu (sl a) _ W _ fun a' b0 b5 => ?_
    rw [List.take_length] at hlr
    have hle := List.length_filter_le (fun y : Sn => decide (slot < y.slot)) S
    obtain ⟨A1, c1, e5, hc1, hw1⟩ := hlr.wr hf (fun z hz => HX.out.2.1 z (List.mem_filter.1 hz).1) (by have := HX.out.2.2; omega)
    rw [fm25 b0, b5, e5]
    have H9 := Aside0.mk (And.intro hw1 hf)
    clear hf hlr ha b0 b5 e5 hF hw1 f2 hq2 hle h1 h9 h10 h11
    go_wp2
    go_ret
    exact ⟨A1, c1, rfl, hc1, H9.out.1, frB H9.out.2⟩
  · obtain ⟨l, h5⟩ : ∃ l, sl a 5 = l := ⟨_, rfl⟩
    rw [h5] at hlr
    rw [h1, h5, h9, h10, h11] at ha
    rw [ha]
    have hi : t < S.length := by omega
    have hx : S[t]? = some S[t] := List.getElem?_eq_getElem hi
    have hle := List.length_filter_le (fun y : Sn => decide (slot < y.slot)) (S.take t)
    rw [List.length_take] at hle
    refine roundCu (sl a) A c S t S[t] hx HX.out.2.2 slot w W HX.out.1 hf l _ (by have := HX.out.2.2; omega) hlr _ ?_
    intro a' W' l' b0 b1 b5 b9 b10 b11 bf bl
    refine ⟨hi, b0, b1, b9, b10, by rw [b11]; rfl, bf, ?_⟩
    rw [b5, List.take_add_one, hx, List.filter_append]
    exact bl
end Go.Proofs.Ytnabilhcmplhcaa.Sha
end
