/-
  LedgerCuts.
-/
import Derived.Test.YtnabilhcmplhcaaLgM4
import Derived.Test.YtnabilhcmplhcaaLdY
import Derived.Test.YtnabilhcmplhcaaLdC
import Derived.Test.YtnabilhcmplhcaaLdA
set_option linter.unusedVariables false
set_option linter.unusedSimpArgs false
namespace Go.Proofs.Ytnabilhcmplhcaa.Sha
open Go.RowKit Go.Proofs.YtnabilhcmplhcaaW.PrintWords Go.Proofs.YtnabilhcmplhcaaW.PrintLast Go.Proofs.YtnabilhcmplhcaaW.PrintMore Go.Proofs.Ytnabilhcmplhcaa.Q Go.Proofs.Ytnabilhcmplhcaa.Fr Go.Proofs.Ytnabilhcmplhcaa.Oct
open Go.Maps Go.ChangeMaps
open Go.Proofs.Ytnabilhcmplhcaa.Open (okR)

/-- A second vote of an untold place for another request is told. -/
theorem steps_told {kind view turn slot c s : Int} {op sg : List Int} {S : List Sn} {v : Int × List Int} {S' : List Sn} {E : List Ev} (h : Steps kind view turn slot c s op sg S [] [v] S' E) (hr : vrA kind view turn slot (bodyA c s op sg) v.1 v.2 = true) (hn : (S.map Sn.key).Nodup) {i : Nat} {x : Sn} (hx : S[i]? = some x) (hk : x.key = plK kind view turn slot v.1) (ht : x.told = false) (hb : bodyA x.c x.s x.op x.sg ≠ bodyA c s op sg) : S' = S.set i { x with told := true } ∧ E = [mkEv x c s op sg v.2] := by
  have hm : plK kind view turn slot v.1 ∈ S.map Sn.key := by rw [← hk]; exact List.mem_map.2 ⟨x, List.mem_of_getElem? hx, rfl⟩
  have same : ∀ (j : Nat) (y : Sn), S[j]? = some y → y.key = plK kind view turn slot v.1 → j = i ∧ y = x := fun j y hy hky => by
    have hj := (List.getElem?_eq_some_iff.1 hy).1
    have e : (S.map Sn.key)[j]? = (S.map Sn.key)[i]? := by rw [List.getElem?_map, List.getElem?_map, hy, hx, Option.map_some, Option.map_some, hk, hky]
    have := (List.getElem?_inj (by simpa using hj) hn).1 e
    subst this
    rw [hx] at hy
    exact ⟨rfl, by simpa using hy.symm⟩
  obtain ⟨S1, E1, h1, rfl, rfl⟩ := h
  rcases h1 with ⟨h, _⟩ | ⟨_, h, _⟩ | ⟨_, h, _⟩ | ⟨_, j, y, hy, hky, h, _⟩ | ⟨_, j, y, hy, hky, h1, h2, h3, h4⟩
  · rw [hr] at h; cases h
  · exact absurd hm h
  · exact absurd hm h
  · obtain ⟨rfl, rfl⟩ := same j y hy hky
    rcases h with h | h
    · rw [ht] at h; cases h
    · exact absurd h hb
  · obtain ⟨rfl, rfl⟩ := same j y hy hky
    exact ⟨h3, h4⟩
theorem steps_put' {kind view turn slot c s : Int} {op sg : List Int} {S : List Sn} {v : Int × List Int} {S' : List Sn} {E : List Ev} (h : Steps kind view turn slot c s op sg S [] [v] S' E) (hr : vrA kind view turn slot (bodyA c s op sg) v.1 v.2 = true) (hn : plK kind view turn slot v.1 ∉ S.map Sn.key) (hl : S.length < 8192) : S' = S ++ [⟨kind, view, turn, slot, v.1, c, s, op, sg, v.2, false⟩] ∧ E = [] := by
  obtain ⟨S1, E1, h1, rfl, rfl⟩ := h
  rcases h1 with ⟨h, _⟩ | ⟨_, _, _, h2, h3⟩ | ⟨_, _, h, _⟩ | ⟨_, i, x, hi, hk, _⟩ | ⟨_, i, x, hi, hk, _⟩
  · rw [hr] at h; cases h
  · exact ⟨h2, h3⟩
  · omega
  · exact absurd (List.mem_map.2 ⟨x, List.mem_of_getElem? hi, hk⟩) hn
  · exact absurd (List.mem_map.2 ⟨x, List.mem_of_getElem? hi, hk⟩) hn
def Z2i : Array Value := #[.int .i64 0, .int .i64 0]
set_option maxHeartbeats 8000000 in
set_option maxRecDepth 100000 in
theorem cuts_row (view turn s0 s1 : Int) (x y : S31) (A1 : Option Addr) (c1 : Nat) (A2 : Option Addr) (c2 : Nat) (A3 : Option Addr) (c3 : Nat) (A4 : Option Addr) (c4 : Nat) (w : World) (g1 : x.f2.length ≤ c1 ∧ (Kd.int .u8).C w A1 x.f2.length x.f2) (g2 : x.f3.length ≤ c2 ∧ (Kd.int .u8).C w A2 x.f3.length x.f3) (g3 : y.f2.length ≤ c3 ∧ (Kd.int .u8).C w A3 y.f2.length y.f2) (g4 : y.f3.length ≤ c4 ∧ (Kd.int .u8).C w A4 y.f3.length y.f3)
    (wv : (Lit.int .i64 view).wf = true) (wt : (Lit.int .i64 turn).wf = true) (w0 : (Lit.int .i64 s0).wf = true) (w1 : (Lit.int .i64 s1).wf = true) (okx : okR x) (oky : okR y) (hB : x.f2.length + x.f3.length + (y.f2.length + y.f3.length) ≤ 1048576) :
    Calls Try.prog 4 #[.agg #[.int .i64 view, .int .i64 turn], .agg #[.int .i64 s0, .int .i64 s1], .agg #[.int .i64 x.f0, .int .i64 x.f1, .slice A1 x.f2.length c1, .slice A2 x.f3.length c2, .int .i64 y.f0, .int .i64 y.f1, .slice A3 y.f2.length c3, .slice A4 y.f3.length c4]] w fun e w' => e = .returned (.bool true) ∧ Below w.heap.size w w' := by
  have HW := Aside0.mk (And.intro wv (And.intro wt w0))
  have HX := Aside0.mk (And.intro (Rd.of_C g1.2) (And.intro (Rd.of_C g2.2) (And.intro g1.1 (And.intro g2.1 (And.intro (show x.f2.length + x.f3.length ≤ 1048576 by omega) (And.intro okx.2.2.1 okx.2.2.2))))))
  have HY := Aside0.mk (And.intro (Rd.of_C g3.2) (And.intro (Rd.of_C g4.2) (And.intro g3.1 (And.intro g4.1 (And.intro (show y.f2.length + y.f3.length ≤ 1048576 by omega) (And.intro oky.2.2.1 oky.2.2.2))))))
  have HO := Aside0.mk (And.intro okx.1 (And.intro okx.2.1 (And.intro oky.1 oky.2.1)))
  have h12 := heap_alloc_new w (.cells #[.int .i64 view, .int .i64 turn] 28)
  have h22 := heap_alloc_new (w.alloc (.cells #[.int .i64 view, .int .i64 turn] 28)) (.cells #[.int .i64 s0, .int .i64 s1] 51)
  have h32 := heap_alloc_new ((w.alloc (.cells #[.int .i64 view, .int .i64 turn] 28)).alloc (.cells #[.int .i64 s0, .int .i64 s1] 51)) (.cells #[.int .i64 x.f0, .int .i64 x.f1, .slice A1 x.f2.length c1, .slice A2 x.f3.length c2, .int .i64 y.f0, .int .i64 y.f1, .slice A3 y.f2.length c3, .slice A4 y.f3.length c4] 52)
  have f1 : Fr (fun _ => False) w (w.alloc (.cells #[.int .i64 view, .int .i64 turn] 28)) := (Fr.refl _ _).alloc _
  have f2 : Fr (fun _ => False) (w.alloc (.cells #[.int .i64 view, .int .i64 turn] 28)) ((w.alloc (.cells #[.int .i64 view, .int .i64 turn] 28)).alloc (.cells #[.int .i64 s0, .int .i64 s1] 51)) := (Fr.refl _ _).alloc _
  have f3 : Fr (fun _ => False) ((w.alloc (.cells #[.int .i64 view, .int .i64 turn] 28)).alloc (.cells #[.int .i64 s0, .int .i64 s1] 51)) (((w.alloc (.cells #[.int .i64 view, .int .i64 turn] 28)).alloc (.cells #[.int .i64 s0, .int .i64 s1] 51)).alloc (.cells #[.int .i64 x.f0, .int .i64 x.f1, .slice A1 x.f2.length c1, .slice A2 x.f3.length c2, .int .i64 y.f0, .int .i64 y.f1, .slice A3 y.f2.length c3, .slice A4 y.f3.length c4] 52)) := (Fr.refl _ _).alloc _
  rw [World.size_alloc] at h22
  rw [World.size_alloc, World.size_alloc] at h32
  clear g1 g2 g3 g4 wv wt w0 w1 okx oky hB
  go_enter Try.func4, Try.ntmps4
  go_wp2_with (fail)
  have H1 := Aside0.mk (And.intro ((f2.trans f3 (fun _ e => e.elim)).blk h12 (fun e => e)) (And.intro (f3.blk h22 (fun e => e)) (And.intro h32 ((f1.trans f2 (fun _ e => e.elim)).trans f3 (fun _ e => e.elim)))))
  clear h12 h22 h32 f1 f2 f3
  generalize ((w.alloc (.cells #[.int .i64 view, .int .i64 turn] 28)).alloc (.cells #[.int .i64 s0, .int .i64 s1] 51)).alloc (.cells #[.int .i64 x.f0, .int .i64 x.f1, .slice A1 x.f2.length c1, .slice A2 x.f3.length c2, .int .i64 y.f0, .int .i64 y.f1, .slice A3 y.f2.length c3, .slice A4 y.f3.length c4] 52) = w1 at *
  obtain ⟨gr, hgr⟩ : ∃ g, w.heap.size + 1 + 1 = g := ⟨_, rfl⟩
  obtain ⟨gi, hgi⟩ : ∃ g, w.heap.size + 1 = g := ⟨_, rfl⟩
  obtain ⟨gb, hgb⟩ : ∃ g, w.heap.size = g := ⟨_, rfl⟩
  rw [hgr, hgi, hgb] at H1
  have hgr2 : w.heap.size + 2 = gr := hgr
  (try simp only [hgr]); (try simp only [hgr2]); (try simp only [hgi]); (try simp only [hgb])
  clear hgr hgr2 hgi hgb
  refine (lalive_calls w1).mono ?_
  rintro e w2 ⟨rfl, hb2⟩
  have f2 := Fr.of_below hb2 (fun _ => False)
  have H2 := Aside0.mk (And.intro (f2.blk H1.out.1 (fun e => e)) (And.intro (f2.blk H1.out.2.1 (fun e => e)) (And.intro (f2.blk H1.out.2.2.1 (fun e => e)) (H1.out.2.2.2.trans f2 (fun _ e => e.elim)))))
  clear hb2 f2 H1
  have z : w2.cell? ⟨gr, 0, none⟩ = some (.int .i64 x.f0) ∧ w2.cell? ⟨gr, 1, none⟩ = some (.int .i64 x.f1) ∧ w2.cell? ⟨gr, 2, none⟩ = some (.slice A1 x.f2.length c1) ∧ w2.cell? ⟨gr, 3, none⟩ = some (.slice A2 x.f3.length c2) ∧ w2.cell? ⟨gr, 4, none⟩ = some (.int .i64 y.f0) ∧ w2.cell? ⟨gr, 5, none⟩ = some (.int .i64 y.f1) ∧ w2.cell? ⟨gr, 6, none⟩ = some (.slice A3 y.f2.length c3) ∧ w2.cell? ⟨gr, 7, none⟩ = some (.slice A4 y.f3.length c4) := by simp [World.cell?, H2.out.2.2.1]
  obtain ⟨z0, z1, z2, z3, z4, z5, z6, z7⟩ := z
  go_wp2_with (fail)
  refine (samer_calls x.f0 x.f1 A1 c1 x.f2 A2 c2 x.f3 y.f0 y.f1 A3 c3 y.f2 A4 c4 y.f3 w2 (HX.out.1.lies H2.out.2.2.2) HX.out.2.2.1 (HX.out.2.1.lies H2.out.2.2.2) HX.out.2.2.2.1 HX.out.2.2.2.2.1 (HY.out.1.lies H2.out.2.2.2) HY.out.2.2.1 (HY.out.2.1.lies H2.out.2.2.2) HY.out.2.2.2.1 HY.out.2.2.2.2.1 HX.out.2.2.2.2.2.1 HX.out.2.2.2.2.2.2 HY.out.2.2.2.2.2.1 HY.out.2.2.2.2.2.2).mono ?_
  rintro e w3 ⟨rfl, hb3⟩
  have f3 := Fr.of_below hb3 (fun _ => False)
  have H3 := Aside0.mk (And.intro (f3.blk H2.out.1 (fun e => e)) (And.intro (f3.blk H2.out.2.1 (fun e => e)) (And.intro (f3.blk H2.out.2.2.1 (fun e => e)) (H2.out.2.2.2.trans f3 (fun _ e => e.elim)))))
  clear hb3 f3 H2 z0 z1 z2 z3 z4 z5 z6 z7
  by_cases hsr : sameR x.f0 x.f1 x.f2 x.f3 y.f0 y.f1 y.f2 y.f3 = true
  · rw [hsr]
    clear hsr
    go_wp2
    go_ret
    exact ⟨rfl, frB H3.out.2.2.2⟩
  have hsr : sameR x.f0 x.f1 x.f2 x.f3 y.f0 y.f1 y.f2 y.f3 = false := by simpa using hsr
  have hne : bodyA x.f0 x.f1 x.f2 x.f3 ≠ bodyA y.f0 y.f1 y.f2 y.f3 := fun e => by
    obtain ⟨e1, e2, e3, e4⟩ := bodyA_inj HO.out.1 HO.out.2.1 HO.out.2.2.1 HO.out.2.2.2 HX.out.2.2.2.2.1 HY.out.2.2.2.2.1 e
    rw [sameR, decide_eq_true ⟨e1, e2, e3, e4⟩] at hsr
    cases hsr
  rw [hsr]
  have HNE := Aside0.mk hne
  clear hsr hne
  go_wp2_with (fail)
  refine (lnew_calls w3).mono ?_
  rintro e w5 ⟨gl, bm, rfl, hL5, hb5⟩
  have f5 := Fr.of_below hb5 (fun _ => False)
  have H5 := Aside0.mk (And.intro (f5.blk H3.out.1 (fun e => e)) (And.intro (f5.blk H3.out.2.1 (fun e => e)) (And.intro (f5.blk H3.out.2.2.1 (fun e => e)) (H3.out.2.2.2.trans f5 (fun _ e => e.elim)))))
  have HD := Aside0.mk hL5
  have HG := Aside0.mk f5.size
  have HZs := Aside0.mk H3.out.2.2.2.size
  have HR := Aside0.mk (And.intro (HX.out.1.lies H5.out.2.2.2) (And.intro (HX.out.2.1.lies H5.out.2.2.2) HX.out.2.2))
  clear hL5 hb5 f5 H3
  obtain ⟨base, hbase⟩ : ∃ b, w3.heap.size = b := ⟨_, rfl⟩
  rw [hbase] at HD HG HZs
  clear hbase
  obtain ⟨Bs, hBs⟩ : ∃ Bs : List Nat, [] = Bs := ⟨_, rfl⟩
  rw [hBs] at HD
  clear hBs
  go_wp2_with (fail)
  have hS : ∀ w', Fr (fun _ => False) w5 w' → w'.cell? ⟨gb, 0, none⟩ = some (.int .i64 view) ∧ w'.cell? ⟨gb, 1, none⟩ = some (.int .i64 turn) ∧ w'.cell? ⟨gi, 0, none⟩ = some (.int .i64 s0) ∧ w'.cell? ⟨gi, 1, none⟩ = some (.int .i64 s1) ∧ w'.cell? ⟨gr, 0, none⟩ = some (.int .i64 x.f0) ∧ w'.cell? ⟨gr, 1, none⟩ = some (.int .i64 x.f1) ∧ w'.cell? ⟨gr, 2, none⟩ = some (.slice A1 x.f2.length c1) ∧ w'.cell? ⟨gr, 3, none⟩ = some (.slice A2 x.f3.length c2) ∧ w'.cell? ⟨gr, 4, none⟩ = some (.int .i64 y.f0) ∧ w'.cell? ⟨gr, 5, none⟩ = some (.int .i64 y.f1) ∧ w'.cell? ⟨gr, 6, none⟩ = some (.slice A3 y.f2.length c3) ∧ w'.cell? ⟨gr, 7, none⟩ = some (.slice A4 y.f3.length c4) := fun w' hf => by
    have h1 := hf.blk H5.out.1 (fun h => h)
    have h2 := hf.blk H5.out.2.1 (fun h => h)
    have h3 := hf.blk H5.out.2.2.1 (fun h => h)
    simp [World.cell?, h1, h2, h3]
  have HC : ∀ w1, Fr (fun _ => False) w5 w1 → Calls Try.prog 13 #[.agg #[.int .i64 x.f0, .int .i64 x.f1, .slice A1 (x.f2).length c1, .slice A2 (x.f3).length c2]] w1 fun e w2 => ∃ B1 d1 B2 d2, e = .returned (.agg #[.int .i64 x.f0, .int .i64 x.f1, .slice B1 (x.f2).length d1, .slice B2 (x.f3).length d2]) ∧ (w2.cell? ⟨gb, 0, none⟩ = some (.int .i64 view) ∧ w2.cell? ⟨gb, 1, none⟩ = some (.int .i64 turn) ∧ w2.cell? ⟨gi, 0, none⟩ = some (.int .i64 s0) ∧ w2.cell? ⟨gi, 1, none⟩ = some (.int .i64 s1) ∧ w2.cell? ⟨gr, 0, none⟩ = some (.int .i64 x.f0) ∧ w2.cell? ⟨gr, 1, none⟩ = some (.int .i64 x.f1) ∧ w2.cell? ⟨gr, 2, none⟩ = some (.slice A1 x.f2.length c1) ∧ w2.cell? ⟨gr, 3, none⟩ = some (.slice A2 x.f3.length c2) ∧ w2.cell? ⟨gr, 4, none⟩ = some (.int .i64 y.f0) ∧ w2.cell? ⟨gr, 5, none⟩ = some (.int .i64 y.f1) ∧ w2.cell? ⟨gr, 6, none⟩ = some (.slice A3 y.f2.length c3) ∧ w2.cell? ⟨gr, 7, none⟩ = some (.slice A4 y.f3.length c4)) ∧ Aside0 (Fr (fun _ => False) w1 w2 ∧ Fr (fun _ => False) w5 w2 ∧ (x.f2).length ≤ d1 ∧ (x.f3).length ≤ d2 ∧ Rd w2 B1 (x.f2) ∧ Rd w2 B2 (x.f3)) := by
    intro w1 hf1
    refine (copyr_calls x.f0 x.f1 A1 c1 (x.f2) A2 c2 (x.f3) w1 (HR.out.1.lies hf1) HR.out.2.2.1 (HR.out.2.1.lies hf1) HR.out.2.2.2.1 HR.out.2.2.2.2.1).mono ?_
    rintro e w2 ⟨B1, d1, B2, d2, rfl, h1, h2, r1, r2, hb⟩
    have f12 := Fr.of_below hb (fun _ => False)
    have f2 := hf1.trans f12 (fun _ h => h.elim)
    exact ⟨B1, d1, B2, d2, rfl, hS _ f2, ⟨f12, f2, h1, h2, r1, r2⟩⟩
  have HM : ∀ w1, Fr (fun _ => False) w5 w1 → Calls Try.prog 19 #[.agg #[.int .i64 view, .int .i64 turn], .int .i64 s0, .agg #[.int .i64 x.f0, .int .i64 x.f1, .slice A1 (x.f2).length c1, .slice A2 (x.f3).length c2], .int .i64 3] w1 fun e w2 => ∃ A5 c5, e = .returned (.agg #[.int .i64 3, .slice A5 (vsA 2 view turn s0 (bodyA x.f0 x.f1 x.f2 x.f3) 3).length c5]) ∧ (w2.cell? ⟨gb, 0, none⟩ = some (.int .i64 view) ∧ w2.cell? ⟨gb, 1, none⟩ = some (.int .i64 turn) ∧ w2.cell? ⟨gi, 0, none⟩ = some (.int .i64 s0) ∧ w2.cell? ⟨gi, 1, none⟩ = some (.int .i64 s1) ∧ w2.cell? ⟨gr, 0, none⟩ = some (.int .i64 x.f0) ∧ w2.cell? ⟨gr, 1, none⟩ = some (.int .i64 x.f1) ∧ w2.cell? ⟨gr, 2, none⟩ = some (.slice A1 x.f2.length c1) ∧ w2.cell? ⟨gr, 3, none⟩ = some (.slice A2 x.f3.length c2) ∧ w2.cell? ⟨gr, 4, none⟩ = some (.int .i64 y.f0) ∧ w2.cell? ⟨gr, 5, none⟩ = some (.int .i64 y.f1) ∧ w2.cell? ⟨gr, 6, none⟩ = some (.slice A3 y.f2.length c3) ∧ w2.cell? ⟨gr, 7, none⟩ = some (.slice A4 y.f3.length c4)) ∧ Aside0 (Fr (fun _ => False) w1 w2 ∧ Fr (fun _ => False) w5 w2 ∧ (vsA 2 view turn s0 (bodyA x.f0 x.f1 x.f2 x.f3) 3).length ≤ c5 ∧ Rd w2 A5 (vsA 2 view turn s0 (bodyA x.f0 x.f1 x.f2 x.f3) 3)) := by
    intro w1 hf1
    refine (made_calls view turn s0 x.f0 x.f1 A1 c1 (x.f2) A2 c2 (x.f3) 3 w1 (HR.out.1.lies hf1) HR.out.2.2.1 (HR.out.2.1.lies hf1) HR.out.2.2.2.1 HR.out.2.2.2.2.1).mono ?_
    rintro e w2 ⟨A5, c5, rfl, hc5, hO, hb⟩
    have f12 := Fr.of_below hb (fun _ => False)
    have f2 := hf1.trans f12 (fun _ h => h.elim)
    exact ⟨A5, c5, rfl, hS _ f2, ⟨f12, f2, hc5, QB.rd (q_of_own hO)⟩⟩
  have HNt : ∀ w1 B1 d1 B2 d2 g, Aside0 (Fr (fun _ => False) w5 w1 ∧ (x.f2).length ≤ d1 ∧ (x.f3).length ≤ d2 ∧ Rd w1 B1 (x.f2) ∧ Rd w1 B2 (x.f3) ∧ VC w1 (some ⟨g, 0, none⟩) [(3, vsA 2 view turn s0 (bodyA x.f0 x.f1 x.f2 x.f3) 3)]) → Calls Try.prog 12 #[.pointer (some ⟨gl, 0, none⟩), .int .i64 2, .agg #[.int .i64 view, .int .i64 turn], .int .i64 s0, .agg #[.int .i64 x.f0, .int .i64 x.f1, .slice B1 (x.f2).length d1, .slice B2 (x.f3).length d2], .slice (some ⟨g, 0, none⟩) 1 1] w1 fun e w2 => ∃ (A9 : Option Addr × Nat) (E : List Ev), e = .returned (.slice A9.1 E.length A9.2) ∧ (w2.cell? ⟨gb, 0, none⟩ = some (.int .i64 view) ∧ w2.cell? ⟨gb, 1, none⟩ = some (.int .i64 turn) ∧ w2.cell? ⟨gi, 0, none⟩ = some (.int .i64 s0) ∧ w2.cell? ⟨gi, 1, none⟩ = some (.int .i64 s1) ∧ w2.cell? ⟨gr, 0, none⟩ = some (.int .i64 x.f0) ∧ w2.cell? ⟨gr, 1, none⟩ = some (.int .i64 x.f1) ∧ w2.cell? ⟨gr, 2, none⟩ = some (.slice A1 x.f2.length c1) ∧ w2.cell? ⟨gr, 3, none⟩ = some (.slice A2 x.f3.length c2) ∧ w2.cell? ⟨gr, 4, none⟩ = some (.int .i64 y.f0) ∧ w2.cell? ⟨gr, 5, none⟩ = some (.int .i64 y.f1) ∧ w2.cell? ⟨gr, 6, none⟩ = some (.slice A3 y.f2.length c3) ∧ w2.cell? ⟨gr, 7, none⟩ = some (.slice A4 y.f3.length c4)) ∧ Aside0 (∃ D' S' Bs', LdAt w2 base gl bm D' S' Bs' ∧ EvRow w2 w5.heap.size (.slice A9.1 E.length A9.2) E ∧ Steps 2 view turn s0 x.f0 x.f1 (x.f2) (x.f3) ([]) [] [(3, vsA 2 view turn s0 (bodyA x.f0 x.f1 x.f2 x.f3) 3)] S' E ∧ Fr (LF bm Bs) w5 w2) := by
    intro w1 B1 d1 B2 d2 g H
    have hL := HD.out.fr0 H.out.1
    refine (note_calls 2 view turn s0 x.f0 x.f1 B1 d1 (x.f2) B2 d2 (x.f3) (some ⟨g, 0, none⟩) 1 [(3, vsA 2 view turn s0 (bodyA x.f0 x.f1 x.f2 x.f3) 3)] (by simp) w1 base gl bm _ _ _ hL (Nat.le_trans HG.out H.out.1.size) (.inl rfl) H.out.2.2.2.1 H.out.2.2.2.2.1 H.out.2.2.2.2.2 HR.out.2.2.2.2.1 H.out.2.1 H.out.2.2.1 HR.out.2.2.2.2.2.1 HR.out.2.2.2.2.2.2 (fun v hv => by
      have : v = (3, vsA 2 view turn s0 (bodyA x.f0 x.f1 x.f2 x.f3) 3) := by simpa using hv
      subst this
      exact ⟨Nat.le_trans (vsA_len 2 view turn s0 _ 3) (by decide), vsA_bys 2 view turn s0 _ 3, rfl⟩) HW.out.1 HW.out.2.1 HW.out.2.2).mono ?_
    rintro e w2 ⟨D', S', Bs', out, E, rfl, L, nb, ev, st, f⟩
    have hf1 := H.out.1
    have ev2 : EvRow w2 w5.heap.size out E := by
      obtain ⟨css, h1, h2, h3⟩ := ev
      exact ⟨css, h1, row_lower h2 hf1.size, h3⟩
    obtain ⟨A9, c9, rfl⟩ := evrow_len ev
    have hs : w2.cell? ⟨gb, 0, none⟩ = some (.int .i64 view) ∧ w2.cell? ⟨gb, 1, none⟩ = some (.int .i64 turn) ∧ w2.cell? ⟨gi, 0, none⟩ = some (.int .i64 s0) ∧ w2.cell? ⟨gi, 1, none⟩ = some (.int .i64 s1) ∧ w2.cell? ⟨gr, 0, none⟩ = some (.int .i64 x.f0) ∧ w2.cell? ⟨gr, 1, none⟩ = some (.int .i64 x.f1) ∧ w2.cell? ⟨gr, 2, none⟩ = some (.slice A1 x.f2.length c1) ∧ w2.cell? ⟨gr, 3, none⟩ = some (.slice A2 x.f3.length c2) ∧ w2.cell? ⟨gr, 4, none⟩ = some (.int .i64 y.f0) ∧ w2.cell? ⟨gr, 5, none⟩ = some (.int .i64 y.f1) ∧ w2.cell? ⟨gr, 6, none⟩ = some (.slice A3 y.f2.length c3) ∧ w2.cell? ⟨gr, 7, none⟩ = some (.slice A4 y.f3.length c4) := by
      have g0 := hf1.blk H5.out.1 (fun h => h)
      have h0 := f.blk g0 (LF.not hL g0 (by decide))
      have g1 := hf1.blk H5.out.2.1 (fun h => h)
      have h1 := f.blk g1 (LF.not hL g1 (by decide))
      have g2 := hf1.blk H5.out.2.2.1 (fun h => h)
      have h2 := f.blk g2 (LF.not hL g2 (by decide))
      simp [World.cell?, h0, h1, h2]
    exact ⟨(A9, c9), E, rfl, hs, ⟨_, _, _, L, ev2, st, (hf1.mono (fun _ e => e.elim)).trans f (fun k hk => .inl hk)⟩⟩
  have HS := Aside0.mk hS
  have hs0 := hS _ (Fr.refl _ _)
  have HC := Aside0.mk HC
  have HM := Aside0.mk HM
  have HNt := Aside0.mk HNt
  clear hS
  refine wp_cut (fun a' w' => Fm 72 a' ∧ sl a' 3 = .pointer (some ⟨gb, 0, none⟩) ∧ sl a' 4 = .pointer (some ⟨gi, 0, none⟩) ∧ sl a' 5 = .pointer (some ⟨gr, 0, none⟩) ∧ sl a' 7 = .pointer (some ⟨gl, 0, none⟩) ∧ ∃ (A9 : Option Addr × Nat) (E : List Ev), Aside0 (∃ D' S' Bs', LdAt w' base gl bm D' S' Bs' ∧ EvRow w' w5.heap.size (.slice A9.1 E.length A9.2) E ∧ Steps 2 view turn s0 x.f0 x.f1 (x.f2) (x.f3) ([]) [] [(3, vsA 2 view turn s0 (bodyA x.f0 x.f1 x.f2 x.f3) 3)] S' E ∧ Fr (LF bm Bs) w5 w')) ?_ ?_
  · refine wp_region_noPanic ?_
    refine wp_region_held_drew (S := (fun w' => w'.cell? ⟨gb, 0, none⟩ = some (.int .i64 view) ∧ w'.cell? ⟨gb, 1, none⟩ = some (.int .i64 turn) ∧ w'.cell? ⟨gi, 0, none⟩ = some (.int .i64 s0) ∧ w'.cell? ⟨gi, 1, none⟩ = some (.int .i64 s1) ∧ w'.cell? ⟨gr, 0, none⟩ = some (.int .i64 x.f0) ∧ w'.cell? ⟨gr, 1, none⟩ = some (.int .i64 x.f1) ∧ w'.cell? ⟨gr, 2, none⟩ = some (.slice A1 x.f2.length c1) ∧ w'.cell? ⟨gr, 3, none⟩ = some (.slice A2 x.f3.length c2) ∧ w'.cell? ⟨gr, 4, none⟩ = some (.int .i64 y.f0) ∧ w'.cell? ⟨gr, 5, none⟩ = some (.int .i64 y.f1) ∧ w'.cell? ⟨gr, 6, none⟩ = some (.slice A3 y.f2.length c3) ∧ w'.cell? ⟨gr, 7, none⟩ = some (.slice A4 y.f3.length c4))) (by kernel_rfl) hs0 (fun hHeld => ?_)
    refine wpAnyH_take (i := 0) (oi := ⟨some 18, _, _, _, _, _⟩) (v := (.pointer (some ⟨gl, 0, none⟩))) rfl (by kernel_rfl) (by kernel_rfl) (by kernel_rfl) (fun _ _ _ h => h) (Or.inl ⟨by rfl, by (intro w' hSw; (try dsimp only at hSw); go_simp)⟩) (by assumption) ?_
    try simp only [Act.put, List.setIfInBounds_toArray, List.set_cons_zero, List.set_cons_succ]
    refine wpAnyH_take (i := 1) (oi := ⟨some 19, _, _, _, _, _⟩) (v := (.agg #[.int .i64 view, .int .i64 turn])) rfl (by kernel_rfl) (by kernel_rfl) (by kernel_rfl) (fun _ _ _ h => h) (Or.inl ⟨by rfl, by (intro w' hSw; (try dsimp only at hSw); go_simp)⟩) (by assumption) ?_
    try simp only [Act.put, List.setIfInBounds_toArray, List.set_cons_zero, List.set_cons_succ]
    refine wpAnyH_take (i := 2) (oi := ⟨some 20, _, _, _, _, _⟩) (v := (.pointer (some ⟨gi, 0, none⟩))) rfl (by kernel_rfl) (by kernel_rfl) (by kernel_rfl) (fun _ _ _ h => h) (Or.inl ⟨by rfl, by (intro w' hSw; (try dsimp only at hSw); go_simp)⟩) (by assumption) ?_
    try simp only [Act.put, List.setIfInBounds_toArray, List.set_cons_zero, List.set_cons_succ]
    refine wpAnyH_take (i := 3) (oi := ⟨some 21, _, _, _, _, _⟩) (v := (.int .i64 s0)) rfl (by kernel_rfl) (by kernel_rfl) (by kernel_rfl) (fun _ _ _ h => h) (Or.inl ⟨by rfl, by (intro w' hSw; (try dsimp only at hSw); go_simp)⟩) (by assumption) ?_
    try simp only [Act.put, List.setIfInBounds_toArray, List.set_cons_zero, List.set_cons_succ]
    refine wpAnyH_take (i := 4) (oi := ⟨some 22, _, _, _, _, _⟩) (v := (.pointer (some ⟨gr, 0, none⟩))) rfl (by kernel_rfl) (by kernel_rfl) (by kernel_rfl) (fun _ _ _ h => h) (Or.inl ⟨by rfl, by (intro w' hSw; (try dsimp only at hSw); go_simp)⟩) (by assumption) ?_
    try simp only [Act.put, List.setIfInBounds_toArray, List.set_cons_zero, List.set_cons_succ]
    refine wpAnyH_take (i := 5) (oi := ⟨some 23, _, _, _, _, _⟩) (v := (.agg #[.int .i64 x.f0, .int .i64 x.f1, .slice A1 x.f2.length c1, .slice A2 x.f3.length c2])) rfl (by kernel_rfl) (by kernel_rfl) (by kernel_rfl) (fun _ _ _ h => h) (Or.inl ⟨by rfl, by (intro w' hSw; (try dsimp only at hSw); go_simp)⟩) (by assumption) ?_
    try simp only [Act.put, List.setIfInBounds_toArray, List.set_cons_zero, List.set_cons_succ]
    refine wpAnyH_take (i := 7) (oi := ⟨some 25, _, _, _, _, _⟩) (v := (.agg #[.int .i64 view, .int .i64 turn])) rfl (by kernel_rfl) (by kernel_rfl) (by kernel_rfl) (fun _ _ _ h => h) (Or.inl ⟨by rfl, by (intro w' hSw; (try dsimp only at hSw); go_simp)⟩) (by assumption) ?_
    try simp only [Act.put, List.setIfInBounds_toArray, List.set_cons_zero, List.set_cons_succ]
    refine wpAnyH_take (i := 8) (oi := ⟨some 26, _, _, _, _, _⟩) (v := (.pointer (some ⟨gi, 0, none⟩))) rfl (by kernel_rfl) (by kernel_rfl) (by kernel_rfl) (fun _ _ _ h => h) (Or.inl ⟨by rfl, by (intro w' hSw; (try dsimp only at hSw); go_simp)⟩) (by assumption) ?_
    try simp only [Act.put, List.setIfInBounds_toArray, List.set_cons_zero, List.set_cons_succ]
    refine wpAnyH_take (i := 9) (oi := ⟨some 27, _, _, _, _, _⟩) (v := (.int .i64 s0)) rfl (by kernel_rfl) (by kernel_rfl) (by kernel_rfl) (fun _ _ _ h => h) (Or.inl ⟨by rfl, by (intro w' hSw; (try dsimp only at hSw); go_simp)⟩) (by assumption) ?_
    try simp only [Act.put, List.setIfInBounds_toArray, List.set_cons_zero, List.set_cons_succ]
    refine wpAnyH_take (i := 10) (oi := ⟨some 28, _, _, _, _, _⟩) (v := (.pointer (some ⟨gr, 0, none⟩))) rfl (by kernel_rfl) (by kernel_rfl) (by kernel_rfl) (fun _ _ _ h => h) (Or.inl ⟨by rfl, by (intro w' hSw; (try dsimp only at hSw); go_simp)⟩) (by assumption) ?_
    try simp only [Act.put, List.setIfInBounds_toArray, List.set_cons_zero, List.set_cons_succ]
    refine wpAnyH_take (i := 11) (oi := ⟨some 29, _, _, _, _, _⟩) (v := (.agg #[.int .i64 x.f0, .int .i64 x.f1, .slice A1 x.f2.length c1, .slice A2 x.f3.length c2])) rfl (by kernel_rfl) (by kernel_rfl) (by kernel_rfl) (fun _ _ _ h => h) (Or.inl ⟨by rfl, by (intro w' hSw; (try dsimp only at hSw); go_simp)⟩) (by assumption) ?_
    try simp only [Act.put, List.setIfInBounds_toArray, List.set_cons_zero, List.set_cons_succ]
    refine wpAnyH_ready (rs := [6]) (by kernel_rfl) (by simp) ?_
    refine AllReadyH.cons (o := ⟨some 24, _, _, _, _, _⟩) rfl (fun K hK => ?_) AllReadyH.nil
    go_simp
    go_at_call 13
    refine (HC.out _ (Fr.refl _ _).of_drew).mono ?_
    rintro e wa ⟨B1, d1, B2, d2, rfl, hswa, Hc⟩
    refine hK.out _ _ hswa (fun hHeld => ?_)
    try simp only [Act.put, List.setIfInBounds_toArray, List.set_cons_zero, List.set_cons_succ]
    refine wpAnyH_ready (rs := [12]) (by kernel_rfl) (by simp) ?_
    refine AllReadyH.cons (o := ⟨some 30, _, _, _, _, _⟩) rfl (fun K hK => ?_) AllReadyH.nil
    go_simp
    go_at_call 19
    refine (HM.out _ Hc.out.2.1).mono ?_
    rintro e wb ⟨A5, c5, rfl, hswb, Hm⟩
    refine hK.out _ _ hswb (fun hHeld => ?_)
    try simp only [Act.put, List.setIfInBounds_toArray, List.set_cons_zero, List.set_cons_succ]
    refine wpAnyH_ready (rs := [13]) (by kernel_rfl) (by simp) ?_
    refine AllReadyH.cons (o := ⟨some 31, _, _, _, _, _⟩) rfl (fun K hK => ?_) AllReadyH.nil
    go_simp
    have hgv := heap_alloc_new wb (.cells #[.int .i64 3, .slice A5 (vsA 2 view turn s0 (bodyA x.f0 x.f1 x.f2 x.f3) 3).length c5] 55)
    have fv : Fr (fun _ => False) wb (wb.alloc (.cells #[.int .i64 3, .slice A5 (vsA 2 view turn s0 (bodyA x.f0 x.f1 x.f2 x.f3) 3).length c5] 55)) := Fr.alloc (Fr.refl _ _) _
    generalize wb.alloc (.cells #[.int .i64 3, .slice A5 (vsA 2 view turn s0 (bodyA x.f0 x.f1 x.f2 x.f3) 3).length c5] 55) = wc at *
    have hswc := HS.out _ ((Hm.out.2.1).trans fv (fun _ h => h.elim))
    refine hK.out _ _ hswc (fun hHeld => ?_)
    try simp only [Act.put, List.setIfInBounds_toArray, List.set_cons_zero, List.set_cons_succ]
    refine wpAnyH_ready (rs := [14]) (by kernel_rfl) (by simp) ?_
    refine AllReadyH.cons (o := ⟨some 32, _, _, _, _, _⟩) rfl (fun K hK => ?_) AllReadyH.nil
    go_simp
    go_at_call 12
    refine (HNt.out _ B1 d1 B2 d2 wb.heap.size ⟨(Hm.out.2.1).trans fv (fun _ h => h.elim), Hc.out.2.2.1, Hc.out.2.2.2.1, (Hc.out.2.2.2.2.1.lies Hm.out.1).lies fv, (Hc.out.2.2.2.2.2.lies Hm.out.1).lies fv, VC.one hgv Hm.out.2.2.1 (Hm.out.2.2.2.lies fv)⟩).mono ?_
    rintro e wZ ⟨A9, E, rfl, hsZ, HZ⟩
    refine hK.out _ _ hsZ (fun hHeld => ?_)
    try simp only [Act.put, List.setIfInBounds_toArray, List.set_cons_zero, List.set_cons_succ]
    refine wpAnyH_done (by kernel_rfl) ?_ _
    refine NoPanic.normal ?_
    exact ⟨rfl, ⟨rfl, rfl⟩, rfl, rfl, rfl, rfl, A9, E, HZ⟩
  rintro a' w6 ⟨hFm, j3, j4, j5, j7, A9, E, HZ⟩
  rw [fm72 hFm, j3, j4, j5, j7]
  obtain ⟨D6, S6, Bs6, L6, _, st6, f6⟩ := HZ.out
  have hS6 : S6 = [(⟨2, view, turn, s0, 3, x.f0, x.f1, x.f2, x.f3, vsA 2 view turn s0 (bodyA x.f0 x.f1 x.f2 x.f3) 3, false⟩ : Sn)] := (steps_put' st6 (vrA_made (show (0 : Int) ≤ 3 by decide) (show (3 : Int) ≤ 15 by decide)) (by simp) (by simp)).1
  subst hS6
  have nf : ∀ {k : Nat} {cells : Array Value} {t : TypeId} {fr : Nat × Nat}, w5.heap[k]? = some (.cells cells t fr) → t ≠ 75 → ¬ LF bm Bs k := fun h ht => LF.not HD.out h ht
  have H6 := Aside0.mk (And.intro (f6.blk H5.out.1 (nf H5.out.1 (by decide))) (And.intro (f6.blk H5.out.2.1 (nf H5.out.2.1 (by decide))) (And.intro (f6.blk H5.out.2.2.1 (nf H5.out.2.2.1 (by decide))) (H5.out.2.2.2.trans f6 (fun k hk => .inr (Nat.le_trans HZs.out (HD.out.lf_ge hk)))))))
  have HL6 := Aside0.mk L6
  clear hFm j3 j4 j5 j7 HZ L6 st6 f6 nf HD HG HR HC HM HNt HS hs0 H5
  have i1 : w6.cell? ⟨gi, 1, none⟩ = some (.int .i64 s1) := by simp [World.cell?, H6.out.2.1]
  go_wp2_with (fail)
  refine (lcut_calls w6 base gl bm _ _ _ HL6.out s1).mono ?_
  rintro e w7 ⟨rfl, ⟨D7, L7⟩, f7⟩
  rw [cutS HL6.out.bl] at L7
  have nf : ∀ {k : Nat} {cells : Array Value} {t : TypeId} {fr : Nat × Nat}, w6.heap[k]? = some (.cells cells t fr) → ¬ k = bm := fun h e => HL6.out.bm_no _ _ _ (e ▸ h)
  have H7 := Aside0.mk (And.intro (f7.blk H6.out.1 (nf H6.out.1)) (And.intro (f7.blk H6.out.2.1 (nf H6.out.2.1)) (And.intro (f7.blk H6.out.2.2.1 (nf H6.out.2.2.1)) (H6.out.2.2.2.trans f7 (fun k hk => .inr (by rw [hk]; exact Nat.le_trans HZs.out HL6.out.hbm))))))
  have HB7 := Aside0.mk (show base ≤ w7.heap.size from Nat.le_trans HL6.out.hbm (Nat.le_trans (Nat.le_of_lt HL6.out.own.lt) f7.size))
  have HL7 := Aside0.mk L7
  clear L7 f7 nf H6 HL6 i1
  have i0 : w7.cell? ⟨gi, 0, none⟩ = some (.int .i64 s0) := by simp [World.cell?, H7.out.2.1]
  have i1 : w7.cell? ⟨gi, 1, none⟩ = some (.int .i64 s1) := by simp [World.cell?, H7.out.2.1]
  obtain ⟨Bs7, hB7⟩ : ∃ B, (cutL s1 [(⟨2, view, turn, s0, 3, x.f0, x.f1, x.f2, x.f3, vsA 2 view turn s0 (bodyA x.f0 x.f1 x.f2 x.f3) 3, false⟩ : Sn)] Bs6).map (·.2) = B := ⟨_, rfl⟩
  rw [hB7] at HL7
  clear hB7
  by_cases hc : s0 ≤ s1
  · have cd : decide (s0 ≤ s1) = true := decide_eq_true hc
    have HL8 := Aside0.mk (show LdAt w7 base gl bm D7 ([]) Bs7 from by
      have := HL7.out
      rw [show List.filter (fun x : Sn => decide (s1 < x.slot)) ([(⟨2, view, turn, s0, 3, x.f0, x.f1, x.f2, x.f3, vsA 2 view turn s0 (bodyA x.f0 x.f1 x.f2 x.f3) 3, false⟩ : Sn)]) = [] from by
        rw [List.filter_cons, if_neg (by simp; omega), List.filter_nil]] at this
      exact this)
    clear hc HL7
    go_wp2_with (fail)
    refine (llen_calls w7 base gl bm _ _ _ HL8.out).mono ?_
    rintro e w8 ⟨e1, hb8⟩
    obtain rfl : e = .returned (.int .i64 0) := e1
    have f8 := Fr.of_below hb8 (fun _ => False)
    have H8 := Aside0.mk (And.intro (f8.blk H7.out.1 (fun e => e)) (And.intro (f8.blk H7.out.2.1 (fun e => e)) (And.intro (f8.blk H7.out.2.2.1 (fun e => e)) (H7.out.2.2.2.trans f8 (fun _ e => e.elim)))))
    have HD := Aside0.mk (HL8.out.fr0 f8)
    have HG := Aside0.mk (Nat.le_trans HB7.out f8.size)
    have HR := Aside0.mk (And.intro (HY.out.1.lies H8.out.2.2.2) (And.intro (HY.out.2.1.lies H8.out.2.2.2) HY.out.2.2))
    obtain ⟨Bs, hBs⟩ : ∃ Bs : List Nat, Bs7 = Bs := ⟨_, rfl⟩
    rw [hBs] at HD
    clear hBs hb8 f8 H7 HL8 i0 i1
    go_wp2_with (fail)
    have hS : ∀ w', Fr (fun _ => False) w8 w' → w'.cell? ⟨gb, 0, none⟩ = some (.int .i64 view) ∧ w'.cell? ⟨gb, 1, none⟩ = some (.int .i64 turn) ∧ w'.cell? ⟨gi, 0, none⟩ = some (.int .i64 s0) ∧ w'.cell? ⟨gi, 1, none⟩ = some (.int .i64 s1) ∧ w'.cell? ⟨gr, 0, none⟩ = some (.int .i64 x.f0) ∧ w'.cell? ⟨gr, 1, none⟩ = some (.int .i64 x.f1) ∧ w'.cell? ⟨gr, 2, none⟩ = some (.slice A1 x.f2.length c1) ∧ w'.cell? ⟨gr, 3, none⟩ = some (.slice A2 x.f3.length c2) ∧ w'.cell? ⟨gr, 4, none⟩ = some (.int .i64 y.f0) ∧ w'.cell? ⟨gr, 5, none⟩ = some (.int .i64 y.f1) ∧ w'.cell? ⟨gr, 6, none⟩ = some (.slice A3 y.f2.length c3) ∧ w'.cell? ⟨gr, 7, none⟩ = some (.slice A4 y.f3.length c4) := fun w' hf => by
      have h1 := hf.blk H8.out.1 (fun h => h)
      have h2 := hf.blk H8.out.2.1 (fun h => h)
      have h3 := hf.blk H8.out.2.2.1 (fun h => h)
      simp [World.cell?, h1, h2, h3]
    have HC : ∀ w1, Fr (fun _ => False) w8 w1 → Calls Try.prog 13 #[.agg #[.int .i64 y.f0, .int .i64 y.f1, .slice A3 (y.f2).length c3, .slice A4 (y.f3).length c4]] w1 fun e w2 => ∃ B1 d1 B2 d2, e = .returned (.agg #[.int .i64 y.f0, .int .i64 y.f1, .slice B1 (y.f2).length d1, .slice B2 (y.f3).length d2]) ∧ (w2.cell? ⟨gb, 0, none⟩ = some (.int .i64 view) ∧ w2.cell? ⟨gb, 1, none⟩ = some (.int .i64 turn) ∧ w2.cell? ⟨gi, 0, none⟩ = some (.int .i64 s0) ∧ w2.cell? ⟨gi, 1, none⟩ = some (.int .i64 s1) ∧ w2.cell? ⟨gr, 0, none⟩ = some (.int .i64 x.f0) ∧ w2.cell? ⟨gr, 1, none⟩ = some (.int .i64 x.f1) ∧ w2.cell? ⟨gr, 2, none⟩ = some (.slice A1 x.f2.length c1) ∧ w2.cell? ⟨gr, 3, none⟩ = some (.slice A2 x.f3.length c2) ∧ w2.cell? ⟨gr, 4, none⟩ = some (.int .i64 y.f0) ∧ w2.cell? ⟨gr, 5, none⟩ = some (.int .i64 y.f1) ∧ w2.cell? ⟨gr, 6, none⟩ = some (.slice A3 y.f2.length c3) ∧ w2.cell? ⟨gr, 7, none⟩ = some (.slice A4 y.f3.length c4)) ∧ Aside0 (Fr (fun _ => False) w1 w2 ∧ Fr (fun _ => False) w8 w2 ∧ (y.f2).length ≤ d1 ∧ (y.f3).length ≤ d2 ∧ Rd w2 B1 (y.f2) ∧ Rd w2 B2 (y.f3)) := by
      intro w1 hf1
      refine (copyr_calls y.f0 y.f1 A3 c3 (y.f2) A4 c4 (y.f3) w1 (HR.out.1.lies hf1) HR.out.2.2.1 (HR.out.2.1.lies hf1) HR.out.2.2.2.1 HR.out.2.2.2.2.1).mono ?_
      rintro e w2 ⟨B1, d1, B2, d2, rfl, h1, h2, r1, r2, hb⟩
      have f12 := Fr.of_below hb (fun _ => False)
      have f2 := hf1.trans f12 (fun _ h => h.elim)
      exact ⟨B1, d1, B2, d2, rfl, hS _ f2, ⟨f12, f2, h1, h2, r1, r2⟩⟩
    have HM : ∀ w1, Fr (fun _ => False) w8 w1 → Calls Try.prog 19 #[.agg #[.int .i64 view, .int .i64 turn], .int .i64 s0, .agg #[.int .i64 y.f0, .int .i64 y.f1, .slice A3 (y.f2).length c3, .slice A4 (y.f3).length c4], .int .i64 3] w1 fun e w2 => ∃ A5 c5, e = .returned (.agg #[.int .i64 3, .slice A5 (vsA 2 view turn s0 (bodyA y.f0 y.f1 y.f2 y.f3) 3).length c5]) ∧ (w2.cell? ⟨gb, 0, none⟩ = some (.int .i64 view) ∧ w2.cell? ⟨gb, 1, none⟩ = some (.int .i64 turn) ∧ w2.cell? ⟨gi, 0, none⟩ = some (.int .i64 s0) ∧ w2.cell? ⟨gi, 1, none⟩ = some (.int .i64 s1) ∧ w2.cell? ⟨gr, 0, none⟩ = some (.int .i64 x.f0) ∧ w2.cell? ⟨gr, 1, none⟩ = some (.int .i64 x.f1) ∧ w2.cell? ⟨gr, 2, none⟩ = some (.slice A1 x.f2.length c1) ∧ w2.cell? ⟨gr, 3, none⟩ = some (.slice A2 x.f3.length c2) ∧ w2.cell? ⟨gr, 4, none⟩ = some (.int .i64 y.f0) ∧ w2.cell? ⟨gr, 5, none⟩ = some (.int .i64 y.f1) ∧ w2.cell? ⟨gr, 6, none⟩ = some (.slice A3 y.f2.length c3) ∧ w2.cell? ⟨gr, 7, none⟩ = some (.slice A4 y.f3.length c4)) ∧ Aside0 (Fr (fun _ => False) w1 w2 ∧ Fr (fun _ => False) w8 w2 ∧ (vsA 2 view turn s0 (bodyA y.f0 y.f1 y.f2 y.f3) 3).length ≤ c5 ∧ Rd w2 A5 (vsA 2 view turn s0 (bodyA y.f0 y.f1 y.f2 y.f3) 3)) := by
      intro w1 hf1
      refine (made_calls view turn s0 y.f0 y.f1 A3 c3 (y.f2) A4 c4 (y.f3) 3 w1 (HR.out.1.lies hf1) HR.out.2.2.1 (HR.out.2.1.lies hf1) HR.out.2.2.2.1 HR.out.2.2.2.2.1).mono ?_
      rintro e w2 ⟨A5, c5, rfl, hc5, hO, hb⟩
      have f12 := Fr.of_below hb (fun _ => False)
      have f2 := hf1.trans f12 (fun _ h => h.elim)
      exact ⟨A5, c5, rfl, hS _ f2, ⟨f12, f2, hc5, QB.rd (q_of_own hO)⟩⟩
    have HNt : ∀ w1 B1 d1 B2 d2 g, Aside0 (Fr (fun _ => False) w8 w1 ∧ (y.f2).length ≤ d1 ∧ (y.f3).length ≤ d2 ∧ Rd w1 B1 (y.f2) ∧ Rd w1 B2 (y.f3) ∧ VC w1 (some ⟨g, 0, none⟩) [(3, vsA 2 view turn s0 (bodyA y.f0 y.f1 y.f2 y.f3) 3)]) → Calls Try.prog 12 #[.pointer (some ⟨gl, 0, none⟩), .int .i64 2, .agg #[.int .i64 view, .int .i64 turn], .int .i64 s0, .agg #[.int .i64 y.f0, .int .i64 y.f1, .slice B1 (y.f2).length d1, .slice B2 (y.f3).length d2], .slice (some ⟨g, 0, none⟩) 1 1] w1 fun e w2 => ∃ (A9 : Option Addr × Nat) (E : List Ev), e = .returned (.slice A9.1 E.length A9.2) ∧ (w2.cell? ⟨gb, 0, none⟩ = some (.int .i64 view) ∧ w2.cell? ⟨gb, 1, none⟩ = some (.int .i64 turn) ∧ w2.cell? ⟨gi, 0, none⟩ = some (.int .i64 s0) ∧ w2.cell? ⟨gi, 1, none⟩ = some (.int .i64 s1) ∧ w2.cell? ⟨gr, 0, none⟩ = some (.int .i64 x.f0) ∧ w2.cell? ⟨gr, 1, none⟩ = some (.int .i64 x.f1) ∧ w2.cell? ⟨gr, 2, none⟩ = some (.slice A1 x.f2.length c1) ∧ w2.cell? ⟨gr, 3, none⟩ = some (.slice A2 x.f3.length c2) ∧ w2.cell? ⟨gr, 4, none⟩ = some (.int .i64 y.f0) ∧ w2.cell? ⟨gr, 5, none⟩ = some (.int .i64 y.f1) ∧ w2.cell? ⟨gr, 6, none⟩ = some (.slice A3 y.f2.length c3) ∧ w2.cell? ⟨gr, 7, none⟩ = some (.slice A4 y.f3.length c4)) ∧ Aside0 (∃ D' S' Bs', LdAt w2 base gl bm D' S' Bs' ∧ EvRow w2 w8.heap.size (.slice A9.1 E.length A9.2) E ∧ Steps 2 view turn s0 y.f0 y.f1 (y.f2) (y.f3) ([]) [] [(3, vsA 2 view turn s0 (bodyA y.f0 y.f1 y.f2 y.f3) 3)] S' E ∧ Fr (LF bm Bs) w8 w2) := by
      intro w1 B1 d1 B2 d2 g H
      have hL := HD.out.fr0 H.out.1
      refine (note_calls 2 view turn s0 y.f0 y.f1 B1 d1 (y.f2) B2 d2 (y.f3) (some ⟨g, 0, none⟩) 1 [(3, vsA 2 view turn s0 (bodyA y.f0 y.f1 y.f2 y.f3) 3)] (by simp) w1 base gl bm _ _ _ hL (Nat.le_trans HG.out H.out.1.size) (.inl rfl) H.out.2.2.2.1 H.out.2.2.2.2.1 H.out.2.2.2.2.2 HR.out.2.2.2.2.1 H.out.2.1 H.out.2.2.1 HR.out.2.2.2.2.2.1 HR.out.2.2.2.2.2.2 (fun v hv => by
        have : v = (3, vsA 2 view turn s0 (bodyA y.f0 y.f1 y.f2 y.f3) 3) := by simpa using hv
        subst this
        exact ⟨Nat.le_trans (vsA_len 2 view turn s0 _ 3) (by decide), vsA_bys 2 view turn s0 _ 3, rfl⟩) HW.out.1 HW.out.2.1 HW.out.2.2).mono ?_
      rintro e w2 ⟨D', S', Bs', out, E, rfl, L, nb, ev, st, f⟩
      have hf1 := H.out.1
      have ev2 : EvRow w2 w8.heap.size out E := by
        obtain ⟨css, h1, h2, h3⟩ := ev
        exact ⟨css, h1, row_lower h2 hf1.size, h3⟩
      obtain ⟨A9, c9, rfl⟩ := evrow_len ev
      have hs : w2.cell? ⟨gb, 0, none⟩ = some (.int .i64 view) ∧ w2.cell? ⟨gb, 1, none⟩ = some (.int .i64 turn) ∧ w2.cell? ⟨gi, 0, none⟩ = some (.int .i64 s0) ∧ w2.cell? ⟨gi, 1, none⟩ = some (.int .i64 s1) ∧ w2.cell? ⟨gr, 0, none⟩ = some (.int .i64 x.f0) ∧ w2.cell? ⟨gr, 1, none⟩ = some (.int .i64 x.f1) ∧ w2.cell? ⟨gr, 2, none⟩ = some (.slice A1 x.f2.length c1) ∧ w2.cell? ⟨gr, 3, none⟩ = some (.slice A2 x.f3.length c2) ∧ w2.cell? ⟨gr, 4, none⟩ = some (.int .i64 y.f0) ∧ w2.cell? ⟨gr, 5, none⟩ = some (.int .i64 y.f1) ∧ w2.cell? ⟨gr, 6, none⟩ = some (.slice A3 y.f2.length c3) ∧ w2.cell? ⟨gr, 7, none⟩ = some (.slice A4 y.f3.length c4) := by
        have g0 := hf1.blk H8.out.1 (fun h => h)
        have h0 := f.blk g0 (LF.not hL g0 (by decide))
        have g1 := hf1.blk H8.out.2.1 (fun h => h)
        have h1 := f.blk g1 (LF.not hL g1 (by decide))
        have g2 := hf1.blk H8.out.2.2.1 (fun h => h)
        have h2 := f.blk g2 (LF.not hL g2 (by decide))
        simp [World.cell?, h0, h1, h2]
      exact ⟨(A9, c9), E, rfl, hs, ⟨_, _, _, L, ev2, st, (hf1.mono (fun _ e => e.elim)).trans f (fun k hk => .inl hk)⟩⟩
    have HS := Aside0.mk hS
    have hs0 := hS _ (Fr.refl _ _)
    have HC := Aside0.mk HC
    have HM := Aside0.mk HM
    have HNt := Aside0.mk HNt
    clear hS
    refine wp_cut (fun a' w' => Fm 72 a' ∧ sl a' 3 = .pointer (some ⟨gb, 0, none⟩) ∧ sl a' 4 = .pointer (some ⟨gi, 0, none⟩) ∧ sl a' 5 = .pointer (some ⟨gr, 0, none⟩) ∧ sl a' 7 = .pointer (some ⟨gl, 0, none⟩) ∧ sl a' 8 = .bool true ∧ ∃ (A9 : Option Addr × Nat) (E : List Ev), sl a' 9 = .slice A9.1 E.length A9.2 ∧ Aside0 (∃ D' S' Bs', LdAt w' base gl bm D' S' Bs' ∧ EvRow w' w8.heap.size (.slice A9.1 E.length A9.2) E ∧ Steps 2 view turn s0 y.f0 y.f1 (y.f2) (y.f3) ([]) [] [(3, vsA 2 view turn s0 (bodyA y.f0 y.f1 y.f2 y.f3) 3)] S' E ∧ Fr (LF bm Bs) w8 w')) ?_ ?_
    · refine wp_region_noPanic ?_
      refine wp_region_held_drew (S := (fun w' => w'.cell? ⟨gb, 0, none⟩ = some (.int .i64 view) ∧ w'.cell? ⟨gb, 1, none⟩ = some (.int .i64 turn) ∧ w'.cell? ⟨gi, 0, none⟩ = some (.int .i64 s0) ∧ w'.cell? ⟨gi, 1, none⟩ = some (.int .i64 s1) ∧ w'.cell? ⟨gr, 0, none⟩ = some (.int .i64 x.f0) ∧ w'.cell? ⟨gr, 1, none⟩ = some (.int .i64 x.f1) ∧ w'.cell? ⟨gr, 2, none⟩ = some (.slice A1 x.f2.length c1) ∧ w'.cell? ⟨gr, 3, none⟩ = some (.slice A2 x.f3.length c2) ∧ w'.cell? ⟨gr, 4, none⟩ = some (.int .i64 y.f0) ∧ w'.cell? ⟨gr, 5, none⟩ = some (.int .i64 y.f1) ∧ w'.cell? ⟨gr, 6, none⟩ = some (.slice A3 y.f2.length c3) ∧ w'.cell? ⟨gr, 7, none⟩ = some (.slice A4 y.f3.length c4))) (by kernel_rfl) hs0 (fun hHeld => ?_)
      refine wpAnyH_take (i := 0) (oi := ⟨some 47, _, _, _, _, _⟩) (v := (.pointer (some ⟨gl, 0, none⟩))) rfl (by kernel_rfl) (by kernel_rfl) (by kernel_rfl) (fun _ _ _ h => h) (Or.inl ⟨by rfl, by (intro w' hSw; (try dsimp only at hSw); go_simp)⟩) (by assumption) ?_
      try simp only [Act.put, List.setIfInBounds_toArray, List.set_cons_zero, List.set_cons_succ]
      refine wpAnyH_take (i := 1) (oi := ⟨some 48, _, _, _, _, _⟩) (v := (.agg #[.int .i64 view, .int .i64 turn])) rfl (by kernel_rfl) (by kernel_rfl) (by kernel_rfl) (fun _ _ _ h => h) (Or.inl ⟨by rfl, by (intro w' hSw; (try dsimp only at hSw); go_simp)⟩) (by assumption) ?_
      try simp only [Act.put, List.setIfInBounds_toArray, List.set_cons_zero, List.set_cons_succ]
      refine wpAnyH_take (i := 2) (oi := ⟨some 49, _, _, _, _, _⟩) (v := (.pointer (some ⟨gi, 0, none⟩))) rfl (by kernel_rfl) (by kernel_rfl) (by kernel_rfl) (fun _ _ _ h => h) (Or.inl ⟨by rfl, by (intro w' hSw; (try dsimp only at hSw); go_simp)⟩) (by assumption) ?_
      try simp only [Act.put, List.setIfInBounds_toArray, List.set_cons_zero, List.set_cons_succ]
      refine wpAnyH_take (i := 3) (oi := ⟨some 50, _, _, _, _, _⟩) (v := (.int .i64 s0)) rfl (by kernel_rfl) (by kernel_rfl) (by kernel_rfl) (fun _ _ _ h => h) (Or.inl ⟨by rfl, by (intro w' hSw; (try dsimp only at hSw); go_simp)⟩) (by assumption) ?_
      try simp only [Act.put, List.setIfInBounds_toArray, List.set_cons_zero, List.set_cons_succ]
      refine wpAnyH_take (i := 4) (oi := ⟨some 51, _, _, _, _, _⟩) (v := (.pointer (some ⟨gr, 4, none⟩))) rfl (by kernel_rfl) (by kernel_rfl) (by kernel_rfl) (fun _ _ _ h => h) (Or.inl ⟨by rfl, by (intro w' hSw; (try dsimp only at hSw); go_simp)⟩) (by assumption) ?_
      try simp only [Act.put, List.setIfInBounds_toArray, List.set_cons_zero, List.set_cons_succ]
      refine wpAnyH_take (i := 5) (oi := ⟨some 52, _, _, _, _, _⟩) (v := (.agg #[.int .i64 y.f0, .int .i64 y.f1, .slice A3 y.f2.length c3, .slice A4 y.f3.length c4])) rfl (by kernel_rfl) (by kernel_rfl) (by kernel_rfl) (fun _ _ _ h => h) (Or.inl ⟨by rfl, by (intro w' hSw; (try dsimp only at hSw); go_simp)⟩) (by assumption) ?_
      try simp only [Act.put, List.setIfInBounds_toArray, List.set_cons_zero, List.set_cons_succ]
      refine wpAnyH_take (i := 7) (oi := ⟨some 54, _, _, _, _, _⟩) (v := (.agg #[.int .i64 view, .int .i64 turn])) rfl (by kernel_rfl) (by kernel_rfl) (by kernel_rfl) (fun _ _ _ h => h) (Or.inl ⟨by rfl, by (intro w' hSw; (try dsimp only at hSw); go_simp)⟩) (by assumption) ?_
      try simp only [Act.put, List.setIfInBounds_toArray, List.set_cons_zero, List.set_cons_succ]
      refine wpAnyH_take (i := 8) (oi := ⟨some 55, _, _, _, _, _⟩) (v := (.pointer (some ⟨gi, 0, none⟩))) rfl (by kernel_rfl) (by kernel_rfl) (by kernel_rfl) (fun _ _ _ h => h) (Or.inl ⟨by rfl, by (intro w' hSw; (try dsimp only at hSw); go_simp)⟩) (by assumption) ?_
      try simp only [Act.put, List.setIfInBounds_toArray, List.set_cons_zero, List.set_cons_succ]
      refine wpAnyH_take (i := 9) (oi := ⟨some 56, _, _, _, _, _⟩) (v := (.int .i64 s0)) rfl (by kernel_rfl) (by kernel_rfl) (by kernel_rfl) (fun _ _ _ h => h) (Or.inl ⟨by rfl, by (intro w' hSw; (try dsimp only at hSw); go_simp)⟩) (by assumption) ?_
      try simp only [Act.put, List.setIfInBounds_toArray, List.set_cons_zero, List.set_cons_succ]
      refine wpAnyH_take (i := 10) (oi := ⟨some 57, _, _, _, _, _⟩) (v := (.pointer (some ⟨gr, 4, none⟩))) rfl (by kernel_rfl) (by kernel_rfl) (by kernel_rfl) (fun _ _ _ h => h) (Or.inl ⟨by rfl, by (intro w' hSw; (try dsimp only at hSw); go_simp)⟩) (by assumption) ?_
      try simp only [Act.put, List.setIfInBounds_toArray, List.set_cons_zero, List.set_cons_succ]
      refine wpAnyH_take (i := 11) (oi := ⟨some 58, _, _, _, _, _⟩) (v := (.agg #[.int .i64 y.f0, .int .i64 y.f1, .slice A3 y.f2.length c3, .slice A4 y.f3.length c4])) rfl (by kernel_rfl) (by kernel_rfl) (by kernel_rfl) (fun _ _ _ h => h) (Or.inl ⟨by rfl, by (intro w' hSw; (try dsimp only at hSw); go_simp)⟩) (by assumption) ?_
      try simp only [Act.put, List.setIfInBounds_toArray, List.set_cons_zero, List.set_cons_succ]
      refine wpAnyH_ready (rs := [6]) (by kernel_rfl) (by simp) ?_
      refine AllReadyH.cons (o := ⟨some 53, _, _, _, _, _⟩) rfl (fun K hK => ?_) AllReadyH.nil
      go_simp
      go_at_call 13
      refine (HC.out _ (Fr.refl _ _).of_drew).mono ?_
      rintro e wa ⟨B1, d1, B2, d2, rfl, hswa, Hc⟩
      refine hK.out _ _ hswa (fun hHeld => ?_)
      try simp only [Act.put, List.setIfInBounds_toArray, List.set_cons_zero, List.set_cons_succ]
      refine wpAnyH_ready (rs := [12]) (by kernel_rfl) (by simp) ?_
      refine AllReadyH.cons (o := ⟨some 59, _, _, _, _, _⟩) rfl (fun K hK => ?_) AllReadyH.nil
      go_simp
      go_at_call 19
      refine (HM.out _ Hc.out.2.1).mono ?_
      rintro e wb ⟨A5, c5, rfl, hswb, Hm⟩
      refine hK.out _ _ hswb (fun hHeld => ?_)
      try simp only [Act.put, List.setIfInBounds_toArray, List.set_cons_zero, List.set_cons_succ]
      refine wpAnyH_ready (rs := [13]) (by kernel_rfl) (by simp) ?_
      refine AllReadyH.cons (o := ⟨some 60, _, _, _, _, _⟩) rfl (fun K hK => ?_) AllReadyH.nil
      go_simp
      have hgv := heap_alloc_new wb (.cells #[.int .i64 3, .slice A5 (vsA 2 view turn s0 (bodyA y.f0 y.f1 y.f2 y.f3) 3).length c5] 55)
      have fv : Fr (fun _ => False) wb (wb.alloc (.cells #[.int .i64 3, .slice A5 (vsA 2 view turn s0 (bodyA y.f0 y.f1 y.f2 y.f3) 3).length c5] 55)) := Fr.alloc (Fr.refl _ _) _
      generalize wb.alloc (.cells #[.int .i64 3, .slice A5 (vsA 2 view turn s0 (bodyA y.f0 y.f1 y.f2 y.f3) 3).length c5] 55) = wc at *
      have hswc := HS.out _ ((Hm.out.2.1).trans fv (fun _ h => h.elim))
      refine hK.out _ _ hswc (fun hHeld => ?_)
      try simp only [Act.put, List.setIfInBounds_toArray, List.set_cons_zero, List.set_cons_succ]
      refine wpAnyH_ready (rs := [14]) (by kernel_rfl) (by simp) ?_
      refine AllReadyH.cons (o := ⟨some 61, _, _, _, _, _⟩) rfl (fun K hK => ?_) AllReadyH.nil
      go_simp
      go_at_call 12
      refine (HNt.out _ B1 d1 B2 d2 wb.heap.size ⟨(Hm.out.2.1).trans fv (fun _ h => h.elim), Hc.out.2.2.1, Hc.out.2.2.2.1, (Hc.out.2.2.2.2.1.lies Hm.out.1).lies fv, (Hc.out.2.2.2.2.2.lies Hm.out.1).lies fv, VC.one hgv Hm.out.2.2.1 (Hm.out.2.2.2.lies fv)⟩).mono ?_
      rintro e wZ ⟨A9, E, rfl, hsZ, HZ⟩
      refine hK.out _ _ hsZ (fun hHeld => ?_)
      try simp only [Act.put, List.setIfInBounds_toArray, List.set_cons_zero, List.set_cons_succ]
      refine wpAnyH_take (i := 15) (oi := ⟨some 9, _, _, _, _, _⟩) (v := (.slice A9.1 E.length A9.2)) rfl (by kernel_rfl) (by kernel_rfl) (by kernel_rfl) (fun _ _ _ h => h) (Or.inl ⟨by rfl, by (intro w' hSw; (try dsimp only at hSw); go_simp)⟩) (by assumption) ?_
      try simp only [Act.put, List.setIfInBounds_toArray, List.set_cons_zero, List.set_cons_succ]
      refine wpAnyH_done (by kernel_rfl) ?_ _
      refine NoPanic.normal ?_
      exact ⟨rfl, ⟨rfl, rfl⟩, rfl, rfl, rfl, rfl, rfl, A9, E, rfl, HZ⟩
    rintro a' w9 ⟨hFm, j3, j4, j5, j7, j8, A9, E, j9, HZ⟩
    obtain ⟨D9, S9, Bs9, L9, _, st9, f9⟩ := HZ.out
    obtain ⟨rfl, rfl⟩ := steps_put' st9 (vrA_made (show (0 : Int) ≤ 3 by decide) (show (3 : Int) ≤ 15 by decide)) (by simp) (by simp)
    have j9 : sl a' 9 = .slice A9.1 0 A9.2 := j9
    rw [fm72 hFm, j7, j8, j9]
    have H9 := Aside0.mk (H8.out.2.2.2.trans f9 (fun k hk => .inr (Nat.le_trans HZs.out (HD.out.lf_ge hk))))
    have HL9 := Aside0.mk L9
    clear hFm j3 j4 j5 j7 j8 j9 HZ L9 st9 f9 HD HG HR HC HM HNt HS hs0 H8
    go_wp2_with (fail)
    refine (llen_calls w9 base gl bm _ _ _ HL9.out).mono ?_
    rintro e w10 ⟨e1, hb10⟩
    obtain rfl : e = .returned (.int .i64 1) := e1
    have H10 := Aside0.mk (H9.out.then_below hb10)
    clear hb10
    go_wp2
    go_ret
    exact ⟨rfl, frB H10.out⟩
  · have cd : decide (s0 ≤ s1) = false := decide_eq_false hc
    have HL8 := Aside0.mk (show LdAt w7 base gl bm D7 ([(⟨2, view, turn, s0, 3, x.f0, x.f1, x.f2, x.f3, vsA 2 view turn s0 (bodyA x.f0 x.f1 x.f2 x.f3) 3, false⟩ : Sn)]) Bs7 from by
      have := HL7.out
      rw [show List.filter (fun x : Sn => decide (s1 < x.slot)) ([(⟨2, view, turn, s0, 3, x.f0, x.f1, x.f2, x.f3, vsA 2 view turn s0 (bodyA x.f0 x.f1 x.f2 x.f3) 3, false⟩ : Sn)]) = [(⟨2, view, turn, s0, 3, x.f0, x.f1, x.f2, x.f3, vsA 2 view turn s0 (bodyA x.f0 x.f1 x.f2 x.f3) 3, false⟩ : Sn)] from by
        rw [List.filter_cons, if_pos (by simp; omega), List.filter_nil]] at this
      exact this)
    clear hc HL7
    go_wp2_with (fail)
    refine (llen_calls w7 base gl bm _ _ _ HL8.out).mono ?_
    rintro e w8 ⟨e1, hb8⟩
    obtain rfl : e = .returned (.int .i64 1) := e1
    have f8 := Fr.of_below hb8 (fun _ => False)
    have H8 := Aside0.mk (And.intro (f8.blk H7.out.1 (fun e => e)) (And.intro (f8.blk H7.out.2.1 (fun e => e)) (And.intro (f8.blk H7.out.2.2.1 (fun e => e)) (H7.out.2.2.2.trans f8 (fun _ e => e.elim)))))
    have HD := Aside0.mk (HL8.out.fr0 f8)
    have HG := Aside0.mk (Nat.le_trans HB7.out f8.size)
    have HR := Aside0.mk (And.intro (HY.out.1.lies H8.out.2.2.2) (And.intro (HY.out.2.1.lies H8.out.2.2.2) HY.out.2.2))
    obtain ⟨Bs, hBs⟩ : ∃ Bs : List Nat, Bs7 = Bs := ⟨_, rfl⟩
    rw [hBs] at HD
    clear hBs hb8 f8 H7 HL8 i0 i1
    go_wp2_with (fail)
    have hS : ∀ w', Fr (fun _ => False) w8 w' → w'.cell? ⟨gb, 0, none⟩ = some (.int .i64 view) ∧ w'.cell? ⟨gb, 1, none⟩ = some (.int .i64 turn) ∧ w'.cell? ⟨gi, 0, none⟩ = some (.int .i64 s0) ∧ w'.cell? ⟨gi, 1, none⟩ = some (.int .i64 s1) ∧ w'.cell? ⟨gr, 0, none⟩ = some (.int .i64 x.f0) ∧ w'.cell? ⟨gr, 1, none⟩ = some (.int .i64 x.f1) ∧ w'.cell? ⟨gr, 2, none⟩ = some (.slice A1 x.f2.length c1) ∧ w'.cell? ⟨gr, 3, none⟩ = some (.slice A2 x.f3.length c2) ∧ w'.cell? ⟨gr, 4, none⟩ = some (.int .i64 y.f0) ∧ w'.cell? ⟨gr, 5, none⟩ = some (.int .i64 y.f1) ∧ w'.cell? ⟨gr, 6, none⟩ = some (.slice A3 y.f2.length c3) ∧ w'.cell? ⟨gr, 7, none⟩ = some (.slice A4 y.f3.length c4) := fun w' hf => by
      have h1 := hf.blk H8.out.1 (fun h => h)
      have h2 := hf.blk H8.out.2.1 (fun h => h)
      have h3 := hf.blk H8.out.2.2.1 (fun h => h)
      simp [World.cell?, h1, h2, h3]
    have HC : ∀ w1, Fr (fun _ => False) w8 w1 → Calls Try.prog 13 #[.agg #[.int .i64 y.f0, .int .i64 y.f1, .slice A3 (y.f2).length c3, .slice A4 (y.f3).length c4]] w1 fun e w2 => ∃ B1 d1 B2 d2, e = .returned (.agg #[.int .i64 y.f0, .int .i64 y.f1, .slice B1 (y.f2).length d1, .slice B2 (y.f3).length d2]) ∧ (w2.cell? ⟨gb, 0, none⟩ = some (.int .i64 view) ∧ w2.cell? ⟨gb, 1, none⟩ = some (.int .i64 turn) ∧ w2.cell? ⟨gi, 0, none⟩ = some (.int .i64 s0) ∧ w2.cell? ⟨gi, 1, none⟩ = some (.int .i64 s1) ∧ w2.cell? ⟨gr, 0, none⟩ = some (.int .i64 x.f0) ∧ w2.cell? ⟨gr, 1, none⟩ = some (.int .i64 x.f1) ∧ w2.cell? ⟨gr, 2, none⟩ = some (.slice A1 x.f2.length c1) ∧ w2.cell? ⟨gr, 3, none⟩ = some (.slice A2 x.f3.length c2) ∧ w2.cell? ⟨gr, 4, none⟩ = some (.int .i64 y.f0) ∧ w2.cell? ⟨gr, 5, none⟩ = some (.int .i64 y.f1) ∧ w2.cell? ⟨gr, 6, none⟩ = some (.slice A3 y.f2.length c3) ∧ w2.cell? ⟨gr, 7, none⟩ = some (.slice A4 y.f3.length c4)) ∧ Aside0 (Fr (fun _ => False) w1 w2 ∧ Fr (fun _ => False) w8 w2 ∧ (y.f2).length ≤ d1 ∧ (y.f3).length ≤ d2 ∧ Rd w2 B1 (y.f2) ∧ Rd w2 B2 (y.f3)) := by
      intro w1 hf1
      refine (copyr_calls y.f0 y.f1 A3 c3 (y.f2) A4 c4 (y.f3) w1 (HR.out.1.lies hf1) HR.out.2.2.1 (HR.out.2.1.lies hf1) HR.out.2.2.2.1 HR.out.2.2.2.2.1).mono ?_
      rintro e w2 ⟨B1, d1, B2, d2, rfl, h1, h2, r1, r2, hb⟩
      have f12 := Fr.of_below hb (fun _ => False)
      have f2 := hf1.trans f12 (fun _ h => h.elim)
      exact ⟨B1, d1, B2, d2, rfl, hS _ f2, ⟨f12, f2, h1, h2, r1, r2⟩⟩
    have HM : ∀ w1, Fr (fun _ => False) w8 w1 → Calls Try.prog 19 #[.agg #[.int .i64 view, .int .i64 turn], .int .i64 s0, .agg #[.int .i64 y.f0, .int .i64 y.f1, .slice A3 (y.f2).length c3, .slice A4 (y.f3).length c4], .int .i64 3] w1 fun e w2 => ∃ A5 c5, e = .returned (.agg #[.int .i64 3, .slice A5 (vsA 2 view turn s0 (bodyA y.f0 y.f1 y.f2 y.f3) 3).length c5]) ∧ (w2.cell? ⟨gb, 0, none⟩ = some (.int .i64 view) ∧ w2.cell? ⟨gb, 1, none⟩ = some (.int .i64 turn) ∧ w2.cell? ⟨gi, 0, none⟩ = some (.int .i64 s0) ∧ w2.cell? ⟨gi, 1, none⟩ = some (.int .i64 s1) ∧ w2.cell? ⟨gr, 0, none⟩ = some (.int .i64 x.f0) ∧ w2.cell? ⟨gr, 1, none⟩ = some (.int .i64 x.f1) ∧ w2.cell? ⟨gr, 2, none⟩ = some (.slice A1 x.f2.length c1) ∧ w2.cell? ⟨gr, 3, none⟩ = some (.slice A2 x.f3.length c2) ∧ w2.cell? ⟨gr, 4, none⟩ = some (.int .i64 y.f0) ∧ w2.cell? ⟨gr, 5, none⟩ = some (.int .i64 y.f1) ∧ w2.cell? ⟨gr, 6, none⟩ = some (.slice A3 y.f2.length c3) ∧ w2.cell? ⟨gr, 7, none⟩ = some (.slice A4 y.f3.length c4)) ∧ Aside0 (Fr (fun _ => False) w1 w2 ∧ Fr (fun _ => False) w8 w2 ∧ (vsA 2 view turn s0 (bodyA y.f0 y.f1 y.f2 y.f3) 3).length ≤ c5 ∧ Rd w2 A5 (vsA 2 view turn s0 (bodyA y.f0 y.f1 y.f2 y.f3) 3)) := by
      intro w1 hf1
      refine (made_calls view turn s0 y.f0 y.f1 A3 c3 (y.f2) A4 c4 (y.f3) 3 w1 (HR.out.1.lies hf1) HR.out.2.2.1 (HR.out.2.1.lies hf1) HR.out.2.2.2.1 HR.out.2.2.2.2.1).mono ?_
      rintro e w2 ⟨A5, c5, rfl, hc5, hO, hb⟩
      have f12 := Fr.of_below hb (fun _ => False)
      have f2 := hf1.trans f12 (fun _ h => h.elim)
      exact ⟨A5, c5, rfl, hS _ f2, ⟨f12, f2, hc5, QB.rd (q_of_own hO)⟩⟩
    have HNt : ∀ w1 B1 d1 B2 d2 g, Aside0 (Fr (fun _ => False) w8 w1 ∧ (y.f2).length ≤ d1 ∧ (y.f3).length ≤ d2 ∧ Rd w1 B1 (y.f2) ∧ Rd w1 B2 (y.f3) ∧ VC w1 (some ⟨g, 0, none⟩) [(3, vsA 2 view turn s0 (bodyA y.f0 y.f1 y.f2 y.f3) 3)]) → Calls Try.prog 12 #[.pointer (some ⟨gl, 0, none⟩), .int .i64 2, .agg #[.int .i64 view, .int .i64 turn], .int .i64 s0, .agg #[.int .i64 y.f0, .int .i64 y.f1, .slice B1 (y.f2).length d1, .slice B2 (y.f3).length d2], .slice (some ⟨g, 0, none⟩) 1 1] w1 fun e w2 => ∃ (A9 : Option Addr × Nat) (E : List Ev), e = .returned (.slice A9.1 E.length A9.2) ∧ (w2.cell? ⟨gb, 0, none⟩ = some (.int .i64 view) ∧ w2.cell? ⟨gb, 1, none⟩ = some (.int .i64 turn) ∧ w2.cell? ⟨gi, 0, none⟩ = some (.int .i64 s0) ∧ w2.cell? ⟨gi, 1, none⟩ = some (.int .i64 s1) ∧ w2.cell? ⟨gr, 0, none⟩ = some (.int .i64 x.f0) ∧ w2.cell? ⟨gr, 1, none⟩ = some (.int .i64 x.f1) ∧ w2.cell? ⟨gr, 2, none⟩ = some (.slice A1 x.f2.length c1) ∧ w2.cell? ⟨gr, 3, none⟩ = some (.slice A2 x.f3.length c2) ∧ w2.cell? ⟨gr, 4, none⟩ = some (.int .i64 y.f0) ∧ w2.cell? ⟨gr, 5, none⟩ = some (.int .i64 y.f1) ∧ w2.cell? ⟨gr, 6, none⟩ = some (.slice A3 y.f2.length c3) ∧ w2.cell? ⟨gr, 7, none⟩ = some (.slice A4 y.f3.length c4)) ∧ Aside0 (∃ D' S' Bs', LdAt w2 base gl bm D' S' Bs' ∧ EvRow w2 w8.heap.size (.slice A9.1 E.length A9.2) E ∧ Steps 2 view turn s0 y.f0 y.f1 (y.f2) (y.f3) ([(⟨2, view, turn, s0, 3, x.f0, x.f1, x.f2, x.f3, vsA 2 view turn s0 (bodyA x.f0 x.f1 x.f2 x.f3) 3, false⟩ : Sn)]) [] [(3, vsA 2 view turn s0 (bodyA y.f0 y.f1 y.f2 y.f3) 3)] S' E ∧ Fr (LF bm Bs) w8 w2) := by
      intro w1 B1 d1 B2 d2 g H
      have hL := HD.out.fr0 H.out.1
      refine (note_calls 2 view turn s0 y.f0 y.f1 B1 d1 (y.f2) B2 d2 (y.f3) (some ⟨g, 0, none⟩) 1 [(3, vsA 2 view turn s0 (bodyA y.f0 y.f1 y.f2 y.f3) 3)] (by simp) w1 base gl bm _ _ _ hL (Nat.le_trans HG.out H.out.1.size) (.inl rfl) H.out.2.2.2.1 H.out.2.2.2.2.1 H.out.2.2.2.2.2 HR.out.2.2.2.2.1 H.out.2.1 H.out.2.2.1 HR.out.2.2.2.2.2.1 HR.out.2.2.2.2.2.2 (fun v hv => by
        have : v = (3, vsA 2 view turn s0 (bodyA y.f0 y.f1 y.f2 y.f3) 3) := by simpa using hv
        subst this
        exact ⟨Nat.le_trans (vsA_len 2 view turn s0 _ 3) (by decide), vsA_bys 2 view turn s0 _ 3, rfl⟩) HW.out.1 HW.out.2.1 HW.out.2.2).mono ?_
      rintro e w2 ⟨D', S', Bs', out, E, rfl, L, nb, ev, st, f⟩
      have hf1 := H.out.1
      have ev2 : EvRow w2 w8.heap.size out E := by
        obtain ⟨css, h1, h2, h3⟩ := ev
        exact ⟨css, h1, row_lower h2 hf1.size, h3⟩
      obtain ⟨A9, c9, rfl⟩ := evrow_len ev
      have hs : w2.cell? ⟨gb, 0, none⟩ = some (.int .i64 view) ∧ w2.cell? ⟨gb, 1, none⟩ = some (.int .i64 turn) ∧ w2.cell? ⟨gi, 0, none⟩ = some (.int .i64 s0) ∧ w2.cell? ⟨gi, 1, none⟩ = some (.int .i64 s1) ∧ w2.cell? ⟨gr, 0, none⟩ = some (.int .i64 x.f0) ∧ w2.cell? ⟨gr, 1, none⟩ = some (.int .i64 x.f1) ∧ w2.cell? ⟨gr, 2, none⟩ = some (.slice A1 x.f2.length c1) ∧ w2.cell? ⟨gr, 3, none⟩ = some (.slice A2 x.f3.length c2) ∧ w2.cell? ⟨gr, 4, none⟩ = some (.int .i64 y.f0) ∧ w2.cell? ⟨gr, 5, none⟩ = some (.int .i64 y.f1) ∧ w2.cell? ⟨gr, 6, none⟩ = some (.slice A3 y.f2.length c3) ∧ w2.cell? ⟨gr, 7, none⟩ = some (.slice A4 y.f3.length c4) := by
        have g0 := hf1.blk H8.out.1 (fun h => h)
        have h0 := f.blk g0 (LF.not hL g0 (by decide))
        have g1 := hf1.blk H8.out.2.1 (fun h => h)
        have h1 := f.blk g1 (LF.not hL g1 (by decide))
        have g2 := hf1.blk H8.out.2.2.1 (fun h => h)
        have h2 := f.blk g2 (LF.not hL g2 (by decide))
        simp [World.cell?, h0, h1, h2]
      exact ⟨(A9, c9), E, rfl, hs, ⟨_, _, _, L, ev2, st, (hf1.mono (fun _ e => e.elim)).trans f (fun k hk => .inl hk)⟩⟩
    have HS := Aside0.mk hS
    have hs0 := hS _ (Fr.refl _ _)
    have HC := Aside0.mk HC
    have HM := Aside0.mk HM
    have HNt := Aside0.mk HNt
    clear hS
    refine wp_cut (fun a' w' => Fm 72 a' ∧ sl a' 3 = .pointer (some ⟨gb, 0, none⟩) ∧ sl a' 4 = .pointer (some ⟨gi, 0, none⟩) ∧ sl a' 5 = .pointer (some ⟨gr, 0, none⟩) ∧ sl a' 7 = .pointer (some ⟨gl, 0, none⟩) ∧ sl a' 8 = .bool false ∧ ∃ (A9 : Option Addr × Nat) (E : List Ev), sl a' 9 = .slice A9.1 E.length A9.2 ∧ Aside0 (∃ D' S' Bs', LdAt w' base gl bm D' S' Bs' ∧ EvRow w' w8.heap.size (.slice A9.1 E.length A9.2) E ∧ Steps 2 view turn s0 y.f0 y.f1 (y.f2) (y.f3) ([(⟨2, view, turn, s0, 3, x.f0, x.f1, x.f2, x.f3, vsA 2 view turn s0 (bodyA x.f0 x.f1 x.f2 x.f3) 3, false⟩ : Sn)]) [] [(3, vsA 2 view turn s0 (bodyA y.f0 y.f1 y.f2 y.f3) 3)] S' E ∧ Fr (LF bm Bs) w8 w')) ?_ ?_
    · refine wp_region_noPanic ?_
      refine wp_region_held_drew (S := (fun w' => w'.cell? ⟨gb, 0, none⟩ = some (.int .i64 view) ∧ w'.cell? ⟨gb, 1, none⟩ = some (.int .i64 turn) ∧ w'.cell? ⟨gi, 0, none⟩ = some (.int .i64 s0) ∧ w'.cell? ⟨gi, 1, none⟩ = some (.int .i64 s1) ∧ w'.cell? ⟨gr, 0, none⟩ = some (.int .i64 x.f0) ∧ w'.cell? ⟨gr, 1, none⟩ = some (.int .i64 x.f1) ∧ w'.cell? ⟨gr, 2, none⟩ = some (.slice A1 x.f2.length c1) ∧ w'.cell? ⟨gr, 3, none⟩ = some (.slice A2 x.f3.length c2) ∧ w'.cell? ⟨gr, 4, none⟩ = some (.int .i64 y.f0) ∧ w'.cell? ⟨gr, 5, none⟩ = some (.int .i64 y.f1) ∧ w'.cell? ⟨gr, 6, none⟩ = some (.slice A3 y.f2.length c3) ∧ w'.cell? ⟨gr, 7, none⟩ = some (.slice A4 y.f3.length c4))) (by kernel_rfl) hs0 (fun hHeld => ?_)
      refine wpAnyH_take (i := 0) (oi := ⟨some 47, _, _, _, _, _⟩) (v := (.pointer (some ⟨gl, 0, none⟩))) rfl (by kernel_rfl) (by kernel_rfl) (by kernel_rfl) (fun _ _ _ h => h) (Or.inl ⟨by rfl, by (intro w' hSw; (try dsimp only at hSw); go_simp)⟩) (by assumption) ?_
      try simp only [Act.put, List.setIfInBounds_toArray, List.set_cons_zero, List.set_cons_succ]
      refine wpAnyH_take (i := 1) (oi := ⟨some 48, _, _, _, _, _⟩) (v := (.agg #[.int .i64 view, .int .i64 turn])) rfl (by kernel_rfl) (by kernel_rfl) (by kernel_rfl) (fun _ _ _ h => h) (Or.inl ⟨by rfl, by (intro w' hSw; (try dsimp only at hSw); go_simp)⟩) (by assumption) ?_
      try simp only [Act.put, List.setIfInBounds_toArray, List.set_cons_zero, List.set_cons_succ]
      refine wpAnyH_take (i := 2) (oi := ⟨some 49, _, _, _, _, _⟩) (v := (.pointer (some ⟨gi, 0, none⟩))) rfl (by kernel_rfl) (by kernel_rfl) (by kernel_rfl) (fun _ _ _ h => h) (Or.inl ⟨by rfl, by (intro w' hSw; (try dsimp only at hSw); go_simp)⟩) (by assumption) ?_
      try simp only [Act.put, List.setIfInBounds_toArray, List.set_cons_zero, List.set_cons_succ]
      refine wpAnyH_take (i := 3) (oi := ⟨some 50, _, _, _, _, _⟩) (v := (.int .i64 s0)) rfl (by kernel_rfl) (by kernel_rfl) (by kernel_rfl) (fun _ _ _ h => h) (Or.inl ⟨by rfl, by (intro w' hSw; (try dsimp only at hSw); go_simp)⟩) (by assumption) ?_
      try simp only [Act.put, List.setIfInBounds_toArray, List.set_cons_zero, List.set_cons_succ]
      refine wpAnyH_take (i := 4) (oi := ⟨some 51, _, _, _, _, _⟩) (v := (.pointer (some ⟨gr, 4, none⟩))) rfl (by kernel_rfl) (by kernel_rfl) (by kernel_rfl) (fun _ _ _ h => h) (Or.inl ⟨by rfl, by (intro w' hSw; (try dsimp only at hSw); go_simp)⟩) (by assumption) ?_
      try simp only [Act.put, List.setIfInBounds_toArray, List.set_cons_zero, List.set_cons_succ]
      refine wpAnyH_take (i := 5) (oi := ⟨some 52, _, _, _, _, _⟩) (v := (.agg #[.int .i64 y.f0, .int .i64 y.f1, .slice A3 y.f2.length c3, .slice A4 y.f3.length c4])) rfl (by kernel_rfl) (by kernel_rfl) (by kernel_rfl) (fun _ _ _ h => h) (Or.inl ⟨by rfl, by (intro w' hSw; (try dsimp only at hSw); go_simp)⟩) (by assumption) ?_
      try simp only [Act.put, List.setIfInBounds_toArray, List.set_cons_zero, List.set_cons_succ]
      refine wpAnyH_take (i := 7) (oi := ⟨some 54, _, _, _, _, _⟩) (v := (.agg #[.int .i64 view, .int .i64 turn])) rfl (by kernel_rfl) (by kernel_rfl) (by kernel_rfl) (fun _ _ _ h => h) (Or.inl ⟨by rfl, by (intro w' hSw; (try dsimp only at hSw); go_simp)⟩) (by assumption) ?_
      try simp only [Act.put, List.setIfInBounds_toArray, List.set_cons_zero, List.set_cons_succ]
      refine wpAnyH_take (i := 8) (oi := ⟨some 55, _, _, _, _, _⟩) (v := (.pointer (some ⟨gi, 0, none⟩))) rfl (by kernel_rfl) (by kernel_rfl) (by kernel_rfl) (fun _ _ _ h => h) (Or.inl ⟨by rfl, by (intro w' hSw; (try dsimp only at hSw); go_simp)⟩) (by assumption) ?_
      try simp only [Act.put, List.setIfInBounds_toArray, List.set_cons_zero, List.set_cons_succ]
      refine wpAnyH_take (i := 9) (oi := ⟨some 56, _, _, _, _, _⟩) (v := (.int .i64 s0)) rfl (by kernel_rfl) (by kernel_rfl) (by kernel_rfl) (fun _ _ _ h => h) (Or.inl ⟨by rfl, by (intro w' hSw; (try dsimp only at hSw); go_simp)⟩) (by assumption) ?_
      try simp only [Act.put, List.setIfInBounds_toArray, List.set_cons_zero, List.set_cons_succ]
      refine wpAnyH_take (i := 10) (oi := ⟨some 57, _, _, _, _, _⟩) (v := (.pointer (some ⟨gr, 4, none⟩))) rfl (by kernel_rfl) (by kernel_rfl) (by kernel_rfl) (fun _ _ _ h => h) (Or.inl ⟨by rfl, by (intro w' hSw; (try dsimp only at hSw); go_simp)⟩) (by assumption) ?_
      try simp only [Act.put, List.setIfInBounds_toArray, List.set_cons_zero, List.set_cons_succ]
      refine wpAnyH_take (i := 11) (oi := ⟨some 58, _, _, _, _, _⟩) (v := (.agg #[.int .i64 y.f0, .int .i64 y.f1, .slice A3 y.f2.length c3, .slice A4 y.f3.length c4])) rfl (by kernel_rfl) (by kernel_rfl) (by kernel_rfl) (fun _ _ _ h => h) (Or.inl ⟨by rfl, by (intro w' hSw; (try dsimp only at hSw); go_simp)⟩) (by assumption) ?_
      try simp only [Act.put, List.setIfInBounds_toArray, List.set_cons_zero, List.set_cons_succ]
      refine wpAnyH_ready (rs := [6]) (by kernel_rfl) (by simp) ?_
      refine AllReadyH.cons (o := ⟨some 53, _, _, _, _, _⟩) rfl (fun K hK => ?_) AllReadyH.nil
      go_simp
      go_at_call 13
      refine (HC.out _ (Fr.refl _ _).of_drew).mono ?_
      rintro e wa ⟨B1, d1, B2, d2, rfl, hswa, Hc⟩
      refine hK.out _ _ hswa (fun hHeld => ?_)
      try simp only [Act.put, List.setIfInBounds_toArray, List.set_cons_zero, List.set_cons_succ]
      refine wpAnyH_ready (rs := [12]) (by kernel_rfl) (by simp) ?_
      refine AllReadyH.cons (o := ⟨some 59, _, _, _, _, _⟩) rfl (fun K hK => ?_) AllReadyH.nil
      go_simp
      go_at_call 19
      refine (HM.out _ Hc.out.2.1).mono ?_
      rintro e wb ⟨A5, c5, rfl, hswb, Hm⟩
      refine hK.out _ _ hswb (fun hHeld => ?_)
      try simp only [Act.put, List.setIfInBounds_toArray, List.set_cons_zero, List.set_cons_succ]
      refine wpAnyH_ready (rs := [13]) (by kernel_rfl) (by simp) ?_
      refine AllReadyH.cons (o := ⟨some 60, _, _, _, _, _⟩) rfl (fun K hK => ?_) AllReadyH.nil
      go_simp
      have hgv := heap_alloc_new wb (.cells #[.int .i64 3, .slice A5 (vsA 2 view turn s0 (bodyA y.f0 y.f1 y.f2 y.f3) 3).length c5] 55)
      have fv : Fr (fun _ => False) wb (wb.alloc (.cells #[.int .i64 3, .slice A5 (vsA 2 view turn s0 (bodyA y.f0 y.f1 y.f2 y.f3) 3).length c5] 55)) := Fr.alloc (Fr.refl _ _) _
      generalize wb.alloc (.cells #[.int .i64 3, .slice A5 (vsA 2 view turn s0 (bodyA y.f0 y.f1 y.f2 y.f3) 3).length c5] 55) = wc at *
      have hswc := HS.out _ ((Hm.out.2.1).trans fv (fun _ h => h.elim))
      refine hK.out _ _ hswc (fun hHeld => ?_)
      try simp only [Act.put, List.setIfInBounds_toArray, List.set_cons_zero, List.set_cons_succ]
      refine wpAnyH_ready (rs := [14]) (by kernel_rfl) (by simp) ?_
      refine AllReadyH.cons (o := ⟨some 61, _, _, _, _, _⟩) rfl (fun K hK => ?_) AllReadyH.nil
      go_simp
      go_at_call 12
      refine (HNt.out _ B1 d1 B2 d2 wb.heap.size ⟨(Hm.out.2.1).trans fv (fun _ h => h.elim), Hc.out.2.2.1, Hc.out.2.2.2.1, (Hc.out.2.2.2.2.1.lies Hm.out.1).lies fv, (Hc.out.2.2.2.2.2.lies Hm.out.1).lies fv, VC.one hgv Hm.out.2.2.1 (Hm.out.2.2.2.lies fv)⟩).mono ?_
      rintro e wZ ⟨A9, E, rfl, hsZ, HZ⟩
      refine hK.out _ _ hsZ (fun hHeld => ?_)
      try simp only [Act.put, List.setIfInBounds_toArray, List.set_cons_zero, List.set_cons_succ]
      refine wpAnyH_take (i := 15) (oi := ⟨some 9, _, _, _, _, _⟩) (v := (.slice A9.1 E.length A9.2)) rfl (by kernel_rfl) (by kernel_rfl) (by kernel_rfl) (fun _ _ _ h => h) (Or.inl ⟨by rfl, by (intro w' hSw; (try dsimp only at hSw); go_simp)⟩) (by assumption) ?_
      try simp only [Act.put, List.setIfInBounds_toArray, List.set_cons_zero, List.set_cons_succ]
      refine wpAnyH_done (by kernel_rfl) ?_ _
      refine NoPanic.normal ?_
      exact ⟨rfl, ⟨rfl, rfl⟩, rfl, rfl, rfl, rfl, rfl, A9, E, rfl, HZ⟩
    rintro a' w9 ⟨hFm, j3, j4, j5, j7, j8, A9, E, j9, HZ⟩
    obtain ⟨D9, S9, Bs9, L9, _, st9, f9⟩ := HZ.out
    obtain ⟨rfl, rfl⟩ := steps_told st9 (vrA_made (show (0 : Int) ≤ 3 by decide) (show (3 : Int) ≤ 15 by decide)) (by simp) (i := 0) rfl rfl rfl HNE.out
    have j9 : sl a' 9 = .slice A9.1 1 A9.2 := j9
    rw [fm72 hFm, j7, j8, j9]
    have H9 := Aside0.mk (H8.out.2.2.2.trans f9 (fun k hk => .inr (Nat.le_trans HZs.out (HD.out.lf_ge hk))))
    have HL9 := Aside0.mk L9
    clear hFm j3 j4 j5 j7 j8 j9 HZ L9 st9 f9 HD HG HR HC HM HNt HS hs0 H8
    go_wp2_with (fail)
    refine (llen_calls w9 base gl bm _ _ _ HL9.out).mono ?_
    rintro e w10 ⟨e1, hb10⟩
    obtain rfl : e = .returned (.int .i64 1) := e1
    have H10 := Aside0.mk (H9.out.then_below hb10)
    clear hb10
    go_wp2
    go_ret
    exact ⟨rfl, frB H10.out⟩
end Go.Proofs.Ytnabilhcmplhcaa.Sha
