/- Parts of one work, laid together: LdZ, LdZn, LdZo, LdZm. -/
import Derived.Test.YtnabilhcmplhcaaLgM4
import Derived.Test.YtnabilhcmplhcaaLdY
import Derived.Test.YtnabilhcmplhcaaLdA
/-
  LedgerCatches: what its loops keep.
-/
set_option linter.unusedVariables false
set_option linter.unusedSimpArgs false
namespace Go.Proofs.Ytnabilhcmplhcaa.Sha
open Go.RowKit Go.Proofs.YtnabilhcmplhcaaW.PrintWords Go.Proofs.YtnabilhcmplhcaaW.PrintLast Go.Proofs.YtnabilhcmplhcaaW.PrintMore Go.Proofs.Ytnabilhcmplhcaa.Q Go.Proofs.Ytnabilhcmplhcaa.Fr Go.Proofs.Ytnabilhcmplhcaa.Oct
open Go.Maps Go.ChangeMaps
open Go.Proofs.Ytnabilhcmplhcaa.Open (okR)

def rqA (x y : S31) (j : Nat) : S31 := if j % 2 = 0 then x else y
def sqA (view turn slot : Int) (x y : S31) (j : Nat) (told : Bool) : Sn := ⟨2, view, turn, slot, (j : Int), (rqA x y j).f0, (rqA x y j).f1, (rqA x y j).f2, (rqA x y j).f3, vsA 2 view turn slot (bodyA (rqA x y j).f0 (rqA x y j).f1 (rqA x y j).f2 (rqA x y j).f3) (j : Int), told⟩
def L1 (view turn slot : Int) (x y : S31) (n : Nat) : List Sn := (List.range n).map fun j => sqA view turn slot x y j false
def L2 (view turn slot : Int) (x y : S31) (df : Bool) (k : Nat) : List Sn := (List.range 15).map fun j => sqA view turn slot x y j (decide (j < k) && df)
theorem L1_succ (view turn slot : Int) (x y : S31) (n : Nat) : L1 view turn slot x y (n + 1) = L1 view turn slot x y n ++ [sqA view turn slot x y n false] := by
  simp [L1, List.range_succ]
theorem L1_len (view turn slot : Int) (x y : S31) (n : Nat) : (L1 view turn slot x y n).length = n := by simp [L1]
theorem wf_nat {n : Nat} (h : n ≤ 15) : (Lit.int .i64 (n : Int)).wf = true := by
  simp [Lit.wf, IntKind.min, IntKind.max, IntKind.signed, IntKind.bits]
  omega
theorem L1_key {view turn slot : Int} {x y : S31} {n : Nat} (wv : (Lit.int .i64 view).wf = true) (wt : (Lit.int .i64 turn).wf = true) (wl : (Lit.int .i64 slot).wf = true) (hn : n ≤ 15) : plK 2 view turn slot (n : Int) ∉ (L1 view turn slot x y n).map Sn.key := fun h => by
  obtain ⟨s, hs, e⟩ := List.mem_map.1 h
  obtain ⟨j, hj, rfl⟩ := List.mem_map.1 hs
  have hj : j < n := by simpa using hj
  have := (plK_inj rfl wv wt wl (wf_nat (by omega)) rfl wv wt wl (wf_nat hn) (show plK 2 view turn slot (j : Int) = plK 2 view turn slot (n : Int) from e)).2.2.2.2
  omega
theorem L2_zero (view turn slot : Int) (x y : S31) (df : Bool) : L1 view turn slot x y 15 = L2 view turn slot x y df 0 := by
  simp [L1, L2]
theorem L2_get (view turn slot : Int) (x y : S31) (df : Bool) {k : Nat} (hk : k < 15) : (L2 view turn slot x y df k)[k]? = some (sqA view turn slot x y k false) := by
  simp [L2, List.getElem?_map, hk]
theorem L2_set (view turn slot : Int) (x y : S31) {k : Nat} (hk : k < 15) : (L2 view turn slot x y true k).set k { sqA view turn slot x y k false with told := true } = L2 view turn slot x y true (k + 1) := by
  refine List.ext_getElem? fun j => ?_
  rw [List.getElem?_set]
  unfold L2
  simp only [List.getElem?_map, List.length_map, List.length_range]
  by_cases hj : j < 15
  · rw [List.getElem?_range hj]
    by_cases e : k = j
    · subst e
      simp [hk, sqA]
    · rw [if_neg e]
      have h2 : decide (j < k) = decide (j < k + 1) := by
        by_cases hjk : j < k
        · rw [decide_eq_true hjk, decide_eq_true (by omega)]
        · rw [decide_eq_false hjk, decide_eq_false (by omega)]
      simp [h2]
  · rw [if_neg (by omega), List.getElem?_eq_none (by simpa using hj)]
    rfl
theorem L2_same (view turn slot : Int) (x y : S31) (k k' : Nat) : L2 view turn slot x y false k = L2 view turn slot x y false k' := by
  simp [L2]
theorem rqA_0 {x y : S31} {j : Nat} (h : (j : Int) % 2 = 0) : rqA x y j = x := by unfold rqA; rw [if_pos (by omega)]
theorem rqA_1 {x y : S31} {j : Nat} (h : (j : Int) % 2 = 1) : rqA x y j = y := by unfold rqA; rw [if_neg (by omega)]
/-- What the loops keep. -/
structure Kc (w W : World) (gb gr gl bm : Nat) (view turn : Int) (x y : S31) (A1 : Option Addr) (c1 : Nat) (A2 : Option Addr) (c2 : Nat) (A3 : Option Addr) (c3 : Nat) (A4 : Option Addr) (c4 : Nat) (S : List Sn) : Prop where
  F : Fr (fun _ => False) w W
  hb : W.heap[gb]? = some (.cells #[.int .i64 view, .int .i64 turn] 28 (0, 0))
  hr : W.heap[gr]? = some (.cells #[.int .i64 x.f0, .int .i64 x.f1, .slice A1 x.f2.length c1, .slice A2 x.f3.length c2, .int .i64 y.f0, .int .i64 y.f1, .slice A3 y.f2.length c3, .slice A4 y.f3.length c4] 52 (0, 0))
  ld : ∃ D Bs, LdAt W w.heap.size gl bm D S Bs
theorem Kc.below {w W W' : World} {gb gr gl bm : Nat} {view turn : Int} {x y : S31} {A1 : Option Addr} {c1 : Nat} {A2 : Option Addr} {c2 : Nat} {A3 : Option Addr} {c3 : Nat} {A4 : Option Addr} {c4 : Nat} {S : List Sn} (h : Kc w W gb gr gl bm view turn x y A1 c1 A2 c2 A3 c3 A4 c4 S) (hf : Fr (fun _ => False) W W') : Kc w W' gb gr gl bm view turn x y A1 c1 A2 c2 A3 c3 A4 c4 S := by
  obtain ⟨D, Bs, hl⟩ := h.ld
  exact ⟨h.F.trans hf (fun _ e => e.elim), hf.blk h.hb (fun e => e), hf.blk h.hr (fun e => e), D, Bs, hl.fr0 hf⟩
theorem Kc.note {w W W' : World} {gb gr gl bm : Nat} {view turn : Int} {x y : S31} {A1 : Option Addr} {c1 : Nat} {A2 : Option Addr} {c2 : Nat} {A3 : Option Addr} {c3 : Nat} {A4 : Option Addr} {c4 : Nat} {S S' : List Sn} (h : Kc w W gb gr gl bm view turn x y A1 c1 A2 c2 A3 c3 A4 c4 S) {D : DataW Unit} {Bs : List Nat} (hl : LdAt W w.heap.size gl bm D S Bs) (hf : Fr (LF bm Bs) W W') {D' : DataW Unit} {Bs' : List Nat} (hl' : LdAt W' w.heap.size gl bm D' S' Bs') : Kc w W' gb gr gl bm view turn x y A1 c1 A2 c2 A3 c3 A4 c4 S' :=
  ⟨h.F.trans hf (fun k hk => .inr (hl.lf_ge hk)), hf.blk h.hb (LF.not hl h.hb (by decide)), hf.blk h.hr (LF.not hl h.hr (by decide)), D', Bs', hl'⟩
theorem steps_put {kind view turn slot c s : Int} {op sg : List Int} {S : List Sn} {v : Int × List Int} {S' : List Sn} {E : List Ev} (h : Steps kind view turn slot c s op sg S [] [v] S' E) (hr : vrA kind view turn slot (bodyA c s op sg) v.1 v.2 = true) (hn : plK kind view turn slot v.1 ∉ S.map Sn.key) (hl : S.length < 8192) : S' = S ++ [⟨kind, view, turn, slot, v.1, c, s, op, sg, v.2, false⟩] ∧ E = [] := by
  obtain ⟨S1, E1, h1, rfl, rfl⟩ := h
  rcases h1 with ⟨h, _⟩ | ⟨_, _, _, h2, h3⟩ | ⟨_, _, h, _⟩ | ⟨_, i, x, hi, hk, _⟩ | ⟨_, i, x, hi, hk, _⟩
  · rw [hr] at h; cases h
  · exact ⟨h2, h3⟩
  · omega
  · exact absurd (List.mem_map.2 ⟨x, List.mem_of_getElem? hi, hk⟩) hn
  · exact absurd (List.mem_map.2 ⟨x, List.mem_of_getElem? hi, hk⟩) hn
theorem key_same {S : List Sn} (hn : (S.map Sn.key).Nodup) {i j : Nat} {x y : Sn} (hx : S[i]? = some x) (hy : S[j]? = some y) (hk : x.key = y.key) : j = i ∧ y = x := by
  have hj := (List.getElem?_eq_some_iff.1 hy).1
  have e : (S.map Sn.key)[j]? = (S.map Sn.key)[i]? := by rw [List.getElem?_map, List.getElem?_map, hy, hx, Option.map_some, Option.map_some, hk]
  have := (List.getElem?_inj (by simpa using hj) hn).1 e
  subst this
  rw [hx] at hy
  exact ⟨rfl, by simpa using hy.symm⟩
/-- A second vote of an untold place for another request is told. -/
theorem steps_told {kind view turn slot c s : Int} {op sg : List Int} {S : List Sn} {v : Int × List Int} {S' : List Sn} {E : List Ev} (h : Steps kind view turn slot c s op sg S [] [v] S' E) (hr : vrA kind view turn slot (bodyA c s op sg) v.1 v.2 = true) (hn : (S.map Sn.key).Nodup) {i : Nat} {x : Sn} (hx : S[i]? = some x) (hk : x.key = plK kind view turn slot v.1) (ht : x.told = false) (hb : bodyA x.c x.s x.op x.sg ≠ bodyA c s op sg) : S' = S.set i { x with told := true } ∧ E = [mkEv x c s op sg v.2] := by
  have hm : plK kind view turn slot v.1 ∈ S.map Sn.key := by rw [← hk]; exact List.mem_map.2 ⟨x, List.mem_of_getElem? hx, rfl⟩
  obtain ⟨S1, E1, h1, rfl, rfl⟩ := h
  rcases h1 with ⟨h, _⟩ | ⟨_, h, _⟩ | ⟨_, h, _⟩ | ⟨_, j, y, hy, hky, h, _⟩ | ⟨_, j, y, hy, hky, h1, h2, h3, h4⟩
  · rw [hr] at h; cases h
  · exact absurd hm h
  · exact absurd hm h
  · obtain ⟨rfl, rfl⟩ := key_same hn hx hy (hk.trans hky.symm)
    rcases h with h | h
    · rw [ht] at h; cases h
    · exact absurd h hb
  · obtain ⟨rfl, rfl⟩ := key_same hn hx hy (hk.trans hky.symm)
    exact ⟨h3, h4⟩
/-- A second vote for the same request is nothing new. -/
theorem steps_again {kind view turn slot c s : Int} {op sg : List Int} {S : List Sn} {v : Int × List Int} {S' : List Sn} {E : List Ev} (h : Steps kind view turn slot c s op sg S [] [v] S' E) (hn : (S.map Sn.key).Nodup) {i : Nat} {x : Sn} (hx : S[i]? = some x) (hk : x.key = plK kind view turn slot v.1) (hb : bodyA x.c x.s x.op x.sg = bodyA c s op sg) : S' = S ∧ E = [] := by
  have hm : plK kind view turn slot v.1 ∈ S.map Sn.key := by rw [← hk]; exact List.mem_map.2 ⟨x, List.mem_of_getElem? hx, rfl⟩
  obtain ⟨S1, E1, h1, rfl, rfl⟩ := h
  rcases h1 with ⟨_, h2, h3⟩ | ⟨_, h, _⟩ | ⟨_, h, _⟩ | ⟨_, j, y, hy, hky, _, h2, h3⟩ | ⟨_, j, y, hy, hky, h1, h2, _⟩
  · exact ⟨h2, h3⟩
  · exact absurd hm h
  · exact absurd hm h
  · exact ⟨h2, h3⟩
  · obtain ⟨rfl, rfl⟩ := key_same hn hx hy (hk.trans hky.symm)
    exact absurd hb h2
set_option maxHeartbeats 8000000 in
set_option maxRecDepth 100000 in
theorem roundC (u : Nat → Value) (view turn slot : Int) (x y : S31) (A1 : Option Addr) (c1 : Nat) (A2 : Option Addr) (c2 : Nat) (A3 : Option Addr) (c3 : Nat) (A4 : Option Addr) (c4 : Nat) (w W : World) (gb gr gl bm : Nat) (HX : Aside0 (Rd w A1 x.f2 ∧ Rd w A2 x.f3 ∧ x.f2.length ≤ c1 ∧ x.f3.length ≤ c2 ∧ x.f2.length + x.f3.length ≤ 1048576 ∧ Bys x.f2 ∧ Bys x.f3)) (HY : Aside0 (Rd w A3 y.f2 ∧ Rd w A4 y.f3 ∧ y.f2.length ≤ c3 ∧ y.f3.length ≤ c4 ∧ y.f2.length + y.f3.length ≤ 1048576 ∧ Bys y.f2 ∧ Bys y.f3))
    (HW : Aside0 ((Lit.int .i64 view).wf = true ∧ (Lit.int .i64 turn).wf = true ∧ (Lit.int .i64 slot).wf = true)) (i : Nat) (hi : i < 15) (p : Int) (hp : (i : Int) % 2 = p) (z : S31) (Az : Option Addr) (cz : Nat) (Bz : Option Addr) (dz : Nat) (hz : rqA x y i = z)
    (H : Kc w W gb gr gl bm view turn x y A1 c1 A2 c2 A3 c3 A4 c4 (L1 view turn slot x y i)) (hzc : W.cell? ⟨gr, p.toNat * 4, none⟩ = some (.int .i64 z.f0) ∧ W.cell? ⟨gr, p.toNat * 4 + 1, none⟩ = some (.int .i64 z.f1) ∧ W.cell? ⟨gr, p.toNat * 4 + 2, none⟩ = some (.slice Az z.f2.length cz) ∧ W.cell? ⟨gr, p.toNat * 4 + 3, none⟩ = some (.slice Bz z.f3.length dz)) (HZr : Aside0 (Rd W Az z.f2 ∧ Rd W Bz z.f3 ∧ z.f2.length ≤ cz ∧ z.f3.length ≤ dz ∧ z.f2.length + z.f3.length ≤ 1048576 ∧ Bys z.f2 ∧ Bys z.f3))
    (Q : Exit → Act → World → Prop) (hQ : ∀ a' W', Fm 114 a' → sl a' 1 = .int .i64 slot → sl a' 3 = .pointer (some ⟨gb, 0, none⟩) → sl a' 5 = .pointer (some ⟨gr, 0, none⟩) → sl a' 7 = .pointer (some ⟨gl, 0, none⟩) → sl a' 8 = .int .i64 ((i : Int) + 1) → Kc w W' gb gr gl bm view turn x y A1 c1 A2 c2 A3 c3 A4 c4 (L1 view turn slot x y (i + 1)) → Q .normal a' W') :
    Code.wp Try.prog (bodyN Try.f6 0) Q ⟨#[u 0, .int .i64 slot, u 2, .pointer (some ⟨gb, 0, none⟩), u 4, .pointer (some ⟨gr, 0, none⟩), u 6, .pointer (some ⟨gl, 0, none⟩), .int .i64 (i : Int), u 9, u 10, u 11, u 12, u 13, u 14, u 15, u 16, u 17, u 18, u 19, u 20, u 21, u 22, u 23, u 24, u 25, u 26, u 27, u 28, u 29, u 30, u 31, u 32, u 33, u 34, u 35, u 36, u 37, u 38, u 39, u 40, u 41, u 42, u 43, u 44, u 45, u 46, u 47, u 48, u 49, u 50, u 51, u 52, u 53, u 54, u 55, u 56, u 57, u 58, u 59, u 60, u 61, u 62, u 63, u 64, u 65, u 66, u 67, u 68, u 69, u 70, u 71, u 72, u 73, u 74, u 75, u 76, u 77, u 78, u 79, u 80, u 81, u 82, u 83, u 84, u 85, u 86, u 87, u 88, u 89, u 90, u 91, u 92, u 93, u 94, u 95, u 96, u 97, u 98, u 99, u 100, u 101, u 102, u 103, u 104, u 105, u 106, u 107, u 108, u 109, u 110, u 111, u 112, u 113], []⟩ W := by
  have b0 : decide ((i : Int) < 15) = true := decide_eq_true (by omega)
  have b5 : wrap64 ((i : Int) + 1) = (i : Int) + 1 := by unfold wrap64; omega
  have p0 : (0 : Int) ≤ p := by omega
  have p1 : p < 2 := by omega
  have r1 : (i : Int).tmod 2 = p := by rw [Int.tmod_eq_emod_of_nonneg (by omega)]; exact hp
  have B5 := Aside0.mk b5
  have HH := Aside0.mk (And.intro H hQ)
  obtain ⟨z0, z1, z2, z3⟩ := hzc
  clear H hQ hp
  conv => arg 2; whnf
  go_wp2_with (first | ((with_reducible refine gate_dst (N := 9) rfl ?_); refine wpList_alloc_abs (by rfl) 31 (by rfl) (.agg Z4q) (by kernel_rfl) ?_; intro w2 hb2 hs2 hg2) | ((with_reducible refine gate_store (p := 9) rfl ?_); refine Aside0.out ?_))
  refine ⟨?_⟩
  refine wpList_store_abs (by rfl) 31 _ _ (by rfl) W.heap.size #[.int .i64 z.f0, .int .i64 z.f1, .slice Az z.f2.length cz, .slice Bz z.f3.length dz] (by rfl) (by rfl) 31 Z4q hg2 (by kernel_rfl) (by rfl) (by simp [Value.oneCell']) ?_
  intro w3 hf3 hs3 hg3
  have F3 : Fr (fun _ => False) W w3 := (Fr.of_below hb2 (fun _ => False)).trans hf3 (fun k hk => .inr (by omega))
  have K3 := HH.out.1.below F3
  have H3 := Aside0.mk (And.intro K3.hb (And.intro hg3 K3))
  have HR := Aside0.mk (And.intro (HZr.out.1.lies F3) (And.intro (HZr.out.2.1.lies F3) HZr.out.2.2))
  have HI := Aside0.mk (And.intro (wf_nat (Nat.le_of_lt hi)) (And.intro hi hz))
  obtain ⟨D, Bs, hld⟩ := K3.ld
  obtain ⟨base, hbase⟩ : ∃ b, w.heap.size = b := ⟨_, rfl⟩
  have HG := Aside0.mk (show base ≤ w3.heap.size from by rw [← hbase]; exact K3.F.size)
  rw [hbase] at hld
  have HD := Aside0.mk hld
  have HBs := Aside0.mk hbase
  clear hb2 hs2 hg2 hf3 hs3 hg3 F3 K3 hld hbase z0 z1 z2 z3 b0 p0 p1 r1 hi hz b5
  go_wp2_with (fail)
  have hS : ∀ w', Fr (fun _ => False) w3 w' → w'.cell? ⟨gb, 0, none⟩ = some (.int .i64 view) ∧ w'.cell? ⟨gb, 1, none⟩ = some (.int .i64 turn) ∧ w'.cell? ⟨W.heap.size, 0, none⟩ = some (.int .i64 z.f0) ∧ w'.cell? ⟨W.heap.size, 1, none⟩ = some (.int .i64 z.f1) ∧ w'.cell? ⟨W.heap.size, 2, none⟩ = some (.slice Az z.f2.length cz) ∧ w'.cell? ⟨W.heap.size, 3, none⟩ = some (.slice Bz z.f3.length dz) := fun w' hf => by
    have h1 := hf.blk H3.out.1 (fun h => h)
    have h2 := hf.blk H3.out.2.1 (fun h => h)
    simp [World.cell?, h1, h2]
  have HC : ∀ w1, Fr (fun _ => False) w3 w1 → Calls Try.prog 13 #[.agg #[.int .i64 z.f0, .int .i64 z.f1, .slice Az (z.f2).length cz, .slice Bz (z.f3).length dz]] w1 fun e w2 => ∃ B1 d1 B2 d2, e = .returned (.agg #[.int .i64 z.f0, .int .i64 z.f1, .slice B1 (z.f2).length d1, .slice B2 (z.f3).length d2]) ∧ (w2.cell? ⟨gb, 0, none⟩ = some (.int .i64 view) ∧ w2.cell? ⟨gb, 1, none⟩ = some (.int .i64 turn) ∧ w2.cell? ⟨W.heap.size, 0, none⟩ = some (.int .i64 z.f0) ∧ w2.cell? ⟨W.heap.size, 1, none⟩ = some (.int .i64 z.f1) ∧ w2.cell? ⟨W.heap.size, 2, none⟩ = some (.slice Az z.f2.length cz) ∧ w2.cell? ⟨W.heap.size, 3, none⟩ = some (.slice Bz z.f3.length dz)) ∧ Aside0 (Fr (fun _ => False) w1 w2 ∧ Fr (fun _ => False) w3 w2 ∧ (z.f2).length ≤ d1 ∧ (z.f3).length ≤ d2 ∧ Rd w2 B1 (z.f2) ∧ Rd w2 B2 (z.f3)) := by
    intro w1 hf1
    refine (copyr_calls z.f0 z.f1 Az cz (z.f2) Bz dz (z.f3) w1 (HR.out.1.lies hf1) HR.out.2.2.1 (HR.out.2.1.lies hf1) HR.out.2.2.2.1 HR.out.2.2.2.2.1).mono ?_
    rintro e w2 ⟨B1, d1, B2, d2, rfl, h1, h2, r1, r2, hb⟩
    have f12 := Fr.of_below hb (fun _ => False)
    have f2 := hf1.trans f12 (fun _ h => h.elim)
    exact ⟨B1, d1, B2, d2, rfl, hS _ f2, ⟨f12, f2, h1, h2, r1, r2⟩⟩
  have HM : ∀ w1, Fr (fun _ => False) w3 w1 → Calls Try.prog 19 #[.agg #[.int .i64 view, .int .i64 turn], .int .i64 slot, .agg #[.int .i64 z.f0, .int .i64 z.f1, .slice Az (z.f2).length cz, .slice Bz (z.f3).length dz], .int .i64 (i : Int)] w1 fun e w2 => ∃ A5 c5, e = .returned (.agg #[.int .i64 (i : Int), .slice A5 (vsA 2 view turn slot (bodyA z.f0 z.f1 z.f2 z.f3) (i : Int)).length c5]) ∧ (w2.cell? ⟨gb, 0, none⟩ = some (.int .i64 view) ∧ w2.cell? ⟨gb, 1, none⟩ = some (.int .i64 turn) ∧ w2.cell? ⟨W.heap.size, 0, none⟩ = some (.int .i64 z.f0) ∧ w2.cell? ⟨W.heap.size, 1, none⟩ = some (.int .i64 z.f1) ∧ w2.cell? ⟨W.heap.size, 2, none⟩ = some (.slice Az z.f2.length cz) ∧ w2.cell? ⟨W.heap.size, 3, none⟩ = some (.slice Bz z.f3.length dz)) ∧ Aside0 (Fr (fun _ => False) w1 w2 ∧ Fr (fun _ => False) w3 w2 ∧ (vsA 2 view turn slot (bodyA z.f0 z.f1 z.f2 z.f3) (i : Int)).length ≤ c5 ∧ Rd w2 A5 (vsA 2 view turn slot (bodyA z.f0 z.f1 z.f2 z.f3) (i : Int))) := by
    intro w1 hf1
    refine (made_calls view turn slot z.f0 z.f1 Az cz (z.f2) Bz dz (z.f3) (i : Int) w1 (HR.out.1.lies hf1) HR.out.2.2.1 (HR.out.2.1.lies hf1) HR.out.2.2.2.1 HR.out.2.2.2.2.1).mono ?_
    rintro e w2 ⟨A5, c5, rfl, hc5, hO, hb⟩
    have f12 := Fr.of_below hb (fun _ => False)
    have f2 := hf1.trans f12 (fun _ h => h.elim)
    exact ⟨A5, c5, rfl, hS _ f2, ⟨f12, f2, hc5, QB.rd (q_of_own hO)⟩⟩
  have HNt : ∀ w1 B1 d1 B2 d2 g, Aside0 (Fr (fun _ => False) w3 w1 ∧ (z.f2).length ≤ d1 ∧ (z.f3).length ≤ d2 ∧ Rd w1 B1 (z.f2) ∧ Rd w1 B2 (z.f3) ∧ VC w1 (some ⟨g, 0, none⟩) [((i : Int), vsA 2 view turn slot (bodyA z.f0 z.f1 z.f2 z.f3) (i : Int))]) → Calls Try.prog 12 #[.pointer (some ⟨gl, 0, none⟩), .int .i64 2, .agg #[.int .i64 view, .int .i64 turn], .int .i64 slot, .agg #[.int .i64 z.f0, .int .i64 z.f1, .slice B1 (z.f2).length d1, .slice B2 (z.f3).length d2], .slice (some ⟨g, 0, none⟩) 1 1] w1 fun e w2 => ∃ (A9 : Option Addr × Nat) (E : List Ev), e = .returned (.slice A9.1 E.length A9.2) ∧ (w2.cell? ⟨gb, 0, none⟩ = some (.int .i64 view) ∧ w2.cell? ⟨gb, 1, none⟩ = some (.int .i64 turn) ∧ w2.cell? ⟨W.heap.size, 0, none⟩ = some (.int .i64 z.f0) ∧ w2.cell? ⟨W.heap.size, 1, none⟩ = some (.int .i64 z.f1) ∧ w2.cell? ⟨W.heap.size, 2, none⟩ = some (.slice Az z.f2.length cz) ∧ w2.cell? ⟨W.heap.size, 3, none⟩ = some (.slice Bz z.f3.length dz)) ∧ Aside0 (∃ D' S' Bs', LdAt w2 base gl bm D' S' Bs' ∧ EvRow w2 w3.heap.size (.slice A9.1 E.length A9.2) E ∧ Steps 2 view turn slot z.f0 z.f1 (z.f2) (z.f3) (L1 view turn slot x y i) [] [((i : Int), vsA 2 view turn slot (bodyA z.f0 z.f1 z.f2 z.f3) (i : Int))] S' E ∧ Fr (LF bm Bs) w3 w2) := by
    intro w1 B1 d1 B2 d2 g H
    have hL := HD.out.fr0 H.out.1
    refine (note_calls 2 view turn slot z.f0 z.f1 B1 d1 (z.f2) B2 d2 (z.f3) (some ⟨g, 0, none⟩) 1 [((i : Int), vsA 2 view turn slot (bodyA z.f0 z.f1 z.f2 z.f3) (i : Int))] (by simp) w1 base gl bm _ _ _ hL (Nat.le_trans HG.out H.out.1.size) (.inl rfl) H.out.2.2.2.1 H.out.2.2.2.2.1 H.out.2.2.2.2.2 HR.out.2.2.2.2.1 H.out.2.1 H.out.2.2.1 HR.out.2.2.2.2.2.1 HR.out.2.2.2.2.2.2 (fun v hv => by
      have : v = ((i : Int), vsA 2 view turn slot (bodyA z.f0 z.f1 z.f2 z.f3) (i : Int)) := by simpa using hv
      subst this
      exact ⟨Nat.le_trans (vsA_len 2 view turn slot _ (i : Int)) (by decide), vsA_bys 2 view turn slot _ (i : Int), HI.out.1⟩) HW.out.1 HW.out.2.1 HW.out.2.2).mono ?_
    rintro e w2 ⟨D', S', Bs', out, E, rfl, L, nb, ev, st, f⟩
    have hf1 := H.out.1
    have ev2 : EvRow w2 w3.heap.size out E := by
      obtain ⟨css, h1, h2, h3⟩ := ev
      exact ⟨css, h1, row_lower h2 hf1.size, h3⟩
    obtain ⟨A9, c9, rfl⟩ := evrow_len ev
    have hs : w2.cell? ⟨gb, 0, none⟩ = some (.int .i64 view) ∧ w2.cell? ⟨gb, 1, none⟩ = some (.int .i64 turn) ∧ w2.cell? ⟨W.heap.size, 0, none⟩ = some (.int .i64 z.f0) ∧ w2.cell? ⟨W.heap.size, 1, none⟩ = some (.int .i64 z.f1) ∧ w2.cell? ⟨W.heap.size, 2, none⟩ = some (.slice Az z.f2.length cz) ∧ w2.cell? ⟨W.heap.size, 3, none⟩ = some (.slice Bz z.f3.length dz) := by
      have g0 := hf1.blk H3.out.1 (fun h => h)
      have h0 := f.blk g0 (LF.not hL g0 (by decide))
      have g1 := hf1.blk H3.out.2.1 (fun h => h)
      have h1 := f.blk g1 (LF.not hL g1 (by decide))
      simp [World.cell?, h0, h1]
    exact ⟨(A9, c9), E, rfl, hs, ⟨_, _, _, L, ev2, st, (hf1.mono (fun _ e => e.elim)).trans f (fun k hk => .inl hk)⟩⟩
  have HS := Aside0.mk hS
  have hs0 := hS _ (Fr.refl _ _)
  have HC := Aside0.mk HC
  have HM := Aside0.mk HM
  have HNt := Aside0.mk HNt
  clear hS
  refine wp_cut (fun a' w' => Fm 114 a' ∧ sl a' 1 = .int .i64 slot ∧ sl a' 3 = .pointer (some ⟨gb, 0, none⟩) ∧ sl a' 5 = .pointer (some ⟨gr, 0, none⟩) ∧ sl a' 7 = .pointer (some ⟨gl, 0, none⟩) ∧ sl a' 8 = .int .i64 (i : Int) ∧ sl a' 38 = .bool false ∧ Aside0 (Kc w w' gb gr gl bm view turn x y A1 c1 A2 c2 A3 c3 A4 c4 (L1 view turn slot x y (i + 1)))) ?_ ?_
  · refine wp_region_noPanic ?_
    refine wp_region_held_drew (S := (fun w' => w'.cell? ⟨gb, 0, none⟩ = some (.int .i64 view) ∧ w'.cell? ⟨gb, 1, none⟩ = some (.int .i64 turn) ∧ w'.cell? ⟨W.heap.size, 0, none⟩ = some (.int .i64 z.f0) ∧ w'.cell? ⟨W.heap.size, 1, none⟩ = some (.int .i64 z.f1) ∧ w'.cell? ⟨W.heap.size, 2, none⟩ = some (.slice Az z.f2.length cz) ∧ w'.cell? ⟨W.heap.size, 3, none⟩ = some (.slice Bz z.f3.length dz))) (by kernel_rfl) hs0 (fun hHeld => ?_)
    refine wpAnyH_take (i := 0) (oi := ⟨some 25, _, _, _, _, _⟩) (v := (.pointer (some ⟨gl, 0, none⟩))) rfl (by kernel_rfl) (by kernel_rfl) (by kernel_rfl) (fun _ _ _ h => h) (Or.inl ⟨by rfl, by (intro w' hSw; (try dsimp only at hSw); go_simp)⟩) (by assumption) ?_
    try simp only [Act.put, List.setIfInBounds_toArray, List.set_cons_zero, List.set_cons_succ]
    refine wpAnyH_take (i := 1) (oi := ⟨some 26, _, _, _, _, _⟩) (v := (.agg #[.int .i64 view, .int .i64 turn])) rfl (by kernel_rfl) (by kernel_rfl) (by kernel_rfl) (fun _ _ _ h => h) (Or.inl ⟨by rfl, by (intro w' hSw; (try dsimp only at hSw); go_simp)⟩) (by assumption) ?_
    try simp only [Act.put, List.setIfInBounds_toArray, List.set_cons_zero, List.set_cons_succ]
    refine wpAnyH_take (i := 2) (oi := ⟨some 27, _, _, _, _, _⟩) (v := (.int .i64 slot)) rfl (by kernel_rfl) (by kernel_rfl) (by kernel_rfl) (fun _ _ _ h => h) (Or.inl ⟨by rfl, by (intro w' hSw; (try dsimp only at hSw); go_simp)⟩) (by assumption) ?_
    try simp only [Act.put, List.setIfInBounds_toArray, List.set_cons_zero, List.set_cons_succ]
    refine wpAnyH_take (i := 3) (oi := ⟨some 28, _, _, _, _, _⟩) (v := (.agg #[.int .i64 z.f0, .int .i64 z.f1, .slice Az z.f2.length cz, .slice Bz z.f3.length dz])) rfl (by kernel_rfl) (by kernel_rfl) (by kernel_rfl) (fun _ _ _ h => h) (Or.inl ⟨by rfl, by (intro w' hSw; (try dsimp only at hSw); go_simp)⟩) (by assumption) ?_
    try simp only [Act.put, List.setIfInBounds_toArray, List.set_cons_zero, List.set_cons_succ]
    refine wpAnyH_take (i := 5) (oi := ⟨some 30, _, _, _, _, _⟩) (v := (.agg #[.int .i64 view, .int .i64 turn])) rfl (by kernel_rfl) (by kernel_rfl) (by kernel_rfl) (fun _ _ _ h => h) (Or.inl ⟨by rfl, by (intro w' hSw; (try dsimp only at hSw); go_simp)⟩) (by assumption) ?_
    try simp only [Act.put, List.setIfInBounds_toArray, List.set_cons_zero, List.set_cons_succ]
    refine wpAnyH_take (i := 6) (oi := ⟨some 31, _, _, _, _, _⟩) (v := (.int .i64 slot)) rfl (by kernel_rfl) (by kernel_rfl) (by kernel_rfl) (fun _ _ _ h => h) (Or.inl ⟨by rfl, by (intro w' hSw; (try dsimp only at hSw); go_simp)⟩) (by assumption) ?_
    try simp only [Act.put, List.setIfInBounds_toArray, List.set_cons_zero, List.set_cons_succ]
    refine wpAnyH_take (i := 7) (oi := ⟨some 32, _, _, _, _, _⟩) (v := (.agg #[.int .i64 z.f0, .int .i64 z.f1, .slice Az z.f2.length cz, .slice Bz z.f3.length dz])) rfl (by kernel_rfl) (by kernel_rfl) (by kernel_rfl) (fun _ _ _ h => h) (Or.inl ⟨by rfl, by (intro w' hSw; (try dsimp only at hSw); go_simp)⟩) (by assumption) ?_
    try simp only [Act.put, List.setIfInBounds_toArray, List.set_cons_zero, List.set_cons_succ]
    refine wpAnyH_take (i := 8) (oi := ⟨some 33, _, _, _, _, _⟩) (v := (.int .i64 (i : Int))) rfl (by kernel_rfl) (by kernel_rfl) (by kernel_rfl) (fun _ _ _ h => h) (Or.inl ⟨by rfl, by (intro w' hSw; (try dsimp only at hSw); go_simp)⟩) (by assumption) ?_
    try simp only [Act.put, List.setIfInBounds_toArray, List.set_cons_zero, List.set_cons_succ]
    refine wpAnyH_ready (rs := [4]) (by kernel_rfl) (by simp) ?_
    refine AllReadyH.cons (o := ⟨some 29, _, _, _, _, _⟩) rfl (fun K hK => ?_) AllReadyH.nil
    go_simp
    go_at_call 13
    refine (HC.out _ (Fr.refl _ _).of_drew).mono ?_
    rintro e wa ⟨B1, d1, B2, d2, rfl, hswa, Hc⟩
    refine hK.out _ _ hswa (fun hHeld => ?_)
    try simp only [Act.put, List.setIfInBounds_toArray, List.set_cons_zero, List.set_cons_succ]
    refine wpAnyH_ready (rs := [9]) (by kernel_rfl) (by simp) ?_
    refine AllReadyH.cons (o := ⟨some 34, _, _, _, _, _⟩) rfl (fun K hK => ?_) AllReadyH.nil
    go_simp
    go_at_call 19
    refine (HM.out _ Hc.out.2.1).mono ?_
    rintro e wb ⟨A5, c5, rfl, hswb, Hm⟩
    refine hK.out _ _ hswb (fun hHeld => ?_)
    try simp only [Act.put, List.setIfInBounds_toArray, List.set_cons_zero, List.set_cons_succ]
    refine wpAnyH_ready (rs := [10]) (by kernel_rfl) (by simp) ?_
    refine AllReadyH.cons (o := ⟨some 35, _, _, _, _, _⟩) rfl (fun K hK => ?_) AllReadyH.nil
    go_simp
    have hgv := heap_alloc_new wb (.cells #[.int .i64 (i : Int), .slice A5 (vsA 2 view turn slot (bodyA z.f0 z.f1 z.f2 z.f3) (i : Int)).length c5] 55)
    have fv : Fr (fun _ => False) wb (wb.alloc (.cells #[.int .i64 (i : Int), .slice A5 (vsA 2 view turn slot (bodyA z.f0 z.f1 z.f2 z.f3) (i : Int)).length c5] 55)) := Fr.alloc (Fr.refl _ _) _
    generalize wb.alloc (.cells #[.int .i64 (i : Int), .slice A5 (vsA 2 view turn slot (bodyA z.f0 z.f1 z.f2 z.f3) (i : Int)).length c5] 55) = wc at *
    have hswc := HS.out _ ((Hm.out.2.1).trans fv (fun _ h => h.elim))
    refine hK.out _ _ hswc (fun hHeld => ?_)
    try simp only [Act.put, List.setIfInBounds_toArray, List.set_cons_zero, List.set_cons_succ]
    refine wpAnyH_ready (rs := [11]) (by kernel_rfl) (by simp) ?_
    refine AllReadyH.cons (o := ⟨some 36, _, _, _, _, _⟩) rfl (fun K hK => ?_) AllReadyH.nil
    go_simp
    go_at_call 12
    refine (HNt.out _ B1 d1 B2 d2 wb.heap.size ⟨(Hm.out.2.1).trans fv (fun _ h => h.elim), Hc.out.2.2.1, Hc.out.2.2.2.1, (Hc.out.2.2.2.2.1.lies Hm.out.1).lies fv, (Hc.out.2.2.2.2.2.lies Hm.out.1).lies fv, VC.one hgv Hm.out.2.2.1 (Hm.out.2.2.2.lies fv)⟩).mono ?_
    rintro e wZ ⟨A9, E, rfl, hsZ, HZ⟩
    obtain ⟨D9, S9, Bs9, L9, ev9, st9, f9⟩ := HZ.out
    obtain ⟨hS9, rfl⟩ := steps_put st9 (vrA_made (by have := HI.out.2.1; show (0 : Int) ≤ (i : Int); omega) (by have := HI.out.2.1; show (i : Int) ≤ 15; omega)) (L1_key HW.out.1 HW.out.2.1 HW.out.2.2 (by have := HI.out.2.1; omega)) (by rw [L1_len]; have := HI.out.2.1; omega)
    have K9 : Kc w wZ gb gr gl bm view turn x y A1 c1 A2 c2 A3 c3 A4 c4 (L1 view turn slot x y (i + 1)) := by
      have e : sqA view turn slot x y i false = ⟨2, view, turn, slot, (i : Int), z.f0, z.f1, z.f2, z.f3, vsA 2 view turn slot (bodyA z.f0 z.f1 z.f2 z.f3) (i : Int), false⟩ := by unfold sqA; rw [HI.out.2.2]
      rw [L1_succ, e]
      have hb := HBs.out
      subst hb
      rw [hS9] at L9
      exact H3.out.2.2.note HD.out f9 L9
    have HK9 := Aside0.mk K9
    refine hK.out _ _ hsZ (fun hHeld => ?_)
    try simp only [Act.put, List.setIfInBounds_toArray, List.set_cons_zero, List.set_cons_succ]
    refine wpAnyH_take (i := 12) (oi := ⟨some 37, _, _, _, _, _⟩) (v := (.int .i64 0)) rfl (by kernel_rfl) (by kernel_rfl) (by kernel_rfl) (fun _ _ _ h => h) (Or.inl ⟨by rfl, by (intro w' hSw; (try dsimp only at hSw); go_simp)⟩) (by assumption) ?_
    try simp only [Act.put, List.setIfInBounds_toArray, List.set_cons_zero, List.set_cons_succ]
    refine wpAnyH_take (i := 13) (oi := ⟨some 38, _, _, _, _, _⟩) (v := (.bool false)) rfl (by kernel_rfl) (by kernel_rfl) (by kernel_rfl) (fun _ _ _ h => h) (Or.inl ⟨by rfl, by (intro w' hSw; (try dsimp only at hSw); go_simp)⟩) (by assumption) ?_
    try simp only [Act.put, List.setIfInBounds_toArray, List.set_cons_zero, List.set_cons_succ]
    refine wpAnyH_done (by kernel_rfl) ?_ _
    refine NoPanic.normal ?_
    exact ⟨rfl, ⟨rfl, rfl⟩, rfl, rfl, rfl, rfl, rfl, rfl, HK9⟩
  rintro a' w9 ⟨hFm, j1, j3, j5, j7, j8, j38, hK9⟩
  rw [fm114 hFm, j1, j3, j5, j7, j8, j38]
  clear hFm j1 j3 j5 j7 j8 j38 HC HM HNt HS hs0 HD HG HR H3
  have b5 := B5.out
  go_wp2
  exact HH.out.2 _ _ ⟨rfl, rfl⟩ rfl rfl rfl rfl rfl hK9.out
end Go.Proofs.Ytnabilhcmplhcaa.Sha

/-
  LedgerCatches: a round of its second loop.
-/
set_option linter.unusedVariables false
set_option linter.unusedSimpArgs false
namespace Go.Proofs.Ytnabilhcmplhcaa.Sha
open Go.RowKit Go.Proofs.YtnabilhcmplhcaaW.PrintWords Go.Proofs.YtnabilhcmplhcaaW.PrintLast Go.Proofs.YtnabilhcmplhcaaW.PrintMore Go.Proofs.Ytnabilhcmplhcaa.Q Go.Proofs.Ytnabilhcmplhcaa.Fr Go.Proofs.Ytnabilhcmplhcaa.Oct
open Go.Maps Go.ChangeMaps
open Go.Proofs.Ytnabilhcmplhcaa.Open (okR)

set_option maxHeartbeats 8000000 in
set_option maxRecDepth 100000 in
theorem roundDn (u : Nat → Value) (view turn slot : Int) (x y : S31) (A1 : Option Addr) (c1 : Nat) (A2 : Option Addr) (c2 : Nat) (A3 : Option Addr) (c3 : Nat) (A4 : Option Addr) (c4 : Nat) (w W : World) (gb gr gl bm : Nat) (HX : Aside0 (Rd w A1 x.f2 ∧ Rd w A2 x.f3 ∧ x.f2.length ≤ c1 ∧ x.f3.length ≤ c2 ∧ x.f2.length + x.f3.length ≤ 1048576 ∧ Bys x.f2 ∧ Bys x.f3)) (HY : Aside0 (Rd w A3 y.f2 ∧ Rd w A4 y.f3 ∧ y.f2.length ≤ c3 ∧ y.f3.length ≤ c4 ∧ y.f2.length + y.f3.length ≤ 1048576 ∧ Bys y.f2 ∧ Bys y.f3))
    (HW : Aside0 ((Lit.int .i64 view).wf = true ∧ (Lit.int .i64 turn).wf = true ∧ (Lit.int .i64 slot).wf = true)) (k : Nat) (hi : k < 15) (p : Int) (hp : ((k : Int) + 1) % 2 = p) (z : S31) (Az : Option Addr) (cz : Nat) (Bz : Option Addr) (dz : Nat) (hz : rqA x y (k + 1) = z) (hne : bodyA (rqA x y k).f0 (rqA x y k).f1 (rqA x y k).f2 (rqA x y k).f3 = bodyA z.f0 z.f1 z.f2 z.f3)
    (H : Kc w W gb gr gl bm view turn x y A1 c1 A2 c2 A3 c3 A4 c4 (L2 view turn slot x y false k)) (hzc : W.cell? ⟨gr, p.toNat * 4, none⟩ = some (.int .i64 z.f0) ∧ W.cell? ⟨gr, p.toNat * 4 + 1, none⟩ = some (.int .i64 z.f1) ∧ W.cell? ⟨gr, p.toNat * 4 + 2, none⟩ = some (.slice Az z.f2.length cz) ∧ W.cell? ⟨gr, p.toNat * 4 + 3, none⟩ = some (.slice Bz z.f3.length dz)) (HZr : Aside0 (Rd W Az z.f2 ∧ Rd W Bz z.f3 ∧ z.f2.length ≤ cz ∧ z.f3.length ≤ dz ∧ z.f2.length + z.f3.length ≤ 1048576 ∧ Bys z.f2 ∧ Bys z.f3))
    (Q : Exit → Act → World → Prop) (hQ : ∀ a' W', Fm 114 a' → sl a' 1 = .int .i64 slot → sl a' 3 = .pointer (some ⟨gb, 0, none⟩) → sl a' 5 = .pointer (some ⟨gr, 0, none⟩) → sl a' 7 = .pointer (some ⟨gl, 0, none⟩) → sl a' 10 = .bool true → sl a' 11 = .int .i64 ((k : Int) + 1) → Kc w W' gb gr gl bm view turn x y A1 c1 A2 c2 A3 c3 A4 c4 (L2 view turn slot x y false (k + 1)) → Q .normal a' W') :
    Code.wp Try.prog (bodyN Try.f6 1) Q ⟨#[u 0, .int .i64 slot, u 2, .pointer (some ⟨gb, 0, none⟩), u 4, .pointer (some ⟨gr, 0, none⟩), u 6, .pointer (some ⟨gl, 0, none⟩), u 8, u 9, .bool true, .int .i64 (k : Int), u 12, u 13, u 14, u 15, u 16, u 17, u 18, u 19, u 20, u 21, u 22, u 23, u 24, u 25, u 26, u 27, u 28, u 29, u 30, u 31, u 32, u 33, u 34, u 35, u 36, u 37, u 38, u 39, u 40, u 41, u 42, u 43, u 44, u 45, u 46, u 47, u 48, u 49, u 50, u 51, u 52, u 53, u 54, u 55, u 56, u 57, u 58, u 59, u 60, u 61, u 62, u 63, u 64, u 65, u 66, u 67, u 68, u 69, u 70, u 71, u 72, u 73, u 74, u 75, u 76, u 77, u 78, u 79, u 80, u 81, u 82, u 83, u 84, u 85, u 86, u 87, u 88, u 89, u 90, u 91, u 92, u 93, u 94, u 95, u 96, u 97, u 98, u 99, u 100, u 101, u 102, u 103, u 104, u 105, u 106, u 107, u 108, u 109, u 110, u 111, u 112, u 113], []⟩ W := by
  have HNE := Aside0.mk hne
  clear hne
  have b0 : decide ((k : Int) < 15) = true := decide_eq_true (by omega)
  have b5 : wrap64 ((k : Int) + 1) = (k : Int) + 1 := by unfold wrap64; omega
  have p0 : (0 : Int) ≤ p := by omega
  have p1 : p < 2 := by omega
  have r1 : ((k : Int) + 1).tmod 2 = p := by rw [Int.tmod_eq_emod_of_nonneg (by omega)]; exact hp
  have r0 : True := trivial
  have B5 := Aside0.mk b5
  have HH := Aside0.mk (And.intro H hQ)
  obtain ⟨z0, z1, z2, z3⟩ := hzc
  clear H hQ hp
  conv => arg 2; whnf
  go_wp2_with (first | ((with_reducible refine gate_dst (N := 12) rfl ?_); refine wpList_alloc_abs (by rfl) 31 (by rfl) (.agg Z4q) (by kernel_rfl) ?_; intro w2 hb2 hs2 hg2) | ((with_reducible refine gate_store (p := 12) rfl ?_); refine Aside0.out ?_))
  refine ⟨?_⟩
  refine wpList_store_abs (by rfl) 31 _ _ (by rfl) W.heap.size #[.int .i64 z.f0, .int .i64 z.f1, .slice Az z.f2.length cz, .slice Bz z.f3.length dz] (by rfl) (by rfl) 31 Z4q hg2 (by kernel_rfl) (by rfl) (by simp [Value.oneCell']) ?_
  intro w3 hf3 hs3 hg3
  have F3 : Fr (fun _ => False) W w3 := (Fr.of_below hb2 (fun _ => False)).trans hf3 (fun k hk => .inr (by omega))
  have K3 := HH.out.1.below F3
  have H3 := Aside0.mk (And.intro K3.hb (And.intro hg3 K3))
  have HR := Aside0.mk (And.intro (HZr.out.1.lies F3) (And.intro (HZr.out.2.1.lies F3) HZr.out.2.2))
  have HI := Aside0.mk (And.intro (wf_nat (Nat.le_of_lt hi)) (And.intro hi hz))
  obtain ⟨D, Bs, hld⟩ := K3.ld
  obtain ⟨base, hbase⟩ : ∃ b, w.heap.size = b := ⟨_, rfl⟩
  have HG := Aside0.mk (show base ≤ w3.heap.size from by rw [← hbase]; exact K3.F.size)
  rw [hbase] at hld
  have HD := Aside0.mk hld
  have HBs := Aside0.mk hbase
  clear hb2 hs2 hg2 hf3 hs3 hg3 F3 K3 hld hbase z0 z1 z2 z3 b0 p0 p1 r1 hi hz b5 r0
  go_wp2_with (fail)
  have hS : ∀ w', Fr (fun _ => False) w3 w' → w'.cell? ⟨gb, 0, none⟩ = some (.int .i64 view) ∧ w'.cell? ⟨gb, 1, none⟩ = some (.int .i64 turn) ∧ w'.cell? ⟨W.heap.size, 0, none⟩ = some (.int .i64 z.f0) ∧ w'.cell? ⟨W.heap.size, 1, none⟩ = some (.int .i64 z.f1) ∧ w'.cell? ⟨W.heap.size, 2, none⟩ = some (.slice Az z.f2.length cz) ∧ w'.cell? ⟨W.heap.size, 3, none⟩ = some (.slice Bz z.f3.length dz) := fun w' hf => by
    have h1 := hf.blk H3.out.1 (fun h => h)
    have h2 := hf.blk H3.out.2.1 (fun h => h)
    simp [World.cell?, h1, h2]
  have HC : ∀ w1, Fr (fun _ => False) w3 w1 → Calls Try.prog 13 #[.agg #[.int .i64 z.f0, .int .i64 z.f1, .slice Az (z.f2).length cz, .slice Bz (z.f3).length dz]] w1 fun e w2 => ∃ B1 d1 B2 d2, e = .returned (.agg #[.int .i64 z.f0, .int .i64 z.f1, .slice B1 (z.f2).length d1, .slice B2 (z.f3).length d2]) ∧ (w2.cell? ⟨gb, 0, none⟩ = some (.int .i64 view) ∧ w2.cell? ⟨gb, 1, none⟩ = some (.int .i64 turn) ∧ w2.cell? ⟨W.heap.size, 0, none⟩ = some (.int .i64 z.f0) ∧ w2.cell? ⟨W.heap.size, 1, none⟩ = some (.int .i64 z.f1) ∧ w2.cell? ⟨W.heap.size, 2, none⟩ = some (.slice Az z.f2.length cz) ∧ w2.cell? ⟨W.heap.size, 3, none⟩ = some (.slice Bz z.f3.length dz)) ∧ Aside0 (Fr (fun _ => False) w1 w2 ∧ Fr (fun _ => False) w3 w2 ∧ (z.f2).length ≤ d1 ∧ (z.f3).length ≤ d2 ∧ Rd w2 B1 (z.f2) ∧ Rd w2 B2 (z.f3)) := by
    intro w1 hf1
    refine (copyr_calls z.f0 z.f1 Az cz (z.f2) Bz dz (z.f3) w1 (HR.out.1.lies hf1) HR.out.2.2.1 (HR.out.2.1.lies hf1) HR.out.2.2.2.1 HR.out.2.2.2.2.1).mono ?_
    rintro e w2 ⟨B1, d1, B2, d2, rfl, h1, h2, r1, r2, hb⟩
    have f12 := Fr.of_below hb (fun _ => False)
    have f2 := hf1.trans f12 (fun _ h => h.elim)
    exact ⟨B1, d1, B2, d2, rfl, hS _ f2, ⟨f12, f2, h1, h2, r1, r2⟩⟩
  have HM : ∀ w1, Fr (fun _ => False) w3 w1 → Calls Try.prog 19 #[.agg #[.int .i64 view, .int .i64 turn], .int .i64 slot, .agg #[.int .i64 z.f0, .int .i64 z.f1, .slice Az (z.f2).length cz, .slice Bz (z.f3).length dz], .int .i64 (k : Int)] w1 fun e w2 => ∃ A5 c5, e = .returned (.agg #[.int .i64 (k : Int), .slice A5 (vsA 2 view turn slot (bodyA z.f0 z.f1 z.f2 z.f3) (k : Int)).length c5]) ∧ (w2.cell? ⟨gb, 0, none⟩ = some (.int .i64 view) ∧ w2.cell? ⟨gb, 1, none⟩ = some (.int .i64 turn) ∧ w2.cell? ⟨W.heap.size, 0, none⟩ = some (.int .i64 z.f0) ∧ w2.cell? ⟨W.heap.size, 1, none⟩ = some (.int .i64 z.f1) ∧ w2.cell? ⟨W.heap.size, 2, none⟩ = some (.slice Az z.f2.length cz) ∧ w2.cell? ⟨W.heap.size, 3, none⟩ = some (.slice Bz z.f3.length dz)) ∧ Aside0 (Fr (fun _ => False) w1 w2 ∧ Fr (fun _ => False) w3 w2 ∧ (vsA 2 view turn slot (bodyA z.f0 z.f1 z.f2 z.f3) (k : Int)).length ≤ c5 ∧ Rd w2 A5 (vsA 2 view turn slot (bodyA z.f0 z.f1 z.f2 z.f3) (k : Int))) := by
    intro w1 hf1
    refine (made_calls view turn slot z.f0 z.f1 Az cz (z.f2) Bz dz (z.f3) (k : Int) w1 (HR.out.1.lies hf1) HR.out.2.2.1 (HR.out.2.1.lies hf1) HR.out.2.2.2.1 HR.out.2.2.2.2.1).mono ?_
    rintro e w2 ⟨A5, c5, rfl, hc5, hO, hb⟩
    have f12 := Fr.of_below hb (fun _ => False)
    have f2 := hf1.trans f12 (fun _ h => h.elim)
    exact ⟨A5, c5, rfl, hS _ f2, ⟨f12, f2, hc5, QB.rd (q_of_own hO)⟩⟩
  have HNt : ∀ w1 B1 d1 B2 d2 g, Aside0 (Fr (fun _ => False) w3 w1 ∧ (z.f2).length ≤ d1 ∧ (z.f3).length ≤ d2 ∧ Rd w1 B1 (z.f2) ∧ Rd w1 B2 (z.f3) ∧ VC w1 (some ⟨g, 0, none⟩) [((k : Int), vsA 2 view turn slot (bodyA z.f0 z.f1 z.f2 z.f3) (k : Int))]) → Calls Try.prog 12 #[.pointer (some ⟨gl, 0, none⟩), .int .i64 2, .agg #[.int .i64 view, .int .i64 turn], .int .i64 slot, .agg #[.int .i64 z.f0, .int .i64 z.f1, .slice B1 (z.f2).length d1, .slice B2 (z.f3).length d2], .slice (some ⟨g, 0, none⟩) 1 1] w1 fun e w2 => ∃ (A9 : Option Addr × Nat) (E : List Ev), e = .returned (.slice A9.1 E.length A9.2) ∧ (w2.cell? ⟨gb, 0, none⟩ = some (.int .i64 view) ∧ w2.cell? ⟨gb, 1, none⟩ = some (.int .i64 turn) ∧ w2.cell? ⟨W.heap.size, 0, none⟩ = some (.int .i64 z.f0) ∧ w2.cell? ⟨W.heap.size, 1, none⟩ = some (.int .i64 z.f1) ∧ w2.cell? ⟨W.heap.size, 2, none⟩ = some (.slice Az z.f2.length cz) ∧ w2.cell? ⟨W.heap.size, 3, none⟩ = some (.slice Bz z.f3.length dz)) ∧ Aside0 (∃ D' S' Bs', LdAt w2 base gl bm D' S' Bs' ∧ EvRow w2 w3.heap.size (.slice A9.1 E.length A9.2) E ∧ Steps 2 view turn slot z.f0 z.f1 (z.f2) (z.f3) (L2 view turn slot x y false k) [] [((k : Int), vsA 2 view turn slot (bodyA z.f0 z.f1 z.f2 z.f3) (k : Int))] S' E ∧ Fr (LF bm Bs) w3 w2) := by
    intro w1 B1 d1 B2 d2 g H
    have hL := HD.out.fr0 H.out.1
    refine (note_calls 2 view turn slot z.f0 z.f1 B1 d1 (z.f2) B2 d2 (z.f3) (some ⟨g, 0, none⟩) 1 [((k : Int), vsA 2 view turn slot (bodyA z.f0 z.f1 z.f2 z.f3) (k : Int))] (by simp) w1 base gl bm _ _ _ hL (Nat.le_trans HG.out H.out.1.size) (.inl rfl) H.out.2.2.2.1 H.out.2.2.2.2.1 H.out.2.2.2.2.2 HR.out.2.2.2.2.1 H.out.2.1 H.out.2.2.1 HR.out.2.2.2.2.2.1 HR.out.2.2.2.2.2.2 (fun v hv => by
      have : v = ((k : Int), vsA 2 view turn slot (bodyA z.f0 z.f1 z.f2 z.f3) (k : Int)) := by simpa using hv
      subst this
      exact ⟨Nat.le_trans (vsA_len 2 view turn slot _ (k : Int)) (by decide), vsA_bys 2 view turn slot _ (k : Int), HI.out.1⟩) HW.out.1 HW.out.2.1 HW.out.2.2).mono ?_
    rintro e w2 ⟨D', S', Bs', out, E, rfl, L, nb, ev, st, f⟩
    have hf1 := H.out.1
    have ev2 : EvRow w2 w3.heap.size out E := by
      obtain ⟨css, h1, h2, h3⟩ := ev
      exact ⟨css, h1, row_lower h2 hf1.size, h3⟩
    obtain ⟨A9, c9, rfl⟩ := evrow_len ev
    have hs : w2.cell? ⟨gb, 0, none⟩ = some (.int .i64 view) ∧ w2.cell? ⟨gb, 1, none⟩ = some (.int .i64 turn) ∧ w2.cell? ⟨W.heap.size, 0, none⟩ = some (.int .i64 z.f0) ∧ w2.cell? ⟨W.heap.size, 1, none⟩ = some (.int .i64 z.f1) ∧ w2.cell? ⟨W.heap.size, 2, none⟩ = some (.slice Az z.f2.length cz) ∧ w2.cell? ⟨W.heap.size, 3, none⟩ = some (.slice Bz z.f3.length dz) := by
      have g0 := hf1.blk H3.out.1 (fun h => h)
      have h0 := f.blk g0 (LF.not hL g0 (by decide))
      have g1 := hf1.blk H3.out.2.1 (fun h => h)
      have h1 := f.blk g1 (LF.not hL g1 (by decide))
      simp [World.cell?, h0, h1]
    exact ⟨(A9, c9), E, rfl, hs, ⟨_, _, _, L, ev2, st, (hf1.mono (fun _ e => e.elim)).trans f (fun k hk => .inl hk)⟩⟩
  have HS := Aside0.mk hS
  have hs0 := hS _ (Fr.refl _ _)
  have HC := Aside0.mk HC
  have HM := Aside0.mk HM
  have HNt := Aside0.mk HNt
  clear hS
  refine wp_cut (fun a' w' => Fm 114 a' ∧ sl a' 1 = .int .i64 slot ∧ sl a' 3 = .pointer (some ⟨gb, 0, none⟩) ∧ sl a' 5 = .pointer (some ⟨gr, 0, none⟩) ∧ sl a' 7 = .pointer (some ⟨gl, 0, none⟩) ∧ sl a' 10 = .bool true ∧ sl a' 11 = .int .i64 (k : Int) ∧ ∃ A9 : Option Addr × Nat, sl a' 13 = .slice A9.1 0 A9.2 ∧ Aside0 (Kc w w' gb gr gl bm view turn x y A1 c1 A2 c2 A3 c3 A4 c4 (L2 view turn slot x y false (k + 1)))) ?_ ?_
  · refine wp_region_noPanic ?_
    refine wp_region_held_drew (S := (fun w' => w'.cell? ⟨gb, 0, none⟩ = some (.int .i64 view) ∧ w'.cell? ⟨gb, 1, none⟩ = some (.int .i64 turn) ∧ w'.cell? ⟨W.heap.size, 0, none⟩ = some (.int .i64 z.f0) ∧ w'.cell? ⟨W.heap.size, 1, none⟩ = some (.int .i64 z.f1) ∧ w'.cell? ⟨W.heap.size, 2, none⟩ = some (.slice Az z.f2.length cz) ∧ w'.cell? ⟨W.heap.size, 3, none⟩ = some (.slice Bz z.f3.length dz))) (by kernel_rfl) hs0 (fun hHeld => ?_)
    refine wpAnyH_take (i := 0) (oi := ⟨some 53, _, _, _, _, _⟩) (v := (.pointer (some ⟨gl, 0, none⟩))) rfl (by kernel_rfl) (by kernel_rfl) (by kernel_rfl) (fun _ _ _ h => h) (Or.inl ⟨by rfl, by (intro w' hSw; (try dsimp only at hSw); go_simp)⟩) (by assumption) ?_
    try simp only [Act.put, List.setIfInBounds_toArray, List.set_cons_zero, List.set_cons_succ]
    refine wpAnyH_take (i := 1) (oi := ⟨some 54, _, _, _, _, _⟩) (v := (.agg #[.int .i64 view, .int .i64 turn])) rfl (by kernel_rfl) (by kernel_rfl) (by kernel_rfl) (fun _ _ _ h => h) (Or.inl ⟨by rfl, by (intro w' hSw; (try dsimp only at hSw); go_simp)⟩) (by assumption) ?_
    try simp only [Act.put, List.setIfInBounds_toArray, List.set_cons_zero, List.set_cons_succ]
    refine wpAnyH_take (i := 2) (oi := ⟨some 55, _, _, _, _, _⟩) (v := (.int .i64 slot)) rfl (by kernel_rfl) (by kernel_rfl) (by kernel_rfl) (fun _ _ _ h => h) (Or.inl ⟨by rfl, by (intro w' hSw; (try dsimp only at hSw); go_simp)⟩) (by assumption) ?_
    try simp only [Act.put, List.setIfInBounds_toArray, List.set_cons_zero, List.set_cons_succ]
    refine wpAnyH_take (i := 3) (oi := ⟨some 56, _, _, _, _, _⟩) (v := (.agg #[.int .i64 z.f0, .int .i64 z.f1, .slice Az z.f2.length cz, .slice Bz z.f3.length dz])) rfl (by kernel_rfl) (by kernel_rfl) (by kernel_rfl) (fun _ _ _ h => h) (Or.inl ⟨by rfl, by (intro w' hSw; (try dsimp only at hSw); go_simp)⟩) (by assumption) ?_
    try simp only [Act.put, List.setIfInBounds_toArray, List.set_cons_zero, List.set_cons_succ]
    refine wpAnyH_take (i := 5) (oi := ⟨some 58, _, _, _, _, _⟩) (v := (.agg #[.int .i64 view, .int .i64 turn])) rfl (by kernel_rfl) (by kernel_rfl) (by kernel_rfl) (fun _ _ _ h => h) (Or.inl ⟨by rfl, by (intro w' hSw; (try dsimp only at hSw); go_simp)⟩) (by assumption) ?_
    try simp only [Act.put, List.setIfInBounds_toArray, List.set_cons_zero, List.set_cons_succ]
    refine wpAnyH_take (i := 6) (oi := ⟨some 59, _, _, _, _, _⟩) (v := (.int .i64 slot)) rfl (by kernel_rfl) (by kernel_rfl) (by kernel_rfl) (fun _ _ _ h => h) (Or.inl ⟨by rfl, by (intro w' hSw; (try dsimp only at hSw); go_simp)⟩) (by assumption) ?_
    try simp only [Act.put, List.setIfInBounds_toArray, List.set_cons_zero, List.set_cons_succ]
    refine wpAnyH_take (i := 7) (oi := ⟨some 60, _, _, _, _, _⟩) (v := (.agg #[.int .i64 z.f0, .int .i64 z.f1, .slice Az z.f2.length cz, .slice Bz z.f3.length dz])) rfl (by kernel_rfl) (by kernel_rfl) (by kernel_rfl) (fun _ _ _ h => h) (Or.inl ⟨by rfl, by (intro w' hSw; (try dsimp only at hSw); go_simp)⟩) (by assumption) ?_
    try simp only [Act.put, List.setIfInBounds_toArray, List.set_cons_zero, List.set_cons_succ]
    refine wpAnyH_take (i := 8) (oi := ⟨some 61, _, _, _, _, _⟩) (v := (.int .i64 (k : Int))) rfl (by kernel_rfl) (by kernel_rfl) (by kernel_rfl) (fun _ _ _ h => h) (Or.inl ⟨by rfl, by (intro w' hSw; (try dsimp only at hSw); go_simp)⟩) (by assumption) ?_
    try simp only [Act.put, List.setIfInBounds_toArray, List.set_cons_zero, List.set_cons_succ]
    refine wpAnyH_ready (rs := [4]) (by kernel_rfl) (by simp) ?_
    refine AllReadyH.cons (o := ⟨some 57, _, _, _, _, _⟩) rfl (fun K hK => ?_) AllReadyH.nil
    go_simp
    go_at_call 13
    refine (HC.out _ (Fr.refl _ _).of_drew).mono ?_
    rintro e wa ⟨B1, d1, B2, d2, rfl, hswa, Hc⟩
    refine hK.out _ _ hswa (fun hHeld => ?_)
    try simp only [Act.put, List.setIfInBounds_toArray, List.set_cons_zero, List.set_cons_succ]
    refine wpAnyH_ready (rs := [9]) (by kernel_rfl) (by simp) ?_
    refine AllReadyH.cons (o := ⟨some 62, _, _, _, _, _⟩) rfl (fun K hK => ?_) AllReadyH.nil
    go_simp
    go_at_call 19
    refine (HM.out _ Hc.out.2.1).mono ?_
    rintro e wb ⟨A5, c5, rfl, hswb, Hm⟩
    refine hK.out _ _ hswb (fun hHeld => ?_)
    try simp only [Act.put, List.setIfInBounds_toArray, List.set_cons_zero, List.set_cons_succ]
    refine wpAnyH_ready (rs := [10]) (by kernel_rfl) (by simp) ?_
    refine AllReadyH.cons (o := ⟨some 63, _, _, _, _, _⟩) rfl (fun K hK => ?_) AllReadyH.nil
    go_simp
    have hgv := heap_alloc_new wb (.cells #[.int .i64 (k : Int), .slice A5 (vsA 2 view turn slot (bodyA z.f0 z.f1 z.f2 z.f3) (k : Int)).length c5] 55)
    have fv : Fr (fun _ => False) wb (wb.alloc (.cells #[.int .i64 (k : Int), .slice A5 (vsA 2 view turn slot (bodyA z.f0 z.f1 z.f2 z.f3) (k : Int)).length c5] 55)) := Fr.alloc (Fr.refl _ _) _
    generalize wb.alloc (.cells #[.int .i64 (k : Int), .slice A5 (vsA 2 view turn slot (bodyA z.f0 z.f1 z.f2 z.f3) (k : Int)).length c5] 55) = wc at *
    have hswc := HS.out _ ((Hm.out.2.1).trans fv (fun _ h => h.elim))
    refine hK.out _ _ hswc (fun hHeld => ?_)
    try simp only [Act.put, List.setIfInBounds_toArray, List.set_cons_zero, List.set_cons_succ]
    refine wpAnyH_ready (rs := [11]) (by kernel_rfl) (by simp) ?_
    refine AllReadyH.cons (o := ⟨some 64, _, _, _, _, _⟩) rfl (fun K hK => ?_) AllReadyH.nil
    go_simp
    go_at_call 12
    refine (HNt.out _ B1 d1 B2 d2 wb.heap.size ⟨(Hm.out.2.1).trans fv (fun _ h => h.elim), Hc.out.2.2.1, Hc.out.2.2.2.1, (Hc.out.2.2.2.2.1.lies Hm.out.1).lies fv, (Hc.out.2.2.2.2.2.lies Hm.out.1).lies fv, VC.one hgv Hm.out.2.2.1 (Hm.out.2.2.2.lies fv)⟩).mono ?_
    rintro e wZ ⟨A9, E, rfl, hsZ, HZ⟩
    obtain ⟨D9, S9, Bs9, L9, ev9, st9, f9⟩ := HZ.out
    have hx9 := L2_get view turn slot x y false (k := k) HI.out.2.1
    obtain ⟨hS9, rfl⟩ := steps_again st9 HD.out.keys hx9 rfl HNE.out
    have K9 : Kc w wZ gb gr gl bm view turn x y A1 c1 A2 c2 A3 c3 A4 c4 (L2 view turn slot x y false (k + 1)) := by
      rw [L2_same view turn slot x y (k + 1) k]
      have hb := HBs.out
      subst hb
      rw [hS9] at L9
      exact H3.out.2.2.note HD.out f9 L9
    have HK9 := Aside0.mk K9
    refine hK.out _ _ hsZ (fun hHeld => ?_)
    try simp only [Act.put, List.setIfInBounds_toArray, List.set_cons_zero, List.set_cons_succ]
    refine wpAnyH_take (i := 12) (oi := ⟨some 13, _, _, _, _, _⟩) (v := (.slice A9.1 0 A9.2)) rfl (by kernel_rfl) (by kernel_rfl) (by kernel_rfl) (fun _ _ _ h => h) (Or.inl ⟨by rfl, by (intro w' hSw; (try dsimp only at hSw); go_simp)⟩) (by assumption) ?_
    try simp only [Act.put, List.setIfInBounds_toArray, List.set_cons_zero, List.set_cons_succ]
    refine wpAnyH_done (by kernel_rfl) ?_ _
    refine NoPanic.normal ?_
    exact ⟨rfl, ⟨rfl, rfl⟩, rfl, rfl, rfl, rfl, rfl, rfl, A9, rfl, HK9⟩
  rintro a' w9 ⟨hFm, j1, j3, j5, j7, j10, j11, A9, j13, hK9⟩
  rw [fm114 hFm, j1, j3, j5, j7, j10, j11, j13]
  clear hFm j1 j3 j5 j7 j10 j11 j13 HC HM HNt HS hs0 HD HG HR H3
  go_wp2_with (fail)
  refine wp_region_noPanic ?_
  refine wp_region_held_drew (S := (fun w' => True)) (by kernel_rfl) trivial (fun hHeld => ?_)
  refine wpAnyH_take (i := 0) (oi := ⟨some 65, _, _, _, _, _⟩) (v := (.slice A9.1 0 A9.2)) rfl (by kernel_rfl) (by kernel_rfl) (by kernel_rfl) (fun _ _ _ h => h) (Or.inl ⟨by rfl, by (intro w' hSw; (try dsimp only at hSw); go_simp)⟩) (by assumption) ?_
  try simp only [Act.put, List.setIfInBounds_toArray, List.set_cons_zero, List.set_cons_succ]
  refine wpAnyH_take (i := 1) (oi := ⟨some 66, _, _, _, _, _⟩) (v := (.int .i64 0)) rfl (by kernel_rfl) (by kernel_rfl) (by kernel_rfl) (fun _ _ _ h => h) (Or.inl ⟨by rfl, by (intro w' hSw; (try dsimp only at hSw); go_simp)⟩) (by assumption) ?_
  try simp only [Act.put, List.setIfInBounds_toArray, List.set_cons_zero, List.set_cons_succ]
  refine wpAnyH_take (i := 2) (oi := ⟨some 67, _, _, _, _, _⟩) (v := (.bool false)) rfl (by kernel_rfl) (by kernel_rfl) (by kernel_rfl) (fun _ _ _ h => h) (Or.inl ⟨by rfl, by (intro w' hSw; (try dsimp only at hSw); go_simp)⟩) (by assumption) ?_
  try simp only [Act.put, List.setIfInBounds_toArray, List.set_cons_zero, List.set_cons_succ]
  refine wpAnyH_take (i := 3) (oi := ⟨some 68, _, _, _, _, _⟩) (v := (.bool true)) rfl (by kernel_rfl) (by kernel_rfl) (by kernel_rfl) (fun _ _ _ h => h) (Or.inl ⟨by rfl, by (intro w' hSw; (try dsimp only at hSw); go_simp)⟩) (by assumption) ?_
  try simp only [Act.put, List.setIfInBounds_toArray, List.set_cons_zero, List.set_cons_succ]
  refine wpAnyH_take (i := 4) (oi := ⟨some 69, _, _, _, _, _⟩) (v := (.bool false)) rfl (by kernel_rfl) (by kernel_rfl) (by kernel_rfl) (fun _ _ _ h => h) (Or.inl ⟨by rfl, by (intro w' hSw; (try dsimp only at hSw); go_simp)⟩) (by assumption) ?_
  try simp only [Act.put, List.setIfInBounds_toArray, List.set_cons_zero, List.set_cons_succ]
  refine wpAnyH_take (i := 5) (oi := ⟨some 70, _, _, _, _, _⟩) (v := (.bool false)) rfl (by kernel_rfl) (by kernel_rfl) (by kernel_rfl) (fun _ _ _ h => h) (Or.inl ⟨by rfl, by (intro w' hSw; (try dsimp only at hSw); go_simp)⟩) (by assumption) ?_
  try simp only [Act.put, List.setIfInBounds_toArray, List.set_cons_zero, List.set_cons_succ]
  refine wpAnyH_take (i := 6) (oi := ⟨some 71, _, _, _, _, _⟩) (v := (.slice A9.1 0 A9.2)) rfl (by kernel_rfl) (by kernel_rfl) (by kernel_rfl) (fun _ _ _ h => h) (Or.inl ⟨by rfl, by (intro w' hSw; (try dsimp only at hSw); go_simp)⟩) (by assumption) ?_
  try simp only [Act.put, List.setIfInBounds_toArray, List.set_cons_zero, List.set_cons_succ]
  refine wpAnyH_take (i := 7) (oi := ⟨some 72, _, _, _, _, _⟩) (v := (.int .i64 0)) rfl (by kernel_rfl) (by kernel_rfl) (by kernel_rfl) (fun _ _ _ h => h) (Or.inl ⟨by rfl, by (intro w' hSw; (try dsimp only at hSw); go_simp)⟩) (by assumption) ?_
  try simp only [Act.put, List.setIfInBounds_toArray, List.set_cons_zero, List.set_cons_succ]
  refine wpAnyH_take (i := 8) (oi := ⟨some 73, _, _, _, _, _⟩) (v := (.bool false)) rfl (by kernel_rfl) (by kernel_rfl) (by kernel_rfl) (fun _ _ _ h => h) (Or.inl ⟨by rfl, by (intro w' hSw; (try dsimp only at hSw); go_simp)⟩) (by assumption) ?_
  try simp only [Act.put, List.setIfInBounds_toArray, List.set_cons_zero, List.set_cons_succ]
  refine wpAnyH_take (i := 9) (oi := ⟨some 74, _, _, _, _, _⟩) (v := (.bool false)) rfl (by kernel_rfl) (by kernel_rfl) (by kernel_rfl) (fun _ _ _ h => h) (Or.inl ⟨by rfl, by (intro w' hSw; (try dsimp only at hSw); go_simp)⟩) (by assumption) ?_
  try simp only [Act.put, List.setIfInBounds_toArray, List.set_cons_zero, List.set_cons_succ]
  refine wpAnyH_take (i := 10) (oi := ⟨some 75, _, _, _, _, _⟩) (v := (.bool false)) rfl (by kernel_rfl) (by kernel_rfl) (by kernel_rfl) (fun _ _ _ h => h) (Or.inl ⟨by rfl, by (intro w' hSw; (try dsimp only at hSw); go_simp)⟩) (by assumption) ?_
  try simp only [Act.put, List.setIfInBounds_toArray, List.set_cons_zero, List.set_cons_succ]
  refine wpAnyH_take (i := 11) (oi := ⟨some 76, _, _, _, _, _⟩) (v := (.slice A9.1 0 A9.2)) rfl (by kernel_rfl) (by kernel_rfl) (by kernel_rfl) (fun _ _ _ h => h) (Or.inl ⟨by rfl, by (intro w' hSw; (try dsimp only at hSw); go_simp)⟩) (by assumption) ?_
  try simp only [Act.put, List.setIfInBounds_toArray, List.set_cons_zero, List.set_cons_succ]
  refine wpAnyH_take (i := 12) (oi := ⟨some 77, _, _, _, _, _⟩) (v := (.int .i64 0)) rfl (by kernel_rfl) (by kernel_rfl) (by kernel_rfl) (fun _ _ _ h => h) (Or.inl ⟨by rfl, by (intro w' hSw; (try dsimp only at hSw); go_simp)⟩) (by assumption) ?_
  try simp only [Act.put, List.setIfInBounds_toArray, List.set_cons_zero, List.set_cons_succ]
  refine wpAnyH_take (i := 13) (oi := ⟨some 78, _, _, _, _, _⟩) (v := (.bool false)) rfl (by kernel_rfl) (by kernel_rfl) (by kernel_rfl) (fun _ _ _ h => h) (Or.inl ⟨by rfl, by (intro w' hSw; (try dsimp only at hSw); go_simp)⟩) (by assumption) ?_
  try simp only [Act.put, List.setIfInBounds_toArray, List.set_cons_zero, List.set_cons_succ]
  refine wpAnyH_take (i := 14) (oi := ⟨some 79, _, _, _, _, _⟩) (v := (.bool false)) rfl (by kernel_rfl) (by kernel_rfl) (by kernel_rfl) (fun _ _ _ h => h) (Or.inl ⟨by rfl, by (intro w' hSw; (try dsimp only at hSw); go_simp)⟩) (by assumption) ?_
  try simp only [Act.put, List.setIfInBounds_toArray, List.set_cons_zero, List.set_cons_succ]
  refine wpAnyH_take (i := 15) (oi := ⟨some 80, _, _, _, _, _⟩) (v := undef) rfl (by kernel_rfl) (by kernel_rfl) (by kernel_rfl) (fun _ _ _ h => h) (Or.inr ⟨by rfl, rfl⟩) (by assumption) ?_
  try simp only [Act.put, List.setIfInBounds_toArray, List.set_cons_zero, List.set_cons_succ]
  refine wpAnyH_take (i := 16) (oi := ⟨some 81, _, _, _, _, _⟩) (v := undef) rfl (by kernel_rfl) (by kernel_rfl) (by kernel_rfl) (fun _ _ _ h => h) (Or.inr ⟨by rfl, rfl⟩) (by assumption) ?_
  try simp only [Act.put, List.setIfInBounds_toArray, List.set_cons_zero, List.set_cons_succ]
  refine wpAnyH_take (i := 17) (oi := ⟨some 82, _, _, _, _, _⟩) (v := undef) rfl (by kernel_rfl) (by kernel_rfl) (by kernel_rfl) (fun _ _ _ h => h) (Or.inr ⟨by rfl, rfl⟩) (by assumption) ?_
  try simp only [Act.put, List.setIfInBounds_toArray, List.set_cons_zero, List.set_cons_succ]
  refine wpAnyH_take (i := 18) (oi := ⟨some 83, _, _, _, _, _⟩) (v := undef) rfl (by kernel_rfl) (by kernel_rfl) (by kernel_rfl) (fun _ _ _ h => h) (Or.inr ⟨by rfl, rfl⟩) (by assumption) ?_
  try simp only [Act.put, List.setIfInBounds_toArray, List.set_cons_zero, List.set_cons_succ]
  refine wpAnyH_take (i := 19) (oi := ⟨some 84, _, _, _, _, _⟩) (v := undef) rfl (by kernel_rfl) (by kernel_rfl) (by kernel_rfl) (fun _ _ _ h => h) (Or.inr ⟨by rfl, rfl⟩) (by assumption) ?_
  try simp only [Act.put, List.setIfInBounds_toArray, List.set_cons_zero, List.set_cons_succ]
  refine wpAnyH_take (i := 20) (oi := ⟨some 85, _, _, _, _, _⟩) (v := undef) rfl (by kernel_rfl) (by kernel_rfl) (by kernel_rfl) (fun _ _ _ h => h) (Or.inr ⟨by rfl, rfl⟩) (by assumption) ?_
  try simp only [Act.put, List.setIfInBounds_toArray, List.set_cons_zero, List.set_cons_succ]
  refine wpAnyH_take (i := 21) (oi := ⟨some 86, _, _, _, _, _⟩) (v := undef) rfl (by kernel_rfl) (by kernel_rfl) (by kernel_rfl) (fun _ _ _ h => h) (Or.inr ⟨by rfl, rfl⟩) (by assumption) ?_
  try simp only [Act.put, List.setIfInBounds_toArray, List.set_cons_zero, List.set_cons_succ]
  refine wpAnyH_take (i := 22) (oi := ⟨some 87, _, _, _, _, _⟩) (v := undef) rfl (by kernel_rfl) (by kernel_rfl) (by kernel_rfl) (fun _ _ _ h => h) (Or.inr ⟨by rfl, rfl⟩) (by assumption) ?_
  try simp only [Act.put, List.setIfInBounds_toArray, List.set_cons_zero, List.set_cons_succ]
  refine wpAnyH_take (i := 23) (oi := ⟨some 88, _, _, _, _, _⟩) (v := undef) rfl (by kernel_rfl) (by kernel_rfl) (by kernel_rfl) (fun _ _ _ h => h) (Or.inr ⟨by rfl, rfl⟩) (by assumption) ?_
  try simp only [Act.put, List.setIfInBounds_toArray, List.set_cons_zero, List.set_cons_succ]
  refine wpAnyH_take (i := 24) (oi := ⟨some 89, _, _, _, _, _⟩) (v := undef) rfl (by kernel_rfl) (by kernel_rfl) (by kernel_rfl) (fun _ _ _ h => h) (Or.inr ⟨by rfl, rfl⟩) (by assumption) ?_
  try simp only [Act.put, List.setIfInBounds_toArray, List.set_cons_zero, List.set_cons_succ]
  refine wpAnyH_take (i := 25) (oi := ⟨some 90, _, _, _, _, _⟩) (v := undef) rfl (by kernel_rfl) (by kernel_rfl) (by kernel_rfl) (fun _ _ _ h => h) (Or.inr ⟨by rfl, rfl⟩) (by assumption) ?_
  try simp only [Act.put, List.setIfInBounds_toArray, List.set_cons_zero, List.set_cons_succ]
  refine wpAnyH_take (i := 26) (oi := ⟨some 91, _, _, _, _, _⟩) (v := undef) rfl (by kernel_rfl) (by kernel_rfl) (by kernel_rfl) (fun _ _ _ h => h) (Or.inr ⟨by rfl, rfl⟩) (by assumption) ?_
  try simp only [Act.put, List.setIfInBounds_toArray, List.set_cons_zero, List.set_cons_succ]
  refine wpAnyH_take (i := 27) (oi := ⟨some 92, _, _, _, _, _⟩) (v := undef) rfl (by kernel_rfl) (by kernel_rfl) (by kernel_rfl) (fun _ _ _ h => h) (Or.inr ⟨by rfl, rfl⟩) (by assumption) ?_
  try simp only [Act.put, List.setIfInBounds_toArray, List.set_cons_zero, List.set_cons_succ]
  refine wpAnyH_take (i := 28) (oi := ⟨some 93, _, _, _, _, _⟩) (v := undef) rfl (by kernel_rfl) (by kernel_rfl) (by kernel_rfl) (fun _ _ _ h => h) (Or.inr ⟨by rfl, rfl⟩) (by assumption) ?_
  try simp only [Act.put, List.setIfInBounds_toArray, List.set_cons_zero, List.set_cons_succ]
  refine wpAnyH_take (i := 29) (oi := ⟨some 94, _, _, _, _, _⟩) (v := undef) rfl (by kernel_rfl) (by kernel_rfl) (by kernel_rfl) (fun _ _ _ h => h) (Or.inr ⟨by rfl, rfl⟩) (by assumption) ?_
  try simp only [Act.put, List.setIfInBounds_toArray, List.set_cons_zero, List.set_cons_succ]
  refine wpAnyH_take (i := 30) (oi := ⟨some 95, _, _, _, _, _⟩) (v := undef) rfl (by kernel_rfl) (by kernel_rfl) (by kernel_rfl) (fun _ _ _ h => h) (Or.inr ⟨by rfl, rfl⟩) (by assumption) ?_
  try simp only [Act.put, List.setIfInBounds_toArray, List.set_cons_zero, List.set_cons_succ]
  refine wpAnyH_take (i := 31) (oi := ⟨some 96, _, _, _, _, _⟩) (v := undef) rfl (by kernel_rfl) (by kernel_rfl) (by kernel_rfl) (fun _ _ _ h => h) (Or.inr ⟨by rfl, rfl⟩) (by assumption) ?_
  try simp only [Act.put, List.setIfInBounds_toArray, List.set_cons_zero, List.set_cons_succ]
  refine wpAnyH_take (i := 32) (oi := ⟨some 97, _, _, _, _, _⟩) (v := undef) rfl (by kernel_rfl) (by kernel_rfl) (by kernel_rfl) (fun _ _ _ h => h) (Or.inr ⟨by rfl, rfl⟩) (by assumption) ?_
  try simp only [Act.put, List.setIfInBounds_toArray, List.set_cons_zero, List.set_cons_succ]
  refine wpAnyH_take (i := 33) (oi := ⟨some 98, _, _, _, _, _⟩) (v := undef) rfl (by kernel_rfl) (by kernel_rfl) (by kernel_rfl) (fun _ _ _ h => h) (Or.inr ⟨by rfl, rfl⟩) (by assumption) ?_
  try simp only [Act.put, List.setIfInBounds_toArray, List.set_cons_zero, List.set_cons_succ]
  refine wpAnyH_take (i := 34) (oi := ⟨some 99, _, _, _, _, _⟩) (v := undef) rfl (by kernel_rfl) (by kernel_rfl) (by kernel_rfl) (fun _ _ _ h => h) (Or.inr ⟨by rfl, rfl⟩) (by assumption) ?_
  try simp only [Act.put, List.setIfInBounds_toArray, List.set_cons_zero, List.set_cons_succ]
  refine wpAnyH_take (i := 35) (oi := ⟨some 100, _, _, _, _, _⟩) (v := undef) rfl (by kernel_rfl) (by kernel_rfl) (by kernel_rfl) (fun _ _ _ h => h) (Or.inr ⟨by rfl, rfl⟩) (by assumption) ?_
  try simp only [Act.put, List.setIfInBounds_toArray, List.set_cons_zero, List.set_cons_succ]
  refine wpAnyH_take (i := 36) (oi := ⟨some 101, _, _, _, _, _⟩) (v := undef) rfl (by kernel_rfl) (by kernel_rfl) (by kernel_rfl) (fun _ _ _ h => h) (Or.inr ⟨by rfl, rfl⟩) (by assumption) ?_
  try simp only [Act.put, List.setIfInBounds_toArray, List.set_cons_zero, List.set_cons_succ]
  refine wpAnyH_take (i := 37) (oi := ⟨some 102, _, _, _, _, _⟩) (v := undef) rfl (by kernel_rfl) (by kernel_rfl) (by kernel_rfl) (fun _ _ _ h => h) (Or.inr ⟨by rfl, rfl⟩) (by assumption) ?_
  try simp only [Act.put, List.setIfInBounds_toArray, List.set_cons_zero, List.set_cons_succ]
  refine wpAnyH_take (i := 38) (oi := ⟨some 103, _, _, _, _, _⟩) (v := undef) rfl (by kernel_rfl) (by kernel_rfl) (by kernel_rfl) (fun _ _ _ h => h) (Or.inr ⟨by rfl, rfl⟩) (by assumption) ?_
  try simp only [Act.put, List.setIfInBounds_toArray, List.set_cons_zero, List.set_cons_succ]
  refine wpAnyH_take (i := 39) (oi := ⟨some 104, _, _, _, _, _⟩) (v := undef) rfl (by kernel_rfl) (by kernel_rfl) (by kernel_rfl) (fun _ _ _ h => h) (Or.inr ⟨by rfl, rfl⟩) (by assumption) ?_
  try simp only [Act.put, List.setIfInBounds_toArray, List.set_cons_zero, List.set_cons_succ]
  refine wpAnyH_take (i := 40) (oi := ⟨some 105, _, _, _, _, _⟩) (v := undef) rfl (by kernel_rfl) (by kernel_rfl) (by kernel_rfl) (fun _ _ _ h => h) (Or.inr ⟨by rfl, rfl⟩) (by assumption) ?_
  try simp only [Act.put, List.setIfInBounds_toArray, List.set_cons_zero, List.set_cons_succ]
  refine wpAnyH_take (i := 41) (oi := ⟨some 106, _, _, _, _, _⟩) (v := undef) rfl (by kernel_rfl) (by kernel_rfl) (by kernel_rfl) (fun _ _ _ h => h) (Or.inr ⟨by rfl, rfl⟩) (by assumption) ?_
  try simp only [Act.put, List.setIfInBounds_toArray, List.set_cons_zero, List.set_cons_succ]
  refine wpAnyH_take (i := 42) (oi := ⟨some 107, _, _, _, _, _⟩) (v := undef) rfl (by kernel_rfl) (by kernel_rfl) (by kernel_rfl) (fun _ _ _ h => h) (Or.inr ⟨by rfl, rfl⟩) (by assumption) ?_
  try simp only [Act.put, List.setIfInBounds_toArray, List.set_cons_zero, List.set_cons_succ]
  refine wpAnyH_take (i := 43) (oi := ⟨some 108, _, _, _, _, _⟩) (v := undef) rfl (by kernel_rfl) (by kernel_rfl) (by kernel_rfl) (fun _ _ _ h => h) (Or.inr ⟨by rfl, rfl⟩) (by assumption) ?_
  try simp only [Act.put, List.setIfInBounds_toArray, List.set_cons_zero, List.set_cons_succ]
  refine wpAnyH_take (i := 44) (oi := ⟨some 109, _, _, _, _, _⟩) (v := (.bool false)) rfl (by kernel_rfl) (by kernel_rfl) (by kernel_rfl) (fun _ _ _ h => h) (Or.inl ⟨by rfl, by (intro w' hSw; (try dsimp only at hSw); go_simp)⟩) (by assumption) ?_
  try simp only [Act.put, List.setIfInBounds_toArray, List.set_cons_zero, List.set_cons_succ]
  refine wpAnyH_take (i := 45) (oi := ⟨some 110, _, _, _, _, _⟩) (v := (.bool false)) rfl (by kernel_rfl) (by kernel_rfl) (by kernel_rfl) (fun _ _ _ h => h) (Or.inl ⟨by rfl, by (intro w' hSw; (try dsimp only at hSw); go_simp)⟩) (by assumption) ?_
  try simp only [Act.put, List.setIfInBounds_toArray, List.set_cons_zero, List.set_cons_succ]
  refine wpAnyH_done (by kernel_rfl) ?_ _
  refine NoPanic.normal ?_
  have HK := Aside0.mk (hK9.out.below (Fr.refl (fun _ => False) w9).of_drew)
  clear hHeld hK9
  have b5 := B5.out
  go_wp2
  exact HH.out.2 _ _ ⟨rfl, rfl⟩ rfl rfl rfl rfl rfl (congrArg (Value.int .i64) B5.out) HK.out
end Go.Proofs.Ytnabilhcmplhcaa.Sha

/-
  LedgerCatches: a round of its second loop.
-/
set_option linter.unusedVariables false
set_option linter.unusedSimpArgs false
namespace Go.Proofs.Ytnabilhcmplhcaa.Sha
open Go.RowKit Go.Proofs.YtnabilhcmplhcaaW.PrintWords Go.Proofs.YtnabilhcmplhcaaW.PrintLast Go.Proofs.YtnabilhcmplhcaaW.PrintMore Go.Proofs.Ytnabilhcmplhcaa.Q Go.Proofs.Ytnabilhcmplhcaa.Fr Go.Proofs.Ytnabilhcmplhcaa.Oct
open Go.Maps Go.ChangeMaps
open Go.Proofs.Ytnabilhcmplhcaa.Open (okR)

set_option maxHeartbeats 8000000 in
set_option maxRecDepth 100000 in
theorem roundDo (u : Nat → Value) (view turn slot : Int) (x y : S31) (A1 : Option Addr) (c1 : Nat) (A2 : Option Addr) (c2 : Nat) (A3 : Option Addr) (c3 : Nat) (A4 : Option Addr) (c4 : Nat) (w W : World) (gb gr gl bm : Nat) (HX : Aside0 (Rd w A1 x.f2 ∧ Rd w A2 x.f3 ∧ x.f2.length ≤ c1 ∧ x.f3.length ≤ c2 ∧ x.f2.length + x.f3.length ≤ 1048576 ∧ Bys x.f2 ∧ Bys x.f3)) (HY : Aside0 (Rd w A3 y.f2 ∧ Rd w A4 y.f3 ∧ y.f2.length ≤ c3 ∧ y.f3.length ≤ c4 ∧ y.f2.length + y.f3.length ≤ 1048576 ∧ Bys y.f2 ∧ Bys y.f3))
    (HW : Aside0 ((Lit.int .i64 view).wf = true ∧ (Lit.int .i64 turn).wf = true ∧ (Lit.int .i64 slot).wf = true)) (k : Nat) (hi : k < 15) (p : Int) (hp : ((k : Int) + 1) % 2 = p) (z : S31) (Az : Option Addr) (cz : Nat) (Bz : Option Addr) (dz : Nat) (hz : rqA x y (k + 1) = z) (hne : bodyA (rqA x y k).f0 (rqA x y k).f1 (rqA x y k).f2 (rqA x y k).f3 ≠ bodyA z.f0 z.f1 z.f2 z.f3)
    (H : Kc w W gb gr gl bm view turn x y A1 c1 A2 c2 A3 c3 A4 c4 (L2 view turn slot x y true k)) (hzc : W.cell? ⟨gr, p.toNat * 4, none⟩ = some (.int .i64 z.f0) ∧ W.cell? ⟨gr, p.toNat * 4 + 1, none⟩ = some (.int .i64 z.f1) ∧ W.cell? ⟨gr, p.toNat * 4 + 2, none⟩ = some (.slice Az z.f2.length cz) ∧ W.cell? ⟨gr, p.toNat * 4 + 3, none⟩ = some (.slice Bz z.f3.length dz)) (HZr : Aside0 (Rd W Az z.f2 ∧ Rd W Bz z.f3 ∧ z.f2.length ≤ cz ∧ z.f3.length ≤ dz ∧ z.f2.length + z.f3.length ≤ 1048576 ∧ Bys z.f2 ∧ Bys z.f3))
    (Q : Exit → Act → World → Prop) (hQ : ∀ a' W', Fm 114 a' → sl a' 1 = .int .i64 slot → sl a' 3 = .pointer (some ⟨gb, 0, none⟩) → sl a' 5 = .pointer (some ⟨gr, 0, none⟩) → sl a' 7 = .pointer (some ⟨gl, 0, none⟩) → sl a' 10 = .bool false → sl a' 11 = .int .i64 ((k : Int) + 1) → Kc w W' gb gr gl bm view turn x y A1 c1 A2 c2 A3 c3 A4 c4 (L2 view turn slot x y true (k + 1)) → Q .normal a' W') :
    Code.wp Try.prog (bodyN Try.f6 1) Q ⟨#[u 0, .int .i64 slot, u 2, .pointer (some ⟨gb, 0, none⟩), u 4, .pointer (some ⟨gr, 0, none⟩), u 6, .pointer (some ⟨gl, 0, none⟩), u 8, u 9, .bool false, .int .i64 (k : Int), u 12, u 13, u 14, u 15, u 16, u 17, u 18, u 19, u 20, u 21, u 22, u 23, u 24, u 25, u 26, u 27, u 28, u 29, u 30, u 31, u 32, u 33, u 34, u 35, u 36, u 37, u 38, u 39, u 40, u 41, u 42, u 43, u 44, u 45, u 46, u 47, u 48, u 49, u 50, u 51, u 52, u 53, u 54, u 55, u 56, u 57, u 58, u 59, u 60, u 61, u 62, u 63, u 64, u 65, u 66, u 67, u 68, u 69, u 70, u 71, u 72, u 73, u 74, u 75, u 76, u 77, u 78, u 79, u 80, u 81, u 82, u 83, u 84, u 85, u 86, u 87, u 88, u 89, u 90, u 91, u 92, u 93, u 94, u 95, u 96, u 97, u 98, u 99, u 100, u 101, u 102, u 103, u 104, u 105, u 106, u 107, u 108, u 109, u 110, u 111, u 112, u 113], []⟩ W := by
  have HNE := Aside0.mk hne
  clear hne
  have b0 : decide ((k : Int) < 15) = true := decide_eq_true (by omega)
  have b5 : wrap64 ((k : Int) + 1) = (k : Int) + 1 := by unfold wrap64; omega
  have p0 : (0 : Int) ≤ p := by omega
  have p1 : p < 2 := by omega
  have r1 : ((k : Int) + 1).tmod 2 = p := by rw [Int.tmod_eq_emod_of_nonneg (by omega)]; exact hp
  have r0 : True := trivial
  have B5 := Aside0.mk b5
  have HH := Aside0.mk (And.intro H hQ)
  obtain ⟨z0, z1, z2, z3⟩ := hzc
  clear H hQ hp
  conv => arg 2; whnf
  go_wp2_with (first | ((with_reducible refine gate_dst (N := 12) rfl ?_); refine wpList_alloc_abs (by rfl) 31 (by rfl) (.agg Z4q) (by kernel_rfl) ?_; intro w2 hb2 hs2 hg2) | ((with_reducible refine gate_store (p := 12) rfl ?_); refine Aside0.out ?_))
  refine ⟨?_⟩
  refine wpList_store_abs (by rfl) 31 _ _ (by rfl) W.heap.size #[.int .i64 z.f0, .int .i64 z.f1, .slice Az z.f2.length cz, .slice Bz z.f3.length dz] (by rfl) (by rfl) 31 Z4q hg2 (by kernel_rfl) (by rfl) (by simp [Value.oneCell']) ?_
  intro w3 hf3 hs3 hg3
  have F3 : Fr (fun _ => False) W w3 := (Fr.of_below hb2 (fun _ => False)).trans hf3 (fun k hk => .inr (by omega))
  have K3 := HH.out.1.below F3
  have H3 := Aside0.mk (And.intro K3.hb (And.intro hg3 K3))
  have HR := Aside0.mk (And.intro (HZr.out.1.lies F3) (And.intro (HZr.out.2.1.lies F3) HZr.out.2.2))
  have HI := Aside0.mk (And.intro (wf_nat (Nat.le_of_lt hi)) (And.intro hi hz))
  obtain ⟨D, Bs, hld⟩ := K3.ld
  obtain ⟨base, hbase⟩ : ∃ b, w.heap.size = b := ⟨_, rfl⟩
  have HG := Aside0.mk (show base ≤ w3.heap.size from by rw [← hbase]; exact K3.F.size)
  rw [hbase] at hld
  have HD := Aside0.mk hld
  have HBs := Aside0.mk hbase
  clear hb2 hs2 hg2 hf3 hs3 hg3 F3 K3 hld hbase z0 z1 z2 z3 b0 p0 p1 r1 hi hz b5 r0
  go_wp2_with (fail)
  have hS : ∀ w', Fr (fun _ => False) w3 w' → w'.cell? ⟨gb, 0, none⟩ = some (.int .i64 view) ∧ w'.cell? ⟨gb, 1, none⟩ = some (.int .i64 turn) ∧ w'.cell? ⟨W.heap.size, 0, none⟩ = some (.int .i64 z.f0) ∧ w'.cell? ⟨W.heap.size, 1, none⟩ = some (.int .i64 z.f1) ∧ w'.cell? ⟨W.heap.size, 2, none⟩ = some (.slice Az z.f2.length cz) ∧ w'.cell? ⟨W.heap.size, 3, none⟩ = some (.slice Bz z.f3.length dz) := fun w' hf => by
    have h1 := hf.blk H3.out.1 (fun h => h)
    have h2 := hf.blk H3.out.2.1 (fun h => h)
    simp [World.cell?, h1, h2]
  have HC : ∀ w1, Fr (fun _ => False) w3 w1 → Calls Try.prog 13 #[.agg #[.int .i64 z.f0, .int .i64 z.f1, .slice Az (z.f2).length cz, .slice Bz (z.f3).length dz]] w1 fun e w2 => ∃ B1 d1 B2 d2, e = .returned (.agg #[.int .i64 z.f0, .int .i64 z.f1, .slice B1 (z.f2).length d1, .slice B2 (z.f3).length d2]) ∧ (w2.cell? ⟨gb, 0, none⟩ = some (.int .i64 view) ∧ w2.cell? ⟨gb, 1, none⟩ = some (.int .i64 turn) ∧ w2.cell? ⟨W.heap.size, 0, none⟩ = some (.int .i64 z.f0) ∧ w2.cell? ⟨W.heap.size, 1, none⟩ = some (.int .i64 z.f1) ∧ w2.cell? ⟨W.heap.size, 2, none⟩ = some (.slice Az z.f2.length cz) ∧ w2.cell? ⟨W.heap.size, 3, none⟩ = some (.slice Bz z.f3.length dz)) ∧ Aside0 (Fr (fun _ => False) w1 w2 ∧ Fr (fun _ => False) w3 w2 ∧ (z.f2).length ≤ d1 ∧ (z.f3).length ≤ d2 ∧ Rd w2 B1 (z.f2) ∧ Rd w2 B2 (z.f3)) := by
    intro w1 hf1
    refine (copyr_calls z.f0 z.f1 Az cz (z.f2) Bz dz (z.f3) w1 (HR.out.1.lies hf1) HR.out.2.2.1 (HR.out.2.1.lies hf1) HR.out.2.2.2.1 HR.out.2.2.2.2.1).mono ?_
    rintro e w2 ⟨B1, d1, B2, d2, rfl, h1, h2, r1, r2, hb⟩
    have f12 := Fr.of_below hb (fun _ => False)
    have f2 := hf1.trans f12 (fun _ h => h.elim)
    exact ⟨B1, d1, B2, d2, rfl, hS _ f2, ⟨f12, f2, h1, h2, r1, r2⟩⟩
  have HM : ∀ w1, Fr (fun _ => False) w3 w1 → Calls Try.prog 19 #[.agg #[.int .i64 view, .int .i64 turn], .int .i64 slot, .agg #[.int .i64 z.f0, .int .i64 z.f1, .slice Az (z.f2).length cz, .slice Bz (z.f3).length dz], .int .i64 (k : Int)] w1 fun e w2 => ∃ A5 c5, e = .returned (.agg #[.int .i64 (k : Int), .slice A5 (vsA 2 view turn slot (bodyA z.f0 z.f1 z.f2 z.f3) (k : Int)).length c5]) ∧ (w2.cell? ⟨gb, 0, none⟩ = some (.int .i64 view) ∧ w2.cell? ⟨gb, 1, none⟩ = some (.int .i64 turn) ∧ w2.cell? ⟨W.heap.size, 0, none⟩ = some (.int .i64 z.f0) ∧ w2.cell? ⟨W.heap.size, 1, none⟩ = some (.int .i64 z.f1) ∧ w2.cell? ⟨W.heap.size, 2, none⟩ = some (.slice Az z.f2.length cz) ∧ w2.cell? ⟨W.heap.size, 3, none⟩ = some (.slice Bz z.f3.length dz)) ∧ Aside0 (Fr (fun _ => False) w1 w2 ∧ Fr (fun _ => False) w3 w2 ∧ (vsA 2 view turn slot (bodyA z.f0 z.f1 z.f2 z.f3) (k : Int)).length ≤ c5 ∧ Rd w2 A5 (vsA 2 view turn slot (bodyA z.f0 z.f1 z.f2 z.f3) (k : Int))) := by
    intro w1 hf1
    refine (made_calls view turn slot z.f0 z.f1 Az cz (z.f2) Bz dz (z.f3) (k : Int) w1 (HR.out.1.lies hf1) HR.out.2.2.1 (HR.out.2.1.lies hf1) HR.out.2.2.2.1 HR.out.2.2.2.2.1).mono ?_
    rintro e w2 ⟨A5, c5, rfl, hc5, hO, hb⟩
    have f12 := Fr.of_below hb (fun _ => False)
    have f2 := hf1.trans f12 (fun _ h => h.elim)
    exact ⟨A5, c5, rfl, hS _ f2, ⟨f12, f2, hc5, QB.rd (q_of_own hO)⟩⟩
  have HNt : ∀ w1 B1 d1 B2 d2 g, Aside0 (Fr (fun _ => False) w3 w1 ∧ (z.f2).length ≤ d1 ∧ (z.f3).length ≤ d2 ∧ Rd w1 B1 (z.f2) ∧ Rd w1 B2 (z.f3) ∧ VC w1 (some ⟨g, 0, none⟩) [((k : Int), vsA 2 view turn slot (bodyA z.f0 z.f1 z.f2 z.f3) (k : Int))]) → Calls Try.prog 12 #[.pointer (some ⟨gl, 0, none⟩), .int .i64 2, .agg #[.int .i64 view, .int .i64 turn], .int .i64 slot, .agg #[.int .i64 z.f0, .int .i64 z.f1, .slice B1 (z.f2).length d1, .slice B2 (z.f3).length d2], .slice (some ⟨g, 0, none⟩) 1 1] w1 fun e w2 => ∃ (A9 : Option Addr × Nat) (E : List Ev), e = .returned (.slice A9.1 E.length A9.2) ∧ (w2.cell? ⟨gb, 0, none⟩ = some (.int .i64 view) ∧ w2.cell? ⟨gb, 1, none⟩ = some (.int .i64 turn) ∧ w2.cell? ⟨W.heap.size, 0, none⟩ = some (.int .i64 z.f0) ∧ w2.cell? ⟨W.heap.size, 1, none⟩ = some (.int .i64 z.f1) ∧ w2.cell? ⟨W.heap.size, 2, none⟩ = some (.slice Az z.f2.length cz) ∧ w2.cell? ⟨W.heap.size, 3, none⟩ = some (.slice Bz z.f3.length dz)) ∧ Aside0 (∃ D' S' Bs', LdAt w2 base gl bm D' S' Bs' ∧ EvRow w2 w3.heap.size (.slice A9.1 E.length A9.2) E ∧ Steps 2 view turn slot z.f0 z.f1 (z.f2) (z.f3) (L2 view turn slot x y true k) [] [((k : Int), vsA 2 view turn slot (bodyA z.f0 z.f1 z.f2 z.f3) (k : Int))] S' E ∧ Fr (LF bm Bs) w3 w2) := by
    intro w1 B1 d1 B2 d2 g H
    have hL := HD.out.fr0 H.out.1
    refine (note_calls 2 view turn slot z.f0 z.f1 B1 d1 (z.f2) B2 d2 (z.f3) (some ⟨g, 0, none⟩) 1 [((k : Int), vsA 2 view turn slot (bodyA z.f0 z.f1 z.f2 z.f3) (k : Int))] (by simp) w1 base gl bm _ _ _ hL (Nat.le_trans HG.out H.out.1.size) (.inl rfl) H.out.2.2.2.1 H.out.2.2.2.2.1 H.out.2.2.2.2.2 HR.out.2.2.2.2.1 H.out.2.1 H.out.2.2.1 HR.out.2.2.2.2.2.1 HR.out.2.2.2.2.2.2 (fun v hv => by
      have : v = ((k : Int), vsA 2 view turn slot (bodyA z.f0 z.f1 z.f2 z.f3) (k : Int)) := by simpa using hv
      subst this
      exact ⟨Nat.le_trans (vsA_len 2 view turn slot _ (k : Int)) (by decide), vsA_bys 2 view turn slot _ (k : Int), HI.out.1⟩) HW.out.1 HW.out.2.1 HW.out.2.2).mono ?_
    rintro e w2 ⟨D', S', Bs', out, E, rfl, L, nb, ev, st, f⟩
    have hf1 := H.out.1
    have ev2 : EvRow w2 w3.heap.size out E := by
      obtain ⟨css, h1, h2, h3⟩ := ev
      exact ⟨css, h1, row_lower h2 hf1.size, h3⟩
    obtain ⟨A9, c9, rfl⟩ := evrow_len ev
    have hs : w2.cell? ⟨gb, 0, none⟩ = some (.int .i64 view) ∧ w2.cell? ⟨gb, 1, none⟩ = some (.int .i64 turn) ∧ w2.cell? ⟨W.heap.size, 0, none⟩ = some (.int .i64 z.f0) ∧ w2.cell? ⟨W.heap.size, 1, none⟩ = some (.int .i64 z.f1) ∧ w2.cell? ⟨W.heap.size, 2, none⟩ = some (.slice Az z.f2.length cz) ∧ w2.cell? ⟨W.heap.size, 3, none⟩ = some (.slice Bz z.f3.length dz) := by
      have g0 := hf1.blk H3.out.1 (fun h => h)
      have h0 := f.blk g0 (LF.not hL g0 (by decide))
      have g1 := hf1.blk H3.out.2.1 (fun h => h)
      have h1 := f.blk g1 (LF.not hL g1 (by decide))
      simp [World.cell?, h0, h1]
    exact ⟨(A9, c9), E, rfl, hs, ⟨_, _, _, L, ev2, st, (hf1.mono (fun _ e => e.elim)).trans f (fun k hk => .inl hk)⟩⟩
  have HS := Aside0.mk hS
  have hs0 := hS _ (Fr.refl _ _)
  have HC := Aside0.mk HC
  have HM := Aside0.mk HM
  have HNt := Aside0.mk HNt
  clear hS
  refine wp_cut (fun a' w' => Fm 114 a' ∧ sl a' 1 = .int .i64 slot ∧ sl a' 3 = .pointer (some ⟨gb, 0, none⟩) ∧ sl a' 5 = .pointer (some ⟨gr, 0, none⟩) ∧ sl a' 7 = .pointer (some ⟨gl, 0, none⟩) ∧ sl a' 10 = .bool false ∧ sl a' 11 = .int .i64 (k : Int) ∧ ∃ g cap, sl a' 13 = .slice (some ⟨g, 0, none⟩) 1 cap ∧ Aside0 (Kc w w' gb gr gl bm view turn x y A1 c1 A2 c2 A3 c3 A4 c4 (L2 view turn slot x y true (k + 1)) ∧ w'.cell? ⟨g, 1, none⟩ = some (.int .i64 view) ∧ w'.cell? ⟨g, 2, none⟩ = some (.int .i64 turn) ∧ w'.cell? ⟨g, 3, none⟩ = some (.int .i64 slot) ∧ w'.cell? ⟨g, 4, none⟩ = some (.int .i64 (k : Int)) ∧ w'.cell? ⟨g, 6, none⟩ = some (.int .i64 2))) ?_ ?_
  · refine wp_region_noPanic ?_
    refine wp_region_held_drew (S := (fun w' => w'.cell? ⟨gb, 0, none⟩ = some (.int .i64 view) ∧ w'.cell? ⟨gb, 1, none⟩ = some (.int .i64 turn) ∧ w'.cell? ⟨W.heap.size, 0, none⟩ = some (.int .i64 z.f0) ∧ w'.cell? ⟨W.heap.size, 1, none⟩ = some (.int .i64 z.f1) ∧ w'.cell? ⟨W.heap.size, 2, none⟩ = some (.slice Az z.f2.length cz) ∧ w'.cell? ⟨W.heap.size, 3, none⟩ = some (.slice Bz z.f3.length dz))) (by kernel_rfl) hs0 (fun hHeld => ?_)
    refine wpAnyH_take (i := 0) (oi := ⟨some 53, _, _, _, _, _⟩) (v := (.pointer (some ⟨gl, 0, none⟩))) rfl (by kernel_rfl) (by kernel_rfl) (by kernel_rfl) (fun _ _ _ h => h) (Or.inl ⟨by rfl, by (intro w' hSw; (try dsimp only at hSw); go_simp)⟩) (by assumption) ?_
    try simp only [Act.put, List.setIfInBounds_toArray, List.set_cons_zero, List.set_cons_succ]
    refine wpAnyH_take (i := 1) (oi := ⟨some 54, _, _, _, _, _⟩) (v := (.agg #[.int .i64 view, .int .i64 turn])) rfl (by kernel_rfl) (by kernel_rfl) (by kernel_rfl) (fun _ _ _ h => h) (Or.inl ⟨by rfl, by (intro w' hSw; (try dsimp only at hSw); go_simp)⟩) (by assumption) ?_
    try simp only [Act.put, List.setIfInBounds_toArray, List.set_cons_zero, List.set_cons_succ]
    refine wpAnyH_take (i := 2) (oi := ⟨some 55, _, _, _, _, _⟩) (v := (.int .i64 slot)) rfl (by kernel_rfl) (by kernel_rfl) (by kernel_rfl) (fun _ _ _ h => h) (Or.inl ⟨by rfl, by (intro w' hSw; (try dsimp only at hSw); go_simp)⟩) (by assumption) ?_
    try simp only [Act.put, List.setIfInBounds_toArray, List.set_cons_zero, List.set_cons_succ]
    refine wpAnyH_take (i := 3) (oi := ⟨some 56, _, _, _, _, _⟩) (v := (.agg #[.int .i64 z.f0, .int .i64 z.f1, .slice Az z.f2.length cz, .slice Bz z.f3.length dz])) rfl (by kernel_rfl) (by kernel_rfl) (by kernel_rfl) (fun _ _ _ h => h) (Or.inl ⟨by rfl, by (intro w' hSw; (try dsimp only at hSw); go_simp)⟩) (by assumption) ?_
    try simp only [Act.put, List.setIfInBounds_toArray, List.set_cons_zero, List.set_cons_succ]
    refine wpAnyH_take (i := 5) (oi := ⟨some 58, _, _, _, _, _⟩) (v := (.agg #[.int .i64 view, .int .i64 turn])) rfl (by kernel_rfl) (by kernel_rfl) (by kernel_rfl) (fun _ _ _ h => h) (Or.inl ⟨by rfl, by (intro w' hSw; (try dsimp only at hSw); go_simp)⟩) (by assumption) ?_
    try simp only [Act.put, List.setIfInBounds_toArray, List.set_cons_zero, List.set_cons_succ]
    refine wpAnyH_take (i := 6) (oi := ⟨some 59, _, _, _, _, _⟩) (v := (.int .i64 slot)) rfl (by kernel_rfl) (by kernel_rfl) (by kernel_rfl) (fun _ _ _ h => h) (Or.inl ⟨by rfl, by (intro w' hSw; (try dsimp only at hSw); go_simp)⟩) (by assumption) ?_
    try simp only [Act.put, List.setIfInBounds_toArray, List.set_cons_zero, List.set_cons_succ]
    refine wpAnyH_take (i := 7) (oi := ⟨some 60, _, _, _, _, _⟩) (v := (.agg #[.int .i64 z.f0, .int .i64 z.f1, .slice Az z.f2.length cz, .slice Bz z.f3.length dz])) rfl (by kernel_rfl) (by kernel_rfl) (by kernel_rfl) (fun _ _ _ h => h) (Or.inl ⟨by rfl, by (intro w' hSw; (try dsimp only at hSw); go_simp)⟩) (by assumption) ?_
    try simp only [Act.put, List.setIfInBounds_toArray, List.set_cons_zero, List.set_cons_succ]
    refine wpAnyH_take (i := 8) (oi := ⟨some 61, _, _, _, _, _⟩) (v := (.int .i64 (k : Int))) rfl (by kernel_rfl) (by kernel_rfl) (by kernel_rfl) (fun _ _ _ h => h) (Or.inl ⟨by rfl, by (intro w' hSw; (try dsimp only at hSw); go_simp)⟩) (by assumption) ?_
    try simp only [Act.put, List.setIfInBounds_toArray, List.set_cons_zero, List.set_cons_succ]
    refine wpAnyH_ready (rs := [4]) (by kernel_rfl) (by simp) ?_
    refine AllReadyH.cons (o := ⟨some 57, _, _, _, _, _⟩) rfl (fun K hK => ?_) AllReadyH.nil
    go_simp
    go_at_call 13
    refine (HC.out _ (Fr.refl _ _).of_drew).mono ?_
    rintro e wa ⟨B1, d1, B2, d2, rfl, hswa, Hc⟩
    refine hK.out _ _ hswa (fun hHeld => ?_)
    try simp only [Act.put, List.setIfInBounds_toArray, List.set_cons_zero, List.set_cons_succ]
    refine wpAnyH_ready (rs := [9]) (by kernel_rfl) (by simp) ?_
    refine AllReadyH.cons (o := ⟨some 62, _, _, _, _, _⟩) rfl (fun K hK => ?_) AllReadyH.nil
    go_simp
    go_at_call 19
    refine (HM.out _ Hc.out.2.1).mono ?_
    rintro e wb ⟨A5, c5, rfl, hswb, Hm⟩
    refine hK.out _ _ hswb (fun hHeld => ?_)
    try simp only [Act.put, List.setIfInBounds_toArray, List.set_cons_zero, List.set_cons_succ]
    refine wpAnyH_ready (rs := [10]) (by kernel_rfl) (by simp) ?_
    refine AllReadyH.cons (o := ⟨some 63, _, _, _, _, _⟩) rfl (fun K hK => ?_) AllReadyH.nil
    go_simp
    have hgv := heap_alloc_new wb (.cells #[.int .i64 (k : Int), .slice A5 (vsA 2 view turn slot (bodyA z.f0 z.f1 z.f2 z.f3) (k : Int)).length c5] 55)
    have fv : Fr (fun _ => False) wb (wb.alloc (.cells #[.int .i64 (k : Int), .slice A5 (vsA 2 view turn slot (bodyA z.f0 z.f1 z.f2 z.f3) (k : Int)).length c5] 55)) := Fr.alloc (Fr.refl _ _) _
    generalize wb.alloc (.cells #[.int .i64 (k : Int), .slice A5 (vsA 2 view turn slot (bodyA z.f0 z.f1 z.f2 z.f3) (k : Int)).length c5] 55) = wc at *
    have hswc := HS.out _ ((Hm.out.2.1).trans fv (fun _ h => h.elim))
    refine hK.out _ _ hswc (fun hHeld => ?_)
    try simp only [Act.put, List.setIfInBounds_toArray, List.set_cons_zero, List.set_cons_succ]
    refine wpAnyH_ready (rs := [11]) (by kernel_rfl) (by simp) ?_
    refine AllReadyH.cons (o := ⟨some 64, _, _, _, _, _⟩) rfl (fun K hK => ?_) AllReadyH.nil
    go_simp
    go_at_call 12
    refine (HNt.out _ B1 d1 B2 d2 wb.heap.size ⟨(Hm.out.2.1).trans fv (fun _ h => h.elim), Hc.out.2.2.1, Hc.out.2.2.2.1, (Hc.out.2.2.2.2.1.lies Hm.out.1).lies fv, (Hc.out.2.2.2.2.2.lies Hm.out.1).lies fv, VC.one hgv Hm.out.2.2.1 (Hm.out.2.2.2.lies fv)⟩).mono ?_
    rintro e wZ ⟨A9, E, rfl, hsZ, HZ⟩
    obtain ⟨D9, S9, Bs9, L9, ev9, st9, f9⟩ := HZ.out
    have hx9 := L2_get view turn slot x y true (k := k) HI.out.2.1
    obtain ⟨hS9, rfl⟩ := steps_told st9 (vrA_made (by have := HI.out.2.1; show (0 : Int) ≤ (k : Int); omega) (by have := HI.out.2.1; show (k : Int) ≤ 15; omega)) HD.out.keys hx9 rfl rfl HNE.out
    have K9 : Kc w wZ gb gr gl bm view turn x y A1 c1 A2 c2 A3 c3 A4 c4 (L2 view turn slot x y true (k + 1)) := by
      rw [← L2_set view turn slot x y HI.out.2.1]
      have hb := HBs.out
      subst hb
      rw [hS9] at L9
      exact H3.out.2.2.note HD.out f9 L9
    obtain ⟨g, cap, e9, k1, k2, k3, k4, k6⟩ := evrow_one ev9
    obtain ⟨A9, c9⟩ := A9
    injection e9 with e9a e9b e9c
    simp only at e9a e9c
    subst e9a e9c
    have hev : (mkEv (sqA view turn slot x y k false) z.f0 z.f1 z.f2 z.f3 (vsA 2 view turn slot (bodyA z.f0 z.f1 z.f2 z.f3) (k : Int))).view = view ∧ (mkEv (sqA view turn slot x y k false) z.f0 z.f1 z.f2 z.f3 (vsA 2 view turn slot (bodyA z.f0 z.f1 z.f2 z.f3) (k : Int))).turn = turn ∧ (mkEv (sqA view turn slot x y k false) z.f0 z.f1 z.f2 z.f3 (vsA 2 view turn slot (bodyA z.f0 z.f1 z.f2 z.f3) (k : Int))).slot = slot ∧ (mkEv (sqA view turn slot x y k false) z.f0 z.f1 z.f2 z.f3 (vsA 2 view turn slot (bodyA z.f0 z.f1 z.f2 z.f3) (k : Int))).signer = (k : Int) ∧ (mkEv (sqA view turn slot x y k false) z.f0 z.f1 z.f2 z.f3 (vsA 2 view turn slot (bodyA z.f0 z.f1 z.f2 z.f3) (k : Int))).kind = 2 := by
      unfold mkEv
      split <;> exact ⟨rfl, rfl, rfl, rfl, rfl⟩
    replace k1 := k1.trans (congrArg (fun n => some (Value.int .i64 n)) hev.1)
    replace k2 := k2.trans (congrArg (fun n => some (Value.int .i64 n)) hev.2.1)
    replace k3 := k3.trans (congrArg (fun n => some (Value.int .i64 n)) hev.2.2.1)
    replace k4 := k4.trans (congrArg (fun n => some (Value.int .i64 n)) hev.2.2.2.1)
    replace k6 := k6.trans (congrArg (fun n => some (Value.int .i64 n)) hev.2.2.2.2)
    have HK9 := Aside0.mk (And.intro K9 (And.intro k1 (And.intro k2 (And.intro k3 (And.intro k4 k6)))))
    refine hK.out _ _ hsZ (fun hHeld => ?_)
    try simp only [Act.put, List.setIfInBounds_toArray, List.set_cons_zero, List.set_cons_succ]
    refine wpAnyH_take (i := 12) (oi := ⟨some 13, _, _, _, _, _⟩) (v := (.slice (some ⟨g, 0, none⟩) 1 c9)) rfl (by kernel_rfl) (by kernel_rfl) (by kernel_rfl) (fun _ _ _ h => h) (Or.inl ⟨by rfl, by (intro w' hSw; (try dsimp only at hSw); go_simp)⟩) (by assumption) ?_
    try simp only [Act.put, List.setIfInBounds_toArray, List.set_cons_zero, List.set_cons_succ]
    refine wpAnyH_done (by kernel_rfl) ?_ _
    refine NoPanic.normal ?_
    exact ⟨rfl, ⟨rfl, rfl⟩, rfl, rfl, rfl, rfl, rfl, rfl, g, _, rfl, HK9⟩
  rintro a' w9 ⟨hFm, j1, j3, j5, j7, j10, j11, g, cap, j13, hK9⟩
  rw [fm114 hFm, j1, j3, j5, j7, j10, j11, j13]
  clear hFm j1 j3 j5 j7 j10 j11 j13 HC HM HNt HS hs0 HD HG HR H3
  go_wp2_with (fail)
  have hs9 : w9.cell? ⟨gb, 0, none⟩ = some (.int .i64 view) ∧ w9.cell? ⟨gb, 1, none⟩ = some (.int .i64 turn) ∧ w9.cell? ⟨g, 1, none⟩ = some (.int .i64 view) ∧ w9.cell? ⟨g, 2, none⟩ = some (.int .i64 turn) ∧ w9.cell? ⟨g, 3, none⟩ = some (.int .i64 slot) ∧ w9.cell? ⟨g, 4, none⟩ = some (.int .i64 (k : Int)) ∧ w9.cell? ⟨g, 6, none⟩ = some (.int .i64 2) := by
    have h1 := hK9.out.1.hb
    refine ⟨by simp [World.cell?, h1], by simp [World.cell?, h1], hK9.out.2⟩
  refine wp_region_noPanic ?_
  refine wp_region_held_drew (S := (fun w' => w'.cell? ⟨gb, 0, none⟩ = some (.int .i64 view) ∧ w'.cell? ⟨gb, 1, none⟩ = some (.int .i64 turn) ∧ w'.cell? ⟨g, 1, none⟩ = some (.int .i64 view) ∧ w'.cell? ⟨g, 2, none⟩ = some (.int .i64 turn) ∧ w'.cell? ⟨g, 3, none⟩ = some (.int .i64 slot) ∧ w'.cell? ⟨g, 4, none⟩ = some (.int .i64 (k : Int)) ∧ w'.cell? ⟨g, 6, none⟩ = some (.int .i64 2))) (by kernel_rfl) hs9 (fun hHeld => ?_)
  refine wpAnyH_take (i := 0) (oi := ⟨some 65, _, _, _, _, _⟩) (v := (.slice (some ⟨g, 0, none⟩) 1 cap)) rfl (by kernel_rfl) (by kernel_rfl) (by kernel_rfl) (fun _ _ _ h => h) (Or.inl ⟨by rfl, by (intro w' hSw; (try dsimp only at hSw); go_simp)⟩) (by assumption) ?_
  try simp only [Act.put, List.setIfInBounds_toArray, List.set_cons_zero, List.set_cons_succ]
  refine wpAnyH_take (i := 1) (oi := ⟨some 66, _, _, _, _, _⟩) (v := (.int .i64 1)) rfl (by kernel_rfl) (by kernel_rfl) (by kernel_rfl) (fun _ _ _ h => h) (Or.inl ⟨by rfl, by (intro w' hSw; (try dsimp only at hSw); go_simp)⟩) (by assumption) ?_
  try simp only [Act.put, List.setIfInBounds_toArray, List.set_cons_zero, List.set_cons_succ]
  refine wpAnyH_take (i := 2) (oi := ⟨some 67, _, _, _, _, _⟩) (v := (.bool true)) rfl (by kernel_rfl) (by kernel_rfl) (by kernel_rfl) (fun _ _ _ h => h) (Or.inl ⟨by rfl, by (intro w' hSw; (try dsimp only at hSw); go_simp)⟩) (by assumption) ?_
  try simp only [Act.put, List.setIfInBounds_toArray, List.set_cons_zero, List.set_cons_succ]
  refine wpAnyH_take (i := 3) (oi := ⟨some 68, _, _, _, _, _⟩) (v := (.bool false)) rfl (by kernel_rfl) (by kernel_rfl) (by kernel_rfl) (fun _ _ _ h => h) (Or.inl ⟨by rfl, by (intro w' hSw; (try dsimp only at hSw); go_simp)⟩) (by assumption) ?_
  try simp only [Act.put, List.setIfInBounds_toArray, List.set_cons_zero, List.set_cons_succ]
  refine wpAnyH_take (i := 4) (oi := ⟨some 69, _, _, _, _, _⟩) (v := (.bool false)) rfl (by kernel_rfl) (by kernel_rfl) (by kernel_rfl) (fun _ _ _ h => h) (Or.inl ⟨by rfl, by (intro w' hSw; (try dsimp only at hSw); go_simp)⟩) (by assumption) ?_
  try simp only [Act.put, List.setIfInBounds_toArray, List.set_cons_zero, List.set_cons_succ]
  refine wpAnyH_take (i := 5) (oi := ⟨some 70, _, _, _, _, _⟩) (v := (.bool false)) rfl (by kernel_rfl) (by kernel_rfl) (by kernel_rfl) (fun _ _ _ h => h) (Or.inl ⟨by rfl, by (intro w' hSw; (try dsimp only at hSw); go_simp)⟩) (by assumption) ?_
  try simp only [Act.put, List.setIfInBounds_toArray, List.set_cons_zero, List.set_cons_succ]
  refine wpAnyH_take (i := 6) (oi := ⟨some 71, _, _, _, _, _⟩) (v := (.slice (some ⟨g, 0, none⟩) 1 cap)) rfl (by kernel_rfl) (by kernel_rfl) (by kernel_rfl) (fun _ _ _ h => h) (Or.inl ⟨by rfl, by (intro w' hSw; (try dsimp only at hSw); go_simp)⟩) (by assumption) ?_
  try simp only [Act.put, List.setIfInBounds_toArray, List.set_cons_zero, List.set_cons_succ]
  refine wpAnyH_take (i := 7) (oi := ⟨some 72, _, _, _, _, _⟩) (v := (.int .i64 1)) rfl (by kernel_rfl) (by kernel_rfl) (by kernel_rfl) (fun _ _ _ h => h) (Or.inl ⟨by rfl, by (intro w' hSw; (try dsimp only at hSw); go_simp)⟩) (by assumption) ?_
  try simp only [Act.put, List.setIfInBounds_toArray, List.set_cons_zero, List.set_cons_succ]
  refine wpAnyH_take (i := 8) (oi := ⟨some 73, _, _, _, _, _⟩) (v := (.bool false)) rfl (by kernel_rfl) (by kernel_rfl) (by kernel_rfl) (fun _ _ _ h => h) (Or.inl ⟨by rfl, by (intro w' hSw; (try dsimp only at hSw); go_simp)⟩) (by assumption) ?_
  try simp only [Act.put, List.setIfInBounds_toArray, List.set_cons_zero, List.set_cons_succ]
  refine wpAnyH_take (i := 9) (oi := ⟨some 74, _, _, _, _, _⟩) (v := (.bool false)) rfl (by kernel_rfl) (by kernel_rfl) (by kernel_rfl) (fun _ _ _ h => h) (Or.inl ⟨by rfl, by (intro w' hSw; (try dsimp only at hSw); go_simp)⟩) (by assumption) ?_
  try simp only [Act.put, List.setIfInBounds_toArray, List.set_cons_zero, List.set_cons_succ]
  refine wpAnyH_take (i := 10) (oi := ⟨some 75, _, _, _, _, _⟩) (v := (.bool false)) rfl (by kernel_rfl) (by kernel_rfl) (by kernel_rfl) (fun _ _ _ h => h) (Or.inl ⟨by rfl, by (intro w' hSw; (try dsimp only at hSw); go_simp)⟩) (by assumption) ?_
  try simp only [Act.put, List.setIfInBounds_toArray, List.set_cons_zero, List.set_cons_succ]
  refine wpAnyH_take (i := 11) (oi := ⟨some 76, _, _, _, _, _⟩) (v := (.slice (some ⟨g, 0, none⟩) 1 cap)) rfl (by kernel_rfl) (by kernel_rfl) (by kernel_rfl) (fun _ _ _ h => h) (Or.inl ⟨by rfl, by (intro w' hSw; (try dsimp only at hSw); go_simp)⟩) (by assumption) ?_
  try simp only [Act.put, List.setIfInBounds_toArray, List.set_cons_zero, List.set_cons_succ]
  refine wpAnyH_take (i := 12) (oi := ⟨some 77, _, _, _, _, _⟩) (v := (.int .i64 1)) rfl (by kernel_rfl) (by kernel_rfl) (by kernel_rfl) (fun _ _ _ h => h) (Or.inl ⟨by rfl, by (intro w' hSw; (try dsimp only at hSw); go_simp)⟩) (by assumption) ?_
  try simp only [Act.put, List.setIfInBounds_toArray, List.set_cons_zero, List.set_cons_succ]
  refine wpAnyH_take (i := 13) (oi := ⟨some 78, _, _, _, _, _⟩) (v := (.bool true)) rfl (by kernel_rfl) (by kernel_rfl) (by kernel_rfl) (fun _ _ _ h => h) (Or.inl ⟨by rfl, by (intro w' hSw; (try dsimp only at hSw); go_simp)⟩) (by assumption) ?_
  try simp only [Act.put, List.setIfInBounds_toArray, List.set_cons_zero, List.set_cons_succ]
  refine wpAnyH_take (i := 14) (oi := ⟨some 79, _, _, _, _, _⟩) (v := (.bool true)) rfl (by kernel_rfl) (by kernel_rfl) (by kernel_rfl) (fun _ _ _ h => h) (Or.inl ⟨by rfl, by (intro w' hSw; (try dsimp only at hSw); go_simp)⟩) (by assumption) ?_
  try simp only [Act.put, List.setIfInBounds_toArray, List.set_cons_zero, List.set_cons_succ]
  refine wpAnyH_take (i := 15) (oi := ⟨some 80, _, _, _, _, _⟩) (v := (.slice (some ⟨g, 0, none⟩) 1 cap)) rfl (by kernel_rfl) (by kernel_rfl) (by kernel_rfl) (fun _ _ _ h => h) (Or.inl ⟨by rfl, by (intro w' hSw; (try dsimp only at hSw); go_simp)⟩) (by assumption) ?_
  try simp only [Act.put, List.setIfInBounds_toArray, List.set_cons_zero, List.set_cons_succ]
  refine wpAnyH_take (i := 16) (oi := ⟨some 81, _, _, _, _, _⟩) (v := (.pointer (some ⟨g, 0, none⟩))) rfl (by kernel_rfl) (by kernel_rfl) (by kernel_rfl) (fun _ _ _ h => h) (Or.inl ⟨by rfl, by (intro w' hSw; (try dsimp only at hSw); go_simp)⟩) (by assumption) ?_
  try simp only [Act.put, List.setIfInBounds_toArray, List.set_cons_zero, List.set_cons_succ]
  refine wpAnyH_take (i := 17) (oi := ⟨some 82, _, _, _, _, _⟩) (v := (.pointer (some ⟨g, 4, none⟩))) rfl (by kernel_rfl) (by kernel_rfl) (by kernel_rfl) (fun _ _ _ h => h) (Or.inl ⟨by rfl, by (intro w' hSw; (try dsimp only at hSw); go_simp)⟩) (by assumption) ?_
  try simp only [Act.put, List.setIfInBounds_toArray, List.set_cons_zero, List.set_cons_succ]
  refine wpAnyH_take (i := 18) (oi := ⟨some 83, _, _, _, _, _⟩) (v := (.int .i64 (k : Int))) rfl (by kernel_rfl) (by kernel_rfl) (by kernel_rfl) (fun _ _ _ h => h) (Or.inl ⟨by rfl, by (intro w' hSw; (try dsimp only at hSw); go_simp)⟩) (by assumption) ?_
  try simp only [Act.put, List.setIfInBounds_toArray, List.set_cons_zero, List.set_cons_succ]
  refine wpAnyH_take (i := 19) (oi := ⟨some 84, _, _, _, _, _⟩) (v := (.int .i64 (k : Int))) rfl (by kernel_rfl) (by kernel_rfl) (by kernel_rfl) (fun _ _ _ h => h) (Or.inl ⟨by rfl, by (intro w' hSw; (try dsimp only at hSw); go_simp)⟩) (by assumption) ?_
  try simp only [Act.put, List.setIfInBounds_toArray, List.set_cons_zero, List.set_cons_succ]
  refine wpAnyH_take (i := 20) (oi := ⟨some 85, _, _, _, _, _⟩) (v := (.bool false)) rfl (by kernel_rfl) (by kernel_rfl) (by kernel_rfl) (fun _ _ _ h => h) (Or.inl ⟨by rfl, by (intro w' hSw; (try dsimp only at hSw); go_simp)⟩) (by assumption) ?_
  try simp only [Act.put, List.setIfInBounds_toArray, List.set_cons_zero, List.set_cons_succ]
  refine wpAnyH_take (i := 21) (oi := ⟨some 86, _, _, _, _, _⟩) (v := (.bool false)) rfl (by kernel_rfl) (by kernel_rfl) (by kernel_rfl) (fun _ _ _ h => h) (Or.inl ⟨by rfl, by (intro w' hSw; (try dsimp only at hSw); go_simp)⟩) (by assumption) ?_
  try simp only [Act.put, List.setIfInBounds_toArray, List.set_cons_zero, List.set_cons_succ]
  refine wpAnyH_take (i := 22) (oi := ⟨some 87, _, _, _, _, _⟩) (v := (.slice (some ⟨g, 0, none⟩) 1 cap)) rfl (by kernel_rfl) (by kernel_rfl) (by kernel_rfl) (fun _ _ _ h => h) (Or.inl ⟨by rfl, by (intro w' hSw; (try dsimp only at hSw); go_simp)⟩) (by assumption) ?_
  try simp only [Act.put, List.setIfInBounds_toArray, List.set_cons_zero, List.set_cons_succ]
  refine wpAnyH_take (i := 23) (oi := ⟨some 88, _, _, _, _, _⟩) (v := (.pointer (some ⟨g, 0, none⟩))) rfl (by kernel_rfl) (by kernel_rfl) (by kernel_rfl) (fun _ _ _ h => h) (Or.inl ⟨by rfl, by (intro w' hSw; (try dsimp only at hSw); go_simp)⟩) (by assumption) ?_
  try simp only [Act.put, List.setIfInBounds_toArray, List.set_cons_zero, List.set_cons_succ]
  refine wpAnyH_take (i := 24) (oi := ⟨some 89, _, _, _, _, _⟩) (v := (.pointer (some ⟨g, 6, none⟩))) rfl (by kernel_rfl) (by kernel_rfl) (by kernel_rfl) (fun _ _ _ h => h) (Or.inl ⟨by rfl, by (intro w' hSw; (try dsimp only at hSw); go_simp)⟩) (by assumption) ?_
  try simp only [Act.put, List.setIfInBounds_toArray, List.set_cons_zero, List.set_cons_succ]
  refine wpAnyH_take (i := 25) (oi := ⟨some 90, _, _, _, _, _⟩) (v := (.int .i64 2)) rfl (by kernel_rfl) (by kernel_rfl) (by kernel_rfl) (fun _ _ _ h => h) (Or.inl ⟨by rfl, by (intro w' hSw; (try dsimp only at hSw); go_simp)⟩) (by assumption) ?_
  try simp only [Act.put, List.setIfInBounds_toArray, List.set_cons_zero, List.set_cons_succ]
  refine wpAnyH_take (i := 26) (oi := ⟨some 91, _, _, _, _, _⟩) (v := (.bool false)) rfl (by kernel_rfl) (by kernel_rfl) (by kernel_rfl) (fun _ _ _ h => h) (Or.inl ⟨by rfl, by (intro w' hSw; (try dsimp only at hSw); go_simp)⟩) (by assumption) ?_
  try simp only [Act.put, List.setIfInBounds_toArray, List.set_cons_zero, List.set_cons_succ]
  refine wpAnyH_take (i := 27) (oi := ⟨some 92, _, _, _, _, _⟩) (v := (.bool false)) rfl (by kernel_rfl) (by kernel_rfl) (by kernel_rfl) (fun _ _ _ h => h) (Or.inl ⟨by rfl, by (intro w' hSw; (try dsimp only at hSw); go_simp)⟩) (by assumption) ?_
  try simp only [Act.put, List.setIfInBounds_toArray, List.set_cons_zero, List.set_cons_succ]
  refine wpAnyH_take (i := 28) (oi := ⟨some 93, _, _, _, _, _⟩) (v := (.bool false)) rfl (by kernel_rfl) (by kernel_rfl) (by kernel_rfl) (fun _ _ _ h => h) (Or.inl ⟨by rfl, by (intro w' hSw; (try dsimp only at hSw); go_simp)⟩) (by assumption) ?_
  try simp only [Act.put, List.setIfInBounds_toArray, List.set_cons_zero, List.set_cons_succ]
  refine wpAnyH_take (i := 29) (oi := ⟨some 94, _, _, _, _, _⟩) (v := (.slice (some ⟨g, 0, none⟩) 1 cap)) rfl (by kernel_rfl) (by kernel_rfl) (by kernel_rfl) (fun _ _ _ h => h) (Or.inl ⟨by rfl, by (intro w' hSw; (try dsimp only at hSw); go_simp)⟩) (by assumption) ?_
  try simp only [Act.put, List.setIfInBounds_toArray, List.set_cons_zero, List.set_cons_succ]
  refine wpAnyH_take (i := 30) (oi := ⟨some 95, _, _, _, _, _⟩) (v := (.pointer (some ⟨g, 0, none⟩))) rfl (by kernel_rfl) (by kernel_rfl) (by kernel_rfl) (fun _ _ _ h => h) (Or.inl ⟨by rfl, by (intro w' hSw; (try dsimp only at hSw); go_simp)⟩) (by assumption) ?_
  try simp only [Act.put, List.setIfInBounds_toArray, List.set_cons_zero, List.set_cons_succ]
  refine wpAnyH_take (i := 31) (oi := ⟨some 96, _, _, _, _, _⟩) (v := (.pointer (some ⟨g, 3, none⟩))) rfl (by kernel_rfl) (by kernel_rfl) (by kernel_rfl) (fun _ _ _ h => h) (Or.inl ⟨by rfl, by (intro w' hSw; (try dsimp only at hSw); go_simp)⟩) (by assumption) ?_
  try simp only [Act.put, List.setIfInBounds_toArray, List.set_cons_zero, List.set_cons_succ]
  refine wpAnyH_take (i := 32) (oi := ⟨some 97, _, _, _, _, _⟩) (v := (.int .i64 slot)) rfl (by kernel_rfl) (by kernel_rfl) (by kernel_rfl) (fun _ _ _ h => h) (Or.inl ⟨by rfl, by (intro w' hSw; (try dsimp only at hSw); go_simp)⟩) (by assumption) ?_
  try simp only [Act.put, List.setIfInBounds_toArray, List.set_cons_zero, List.set_cons_succ]
  refine wpAnyH_take (i := 33) (oi := ⟨some 98, _, _, _, _, _⟩) (v := (.int .i64 slot)) rfl (by kernel_rfl) (by kernel_rfl) (by kernel_rfl) (fun _ _ _ h => h) (Or.inl ⟨by rfl, by (intro w' hSw; (try dsimp only at hSw); go_simp)⟩) (by assumption) ?_
  try simp only [Act.put, List.setIfInBounds_toArray, List.set_cons_zero, List.set_cons_succ]
  refine wpAnyH_take (i := 34) (oi := ⟨some 99, _, _, _, _, _⟩) (v := (.bool false)) rfl (by kernel_rfl) (by kernel_rfl) (by kernel_rfl) (fun _ _ _ h => h) (Or.inl ⟨by rfl, by (intro w' hSw; (try dsimp only at hSw); go_simp)⟩) (by assumption) ?_
  try simp only [Act.put, List.setIfInBounds_toArray, List.set_cons_zero, List.set_cons_succ]
  refine wpAnyH_take (i := 35) (oi := ⟨some 100, _, _, _, _, _⟩) (v := (.bool false)) rfl (by kernel_rfl) (by kernel_rfl) (by kernel_rfl) (fun _ _ _ h => h) (Or.inl ⟨by rfl, by (intro w' hSw; (try dsimp only at hSw); go_simp)⟩) (by assumption) ?_
  try simp only [Act.put, List.setIfInBounds_toArray, List.set_cons_zero, List.set_cons_succ]
  refine wpAnyH_take (i := 36) (oi := ⟨some 101, _, _, _, _, _⟩) (v := (.bool false)) rfl (by kernel_rfl) (by kernel_rfl) (by kernel_rfl) (fun _ _ _ h => h) (Or.inl ⟨by rfl, by (intro w' hSw; (try dsimp only at hSw); go_simp)⟩) (by assumption) ?_
  try simp only [Act.put, List.setIfInBounds_toArray, List.set_cons_zero, List.set_cons_succ]
  refine wpAnyH_take (i := 37) (oi := ⟨some 102, _, _, _, _, _⟩) (v := (.slice (some ⟨g, 0, none⟩) 1 cap)) rfl (by kernel_rfl) (by kernel_rfl) (by kernel_rfl) (fun _ _ _ h => h) (Or.inl ⟨by rfl, by (intro w' hSw; (try dsimp only at hSw); go_simp)⟩) (by assumption) ?_
  try simp only [Act.put, List.setIfInBounds_toArray, List.set_cons_zero, List.set_cons_succ]
  refine wpAnyH_take (i := 38) (oi := ⟨some 103, _, _, _, _, _⟩) (v := (.pointer (some ⟨g, 0, none⟩))) rfl (by kernel_rfl) (by kernel_rfl) (by kernel_rfl) (fun _ _ _ h => h) (Or.inl ⟨by rfl, by (intro w' hSw; (try dsimp only at hSw); go_simp)⟩) (by assumption) ?_
  try simp only [Act.put, List.setIfInBounds_toArray, List.set_cons_zero, List.set_cons_succ]
  refine wpAnyH_take (i := 39) (oi := ⟨some 104, _, _, _, _, _⟩) (v := (.pointer (some ⟨g, 1, none⟩))) rfl (by kernel_rfl) (by kernel_rfl) (by kernel_rfl) (fun _ _ _ h => h) (Or.inl ⟨by rfl, by (intro w' hSw; (try dsimp only at hSw); go_simp)⟩) (by assumption) ?_
  try simp only [Act.put, List.setIfInBounds_toArray, List.set_cons_zero, List.set_cons_succ]
  refine wpAnyH_take (i := 40) (oi := ⟨some 105, _, _, _, _, _⟩) (v := (.agg #[.int .i64 view, .int .i64 turn])) rfl (by kernel_rfl) (by kernel_rfl) (by kernel_rfl) (fun _ _ _ h => h) (Or.inl ⟨by rfl, by (intro w' hSw; (try dsimp only at hSw); go_simp)⟩) (by assumption) ?_
  try simp only [Act.put, List.setIfInBounds_toArray, List.set_cons_zero, List.set_cons_succ]
  refine wpAnyH_take (i := 41) (oi := ⟨some 106, _, _, _, _, _⟩) (v := (.agg #[.int .i64 view, .int .i64 turn])) rfl (by kernel_rfl) (by kernel_rfl) (by kernel_rfl) (fun _ _ _ h => h) (Or.inl ⟨by rfl, by (intro w' hSw; (try dsimp only at hSw); go_simp)⟩) (by assumption) ?_
  try simp only [Act.put, List.setIfInBounds_toArray, List.set_cons_zero, List.set_cons_succ]
  refine wpAnyH_take (i := 42) (oi := ⟨some 107, _, _, _, _, _⟩) (v := (.bool false)) rfl (by kernel_rfl) (by kernel_rfl) (by kernel_rfl) (fun _ _ _ h => h) (Or.inl ⟨by rfl, by (intro w' hSw; (try dsimp only at hSw); go_simp)⟩) (by assumption) ?_
  try simp only [Act.put, List.setIfInBounds_toArray, List.set_cons_zero, List.set_cons_succ]
  refine wpAnyH_take (i := 43) (oi := ⟨some 108, _, _, _, _, _⟩) (v := (.bool false)) rfl (by kernel_rfl) (by kernel_rfl) (by kernel_rfl) (fun _ _ _ h => h) (Or.inl ⟨by rfl, by (intro w' hSw; (try dsimp only at hSw); go_simp)⟩) (by assumption) ?_
  try simp only [Act.put, List.setIfInBounds_toArray, List.set_cons_zero, List.set_cons_succ]
  refine wpAnyH_take (i := 44) (oi := ⟨some 109, _, _, _, _, _⟩) (v := (.bool false)) rfl (by kernel_rfl) (by kernel_rfl) (by kernel_rfl) (fun _ _ _ h => h) (Or.inl ⟨by rfl, by (intro w' hSw; (try dsimp only at hSw); go_simp)⟩) (by assumption) ?_
  try simp only [Act.put, List.setIfInBounds_toArray, List.set_cons_zero, List.set_cons_succ]
  refine wpAnyH_take (i := 45) (oi := ⟨some 110, _, _, _, _, _⟩) (v := (.bool false)) rfl (by kernel_rfl) (by kernel_rfl) (by kernel_rfl) (fun _ _ _ h => h) (Or.inl ⟨by rfl, by (intro w' hSw; (try dsimp only at hSw); go_simp)⟩) (by assumption) ?_
  try simp only [Act.put, List.setIfInBounds_toArray, List.set_cons_zero, List.set_cons_succ]
  refine wpAnyH_done (by kernel_rfl) ?_ _
  refine NoPanic.normal ?_
  have HK := Aside0.mk (hK9.out.1.below (Fr.refl (fun _ => False) w9).of_drew)
  clear hHeld hK9 hs9
  have b5 := B5.out
  go_wp2
  exact HH.out.2 _ _ ⟨rfl, rfl⟩ rfl rfl rfl rfl rfl (congrArg (Value.int .i64) B5.out) HK.out
end Go.Proofs.Ytnabilhcmplhcaa.Sha

/-
  LedgerCatches.
-/
set_option linter.unusedVariables false
set_option linter.unusedSimpArgs false
namespace Go.Proofs.Ytnabilhcmplhcaa.Sha
open Go.RowKit Go.Proofs.YtnabilhcmplhcaaW.PrintWords Go.Proofs.YtnabilhcmplhcaaW.PrintLast Go.Proofs.YtnabilhcmplhcaaW.PrintMore Go.Proofs.Ytnabilhcmplhcaa.Q Go.Proofs.Ytnabilhcmplhcaa.Fr Go.Proofs.Ytnabilhcmplhcaa.Oct
open Go.Maps Go.ChangeMaps
open Go.Proofs.Ytnabilhcmplhcaa.Open (okR)

set_option maxHeartbeats 8000000 in
set_option maxRecDepth 100000 in
theorem exitC (u : Nat → Value) (w : World) (Q : Exit → Act → World → Prop) (hQ : ∀ a', Fm 114 a' → sl a' 1 = u 1 → sl a' 3 = u 3 → sl a' 5 = u 5 → sl a' 7 = u 7 → Q (.exit 0) a' w) :
    Code.wp Try.prog (bodyN Try.f6 0) Q ⟨#[u 0, u 1, u 2, u 3, u 4, u 5, u 6, u 7, .int .i64 15, u 9, u 10, u 11, u 12, u 13, u 14, u 15, u 16, u 17, u 18, u 19, u 20, u 21, u 22, u 23, u 24, u 25, u 26, u 27, u 28, u 29, u 30, u 31, u 32, u 33, u 34, u 35, u 36, u 37, u 38, u 39, u 40, u 41, u 42, u 43, u 44, u 45, u 46, u 47, u 48, u 49, u 50, u 51, u 52, u 53, u 54, u 55, u 56, u 57, u 58, u 59, u 60, u 61, u 62, u 63, u 64, u 65, u 66, u 67, u 68, u 69, u 70, u 71, u 72, u 73, u 74, u 75, u 76, u 77, u 78, u 79, u 80, u 81, u 82, u 83, u 84, u 85, u 86, u 87, u 88, u 89, u 90, u 91, u 92, u 93, u 94, u 95, u 96, u 97, u 98, u 99, u 100, u 101, u 102, u 103, u 104, u 105, u 106, u 107, u 108, u 109, u 110, u 111, u 112, u 113], []⟩ w := by
  have HQ := Aside0.mk hQ
  clear hQ
  conv => arg 2; whnf
  go_wp2
  exact HQ.out _ ⟨rfl, rfl⟩ rfl rfl rfl rfl
set_option maxHeartbeats 8000000 in
set_option maxRecDepth 100000 in
theorem exitD (u : Nat → Value) (w : World) (Q : Exit → Act → World → Prop) (hQ : ∀ a', Fm 114 a' → sl a' 1 = u 1 → sl a' 3 = u 3 → sl a' 5 = u 5 → sl a' 7 = u 7 → Q (.exit 2) a' w) :
    Code.wp Try.prog (bodyN Try.f6 1) Q ⟨#[u 0, u 1, u 2, u 3, u 4, u 5, u 6, u 7, u 8, u 9, u 10, .int .i64 15, u 12, u 13, u 14, u 15, u 16, u 17, u 18, u 19, u 20, u 21, u 22, u 23, u 24, u 25, u 26, u 27, u 28, u 29, u 30, u 31, u 32, u 33, u 34, u 35, u 36, u 37, u 38, u 39, u 40, u 41, u 42, u 43, u 44, u 45, u 46, u 47, u 48, u 49, u 50, u 51, u 52, u 53, u 54, u 55, u 56, u 57, u 58, u 59, u 60, u 61, u 62, u 63, u 64, u 65, u 66, u 67, u 68, u 69, u 70, u 71, u 72, u 73, u 74, u 75, u 76, u 77, u 78, u 79, u 80, u 81, u 82, u 83, u 84, u 85, u 86, u 87, u 88, u 89, u 90, u 91, u 92, u 93, u 94, u 95, u 96, u 97, u 98, u 99, u 100, u 101, u 102, u 103, u 104, u 105, u 106, u 107, u 108, u 109, u 110, u 111, u 112, u 113], []⟩ w := by
  have HQ := Aside0.mk hQ
  clear hQ
  conv => arg 2; whnf
  go_wp2
  exact HQ.out _ ⟨rfl, rfl⟩ rfl rfl rfl rfl
theorem loopC (view turn slot : Int) (x y : S31) (A1 : Option Addr) (c1 : Nat) (A2 : Option Addr) (c2 : Nat) (A3 : Option Addr) (c3 : Nat) (A4 : Option Addr) (c4 : Nat) (w W : World) (gb gr gl bm : Nat) (HX : Aside0 (Rd w A1 x.f2 ∧ Rd w A2 x.f3 ∧ x.f2.length ≤ c1 ∧ x.f3.length ≤ c2 ∧ x.f2.length + x.f3.length ≤ 1048576 ∧ Bys x.f2 ∧ Bys x.f3)) (HY : Aside0 (Rd w A3 y.f2 ∧ Rd w A4 y.f3 ∧ y.f2.length ≤ c3 ∧ y.f3.length ≤ c4 ∧ y.f2.length + y.f3.length ≤ 1048576 ∧ Bys y.f2 ∧ Bys y.f3))
    (HW : Aside0 ((Lit.int .i64 view).wf = true ∧ (Lit.int .i64 turn).wf = true ∧ (Lit.int .i64 slot).wf = true))
    (Q : Exit → Act → World → Prop) (hQ : ∀ a' W', Fm 114 a' → sl a' 1 = .int .i64 slot → sl a' 3 = .pointer (some ⟨gb, 0, none⟩) → sl a' 5 = .pointer (some ⟨gr, 0, none⟩) → sl a' 7 = .pointer (some ⟨gl, 0, none⟩) → Kc w W' gb gr gl bm view turn x y A1 c1 A2 c2 A3 c3 A4 c4 (L1 view turn slot x y 15) → Q (.exit 0) a' W')
    (a : Act) (h : Fm 114 a ∧ sl a 1 = .int .i64 slot ∧ sl a 3 = .pointer (some ⟨gb, 0, none⟩) ∧ sl a 5 = .pointer (some ⟨gr, 0, none⟩) ∧ sl a 7 = .pointer (some ⟨gl, 0, none⟩) ∧ sl a 8 = .int .i64 0 ∧ Kc w W gb gr gl bm view turn x y A1 c1 A2 c2 A3 c3 A4 c4 (L1 view turn slot x y 0)) : (Code.loop (bodyN Try.f6 0)).wp Try.prog Q a W := by
  refine wp_loop_up 15 (fun t a W => Fm 114 a ∧ sl a 1 = .int .i64 slot ∧ sl a 3 = .pointer (some ⟨gb, 0, none⟩) ∧ sl a 5 = .pointer (some ⟨gr, 0, none⟩) ∧ sl a 7 = .pointer (some ⟨gl, 0, none⟩) ∧ sl a 8 = .int .i64 (t : Int) ∧ Kc w W gb gr gl bm view turn x y A1 c1 A2 c2 A3 c3 A4 c4 (L1 view turn slot x y t)) ?_ ?_
  · exact h
  rintro t a W ht ⟨hF, h1, h3, h5, h7, h8, hK⟩
  have ha := fm114 hF
  by_cases h64 : t = 15
  · subst h64
    rw [h8] at ha
    rw [ha]
    exact exitC (sl a) W _ fun a' b0 b1 b3 b5 b7 => hQ _ _ b0 (b1.trans h1) (b3.trans h3) (b5.trans h5) (b7.trans h7) hK
  · rw [h1, h3, h5, h7, h8] at ha
    rw [ha]
    have hi : t < 15 := by omega
    by_cases hp : (t : Int) % 2 = 0
    · exact roundC (sl a) view turn slot x y A1 c1 A2 c2 A3 c3 A4 c4 w W gb gr gl bm HX HY HW t hi 0 hp x A1 c1 A2 c2 (rqA_0 hp) hK ⟨by simp [World.cell?, hK.hr], by simp [World.cell?, hK.hr], by simp [World.cell?, hK.hr], by simp [World.cell?, hK.hr]⟩ ⟨⟨HX.out.1.lies hK.F, HX.out.2.1.lies hK.F, HX.out.2.2⟩⟩ _ (fun a' W' e0 e1 e3 e5 e7 e8 eK => ⟨by omega, e0, e1, e3, e5, e7, by rw [e8]; congr 1, eK⟩)
    · have hp : (t : Int) % 2 = 1 := by omega
      exact roundC (sl a) view turn slot x y A1 c1 A2 c2 A3 c3 A4 c4 w W gb gr gl bm HX HY HW t hi 1 hp y A3 c3 A4 c4 (rqA_1 hp) hK ⟨by simp [World.cell?, hK.hr], by simp [World.cell?, hK.hr], by simp [World.cell?, hK.hr], by simp [World.cell?, hK.hr]⟩ ⟨⟨HY.out.1.lies hK.F, HY.out.2.1.lies hK.F, HY.out.2.2⟩⟩ _ (fun a' W' e0 e1 e3 e5 e7 e8 eK => ⟨by omega, e0, e1, e3, e5, e7, by rw [e8]; congr 1, eK⟩)
theorem loopDo (view turn slot : Int) (x y : S31) (A1 : Option Addr) (c1 : Nat) (A2 : Option Addr) (c2 : Nat) (A3 : Option Addr) (c3 : Nat) (A4 : Option Addr) (c4 : Nat) (w W : World) (gb gr gl bm : Nat) (HX : Aside0 (Rd w A1 x.f2 ∧ Rd w A2 x.f3 ∧ x.f2.length ≤ c1 ∧ x.f3.length ≤ c2 ∧ x.f2.length + x.f3.length ≤ 1048576 ∧ Bys x.f2 ∧ Bys x.f3)) (HY : Aside0 (Rd w A3 y.f2 ∧ Rd w A4 y.f3 ∧ y.f2.length ≤ c3 ∧ y.f3.length ≤ c4 ∧ y.f2.length + y.f3.length ≤ 1048576 ∧ Bys y.f2 ∧ Bys y.f3))
    (HW : Aside0 ((Lit.int .i64 view).wf = true ∧ (Lit.int .i64 turn).wf = true ∧ (Lit.int .i64 slot).wf = true)) (hne : bodyA x.f0 x.f1 x.f2 x.f3 ≠ bodyA y.f0 y.f1 y.f2 y.f3)
    (Q : Exit → Act → World → Prop) (hQ : ∀ a' W', Fm 114 a' → sl a' 1 = .int .i64 slot → sl a' 3 = .pointer (some ⟨gb, 0, none⟩) → sl a' 5 = .pointer (some ⟨gr, 0, none⟩) → sl a' 7 = .pointer (some ⟨gl, 0, none⟩) → Kc w W' gb gr gl bm view turn x y A1 c1 A2 c2 A3 c3 A4 c4 (L2 view turn slot x y true 15) → Q (.exit 2) a' W')
    (a : Act) (h : Fm 114 a ∧ sl a 1 = .int .i64 slot ∧ sl a 3 = .pointer (some ⟨gb, 0, none⟩) ∧ sl a 5 = .pointer (some ⟨gr, 0, none⟩) ∧ sl a 7 = .pointer (some ⟨gl, 0, none⟩) ∧ sl a 10 = .bool false ∧ sl a 11 = .int .i64 0 ∧ Kc w W gb gr gl bm view turn x y A1 c1 A2 c2 A3 c3 A4 c4 (L2 view turn slot x y true 0)) : (Code.loop (bodyN Try.f6 1)).wp Try.prog Q a W := by
  refine wp_loop_up 15 (fun t a W => Fm 114 a ∧ sl a 1 = .int .i64 slot ∧ sl a 3 = .pointer (some ⟨gb, 0, none⟩) ∧ sl a 5 = .pointer (some ⟨gr, 0, none⟩) ∧ sl a 7 = .pointer (some ⟨gl, 0, none⟩) ∧ sl a 10 = .bool false ∧ sl a 11 = .int .i64 (t : Int) ∧ Kc w W gb gr gl bm view turn x y A1 c1 A2 c2 A3 c3 A4 c4 (L2 view turn slot x y true t)) ?_ ?_
  · exact h
  rintro t a W ht ⟨hF, h1, h3, h5, h7, h10, h11, hK⟩
  have ha := fm114 hF
  by_cases h64 : t = 15
  · subst h64
    rw [h11] at ha
    rw [ha]
    exact exitD (sl a) W _ fun a' b0 b1 b3 b5 b7 => hQ _ _ b0 (b1.trans h1) (b3.trans h3) (b5.trans h5) (b7.trans h7) hK
  · rw [h1, h3, h5, h7, h10, h11] at ha
    rw [ha]
    have hi : t < 15 := by omega
    by_cases hp : ((t : Int) + 1) % 2 = 0
    · exact roundDo (sl a) view turn slot x y A1 c1 A2 c2 A3 c3 A4 c4 w W gb gr gl bm HX HY HW t hi 0 hp x A1 c1 A2 c2 (rqA_0 (by omega)) (by rw [rqA_1 (show (t : Int) % 2 = 1 by omega)]; exact fun e => hne e.symm) hK ⟨by simp [World.cell?, hK.hr], by simp [World.cell?, hK.hr], by simp [World.cell?, hK.hr], by simp [World.cell?, hK.hr]⟩ ⟨⟨HX.out.1.lies hK.F, HX.out.2.1.lies hK.F, HX.out.2.2⟩⟩ _ (fun a' W' e0 e1 e3 e5 e7 e10 e11 eK => ⟨by omega, e0, e1, e3, e5, e7, e10, by rw [e11]; congr 1, eK⟩)
    · have hp : ((t : Int) + 1) % 2 = 1 := by omega
      exact roundDo (sl a) view turn slot x y A1 c1 A2 c2 A3 c3 A4 c4 w W gb gr gl bm HX HY HW t hi 1 hp y A3 c3 A4 c4 (rqA_1 (by omega)) (by rw [rqA_0 (show (t : Int) % 2 = 0 by omega)]; exact hne) hK ⟨by simp [World.cell?, hK.hr], by simp [World.cell?, hK.hr], by simp [World.cell?, hK.hr], by simp [World.cell?, hK.hr]⟩ ⟨⟨HY.out.1.lies hK.F, HY.out.2.1.lies hK.F, HY.out.2.2⟩⟩ _ (fun a' W' e0 e1 e3 e5 e7 e10 e11 eK => ⟨by omega, e0, e1, e3, e5, e7, e10, by rw [e11]; congr 1, eK⟩)
theorem loopDn (view turn slot : Int) (x y : S31) (A1 : Option Addr) (c1 : Nat) (A2 : Option Addr) (c2 : Nat) (A3 : Option Addr) (c3 : Nat) (A4 : Option Addr) (c4 : Nat) (w W : World) (gb gr gl bm : Nat) (HX : Aside0 (Rd w A1 x.f2 ∧ Rd w A2 x.f3 ∧ x.f2.length ≤ c1 ∧ x.f3.length ≤ c2 ∧ x.f2.length + x.f3.length ≤ 1048576 ∧ Bys x.f2 ∧ Bys x.f3)) (HY : Aside0 (Rd w A3 y.f2 ∧ Rd w A4 y.f3 ∧ y.f2.length ≤ c3 ∧ y.f3.length ≤ c4 ∧ y.f2.length + y.f3.length ≤ 1048576 ∧ Bys y.f2 ∧ Bys y.f3))
    (HW : Aside0 ((Lit.int .i64 view).wf = true ∧ (Lit.int .i64 turn).wf = true ∧ (Lit.int .i64 slot).wf = true)) (hxy : x = y)
    (Q : Exit → Act → World → Prop) (hQ : ∀ a' W', Fm 114 a' → sl a' 1 = .int .i64 slot → sl a' 3 = .pointer (some ⟨gb, 0, none⟩) → sl a' 5 = .pointer (some ⟨gr, 0, none⟩) → sl a' 7 = .pointer (some ⟨gl, 0, none⟩) → Kc w W' gb gr gl bm view turn x y A1 c1 A2 c2 A3 c3 A4 c4 (L2 view turn slot x y false 15) → Q (.exit 2) a' W')
    (a : Act) (h : Fm 114 a ∧ sl a 1 = .int .i64 slot ∧ sl a 3 = .pointer (some ⟨gb, 0, none⟩) ∧ sl a 5 = .pointer (some ⟨gr, 0, none⟩) ∧ sl a 7 = .pointer (some ⟨gl, 0, none⟩) ∧ sl a 10 = .bool true ∧ sl a 11 = .int .i64 0 ∧ Kc w W gb gr gl bm view turn x y A1 c1 A2 c2 A3 c3 A4 c4 (L2 view turn slot x y false 0)) : (Code.loop (bodyN Try.f6 1)).wp Try.prog Q a W := by
  refine wp_loop_up 15 (fun t a W => Fm 114 a ∧ sl a 1 = .int .i64 slot ∧ sl a 3 = .pointer (some ⟨gb, 0, none⟩) ∧ sl a 5 = .pointer (some ⟨gr, 0, none⟩) ∧ sl a 7 = .pointer (some ⟨gl, 0, none⟩) ∧ sl a 10 = .bool true ∧ sl a 11 = .int .i64 (t : Int) ∧ Kc w W gb gr gl bm view turn x y A1 c1 A2 c2 A3 c3 A4 c4 (L2 view turn slot x y false t)) ?_ ?_
  · exact h
  rintro t a W ht ⟨hF, h1, h3, h5, h7, h10, h11, hK⟩
  have ha := fm114 hF
  by_cases h64 : t = 15
  · subst h64
    rw [h11] at ha
    rw [ha]
    exact exitD (sl a) W _ fun a' b0 b1 b3 b5 b7 => hQ _ _ b0 (b1.trans h1) (b3.trans h3) (b5.trans h5) (b7.trans h7) hK
  · rw [h1, h3, h5, h7, h10, h11] at ha
    rw [ha]
    have hi : t < 15 := by omega
    by_cases hp : ((t : Int) + 1) % 2 = 0
    · exact roundDn (sl a) view turn slot x y A1 c1 A2 c2 A3 c3 A4 c4 w W gb gr gl bm HX HY HW t hi 0 hp x A1 c1 A2 c2 (rqA_0 (by omega)) (by rw [rqA_1 (show (t : Int) % 2 = 1 by omega), hxy]) hK ⟨by simp [World.cell?, hK.hr], by simp [World.cell?, hK.hr], by simp [World.cell?, hK.hr], by simp [World.cell?, hK.hr]⟩ ⟨⟨HX.out.1.lies hK.F, HX.out.2.1.lies hK.F, HX.out.2.2⟩⟩ _ (fun a' W' e0 e1 e3 e5 e7 e10 e11 eK => ⟨by omega, e0, e1, e3, e5, e7, e10, by rw [e11]; congr 1, eK⟩)
    · have hp : ((t : Int) + 1) % 2 = 1 := by omega
      exact roundDn (sl a) view turn slot x y A1 c1 A2 c2 A3 c3 A4 c4 w W gb gr gl bm HX HY HW t hi 1 hp y A3 c3 A4 c4 (rqA_1 (by omega)) (by rw [rqA_0 (show (t : Int) % 2 = 0 by omega), hxy]) hK ⟨by simp [World.cell?, hK.hr], by simp [World.cell?, hK.hr], by simp [World.cell?, hK.hr], by simp [World.cell?, hK.hr]⟩ ⟨⟨HY.out.1.lies hK.F, HY.out.2.1.lies hK.F, HY.out.2.2⟩⟩ _ (fun a' W' e0 e1 e3 e5 e7 e10 e11 eK => ⟨by omega, e0, e1, e3, e5, e7, e10, by rw [e11]; congr 1, eK⟩)
set_option maxHeartbeats 8000000 in
set_option maxRecDepth 100000 in
theorem catches_row (view turn slot : Int) (x y : S31) (A1 : Option Addr) (c1 : Nat) (A2 : Option Addr) (c2 : Nat) (A3 : Option Addr) (c3 : Nat) (A4 : Option Addr) (c4 : Nat) (w : World) (g1 : x.f2.length ≤ c1 ∧ (Kd.int .u8).C w A1 x.f2.length x.f2) (g2 : x.f3.length ≤ c2 ∧ (Kd.int .u8).C w A2 x.f3.length x.f3) (g3 : y.f2.length ≤ c3 ∧ (Kd.int .u8).C w A3 y.f2.length y.f2) (g4 : y.f3.length ≤ c4 ∧ (Kd.int .u8).C w A4 y.f3.length y.f3)
    (wv : (Lit.int .i64 view).wf = true) (wt : (Lit.int .i64 turn).wf = true) (wl : (Lit.int .i64 slot).wf = true) (okx : okR x) (oky : okR y) (hB : x.f2.length + x.f3.length + (y.f2.length + y.f3.length) ≤ 1048576) :
    Calls Try.prog 6 #[.agg #[.int .i64 view, .int .i64 turn], .int .i64 slot, .agg #[.int .i64 x.f0, .int .i64 x.f1, .slice A1 x.f2.length c1, .slice A2 x.f3.length c2, .int .i64 y.f0, .int .i64 y.f1, .slice A3 y.f2.length c3, .slice A4 y.f3.length c4]] w fun e w' => e = .returned (.bool true) ∧ Below w.heap.size w w' := by
  have HW := Aside0.mk (And.intro wv (And.intro wt wl))
  have HX := Aside0.mk (And.intro (Rd.of_C g1.2) (And.intro (Rd.of_C g2.2) (And.intro g1.1 (And.intro g2.1 (And.intro (show x.f2.length + x.f3.length ≤ 1048576 by omega) (And.intro okx.2.2.1 okx.2.2.2))))))
  have HY := Aside0.mk (And.intro (Rd.of_C g3.2) (And.intro (Rd.of_C g4.2) (And.intro g3.1 (And.intro g4.1 (And.intro (show y.f2.length + y.f3.length ≤ 1048576 by omega) (And.intro oky.2.2.1 oky.2.2.2))))))
  have HO := Aside0.mk (And.intro okx.1 (And.intro okx.2.1 (And.intro oky.1 oky.2.1)))
  have h12 := heap_alloc_new w (.cells #[.int .i64 view, .int .i64 turn] 28)
  have h32 := heap_alloc_new (w.alloc (.cells #[.int .i64 view, .int .i64 turn] 28)) (.cells #[.int .i64 x.f0, .int .i64 x.f1, .slice A1 x.f2.length c1, .slice A2 x.f3.length c2, .int .i64 y.f0, .int .i64 y.f1, .slice A3 y.f2.length c3, .slice A4 y.f3.length c4] 52)
  have f1 : Fr (fun _ => False) w (w.alloc (.cells #[.int .i64 view, .int .i64 turn] 28)) := (Fr.refl _ _).alloc _
  have f3 : Fr (fun _ => False) (w.alloc (.cells #[.int .i64 view, .int .i64 turn] 28)) ((w.alloc (.cells #[.int .i64 view, .int .i64 turn] 28)).alloc (.cells #[.int .i64 x.f0, .int .i64 x.f1, .slice A1 x.f2.length c1, .slice A2 x.f3.length c2, .int .i64 y.f0, .int .i64 y.f1, .slice A3 y.f2.length c3, .slice A4 y.f3.length c4] 52)) := (Fr.refl _ _).alloc _
  rw [World.size_alloc] at h32
  clear g1 g2 g3 g4 wv wt wl okx oky hB
  go_enter Try.func6, Try.ntmps6
  go_wp2_with (fail)
  have H1 := Aside0.mk (And.intro (f3.blk h12 (fun e => e)) (And.intro h32 (f1.trans f3 (fun _ e => e.elim))))
  clear h12 h32 f1 f3
  generalize (w.alloc (.cells #[.int .i64 view, .int .i64 turn] 28)).alloc (.cells #[.int .i64 x.f0, .int .i64 x.f1, .slice A1 x.f2.length c1, .slice A2 x.f3.length c2, .int .i64 y.f0, .int .i64 y.f1, .slice A3 y.f2.length c3, .slice A4 y.f3.length c4] 52) = w1 at *
  obtain ⟨gr, hgr⟩ : ∃ g, w.heap.size + 1 = g := ⟨_, rfl⟩
  obtain ⟨gb, hgb⟩ : ∃ g, w.heap.size = g := ⟨_, rfl⟩
  rw [hgr, hgb] at H1
  (try simp only [hgr]); (try simp only [hgb])
  clear hgr hgb
  refine (lalive_calls w1).mono ?_
  rintro e w2 ⟨rfl, hb2⟩
  have f2 := Fr.of_below hb2 (fun _ => False)
  have H2 := Aside0.mk (And.intro (f2.blk H1.out.1 (fun e => e)) (And.intro (f2.blk H1.out.2.1 (fun e => e)) (H1.out.2.2.trans f2 (fun _ e => e.elim))))
  clear hb2 f2 H1
  go_wp2_with (fail)
  refine (lnew_calls w2).mono ?_
  rintro e w3 ⟨gl, bm, rfl, hL3, hb3⟩
  have f3 := Fr.of_below hb3 (fun _ => False)
  have K3 : Kc w w3 gb gr gl bm view turn x y A1 c1 A2 c2 A3 c3 A4 c4 (L1 view turn slot x y 0) := ⟨H2.out.2.2.trans f3 (fun _ e => e.elim), f3.blk H2.out.1 (fun e => e), f3.blk H2.out.2.1 (fun e => e), _, _, hL3.lower H2.out.2.2.size⟩
  have HK3 := Aside0.mk K3
  clear hL3 hb3 f3 H2 K3
  go_wp2_with (fail)
  refine loopC view turn slot x y A1 c1 A2 c2 A3 c3 A4 c4 w w3 gb gr gl bm HX HY HW _ ?_ _ ⟨⟨rfl, rfl⟩, rfl, rfl, rfl, rfl, rfl, HK3.out⟩
  intro a' w4 hFm j1 j3 j5 j7 hK4
  rw [fm114 hFm, j1, j3, j5, j7]
  have HK4 := Aside0.mk hK4
  have z : w4.cell? ⟨gr, 0, none⟩ = some (.int .i64 x.f0) ∧ w4.cell? ⟨gr, 1, none⟩ = some (.int .i64 x.f1) ∧ w4.cell? ⟨gr, 2, none⟩ = some (.slice A1 x.f2.length c1) ∧ w4.cell? ⟨gr, 3, none⟩ = some (.slice A2 x.f3.length c2) ∧ w4.cell? ⟨gr, 4, none⟩ = some (.int .i64 y.f0) ∧ w4.cell? ⟨gr, 5, none⟩ = some (.int .i64 y.f1) ∧ w4.cell? ⟨gr, 6, none⟩ = some (.slice A3 y.f2.length c3) ∧ w4.cell? ⟨gr, 7, none⟩ = some (.slice A4 y.f3.length c4) := by simp [World.cell?, hK4.hr]
  obtain ⟨z0, z1, z2, z3, z4, z5, z6, z7⟩ := z
  clear hFm j1 j3 j5 j7 hK4 HK3
  go_wp2_with (fail)
  refine (samer_calls x.f0 x.f1 A1 c1 x.f2 A2 c2 x.f3 y.f0 y.f1 A3 c3 y.f2 A4 c4 y.f3 w4 (HX.out.1.lies HK4.out.F) HX.out.2.2.1 (HX.out.2.1.lies HK4.out.F) HX.out.2.2.2.1 HX.out.2.2.2.2.1 (HY.out.1.lies HK4.out.F) HY.out.2.2.1 (HY.out.2.1.lies HK4.out.F) HY.out.2.2.2.1 HY.out.2.2.2.2.1 HX.out.2.2.2.2.2.1 HX.out.2.2.2.2.2.2 HY.out.2.2.2.2.2.1 HY.out.2.2.2.2.2.2).mono ?_
  rintro e w5 ⟨rfl, hb5⟩
  have K5 := HK4.out.below (Fr.of_below hb5 (fun _ => False))
  have HK5 := Aside0.mk K5
  clear hb5 K5 HK4 z0 z1 z2 z3 z4 z5 z6 z7
  by_cases hs : sameR x.f0 x.f1 x.f2 x.f3 y.f0 y.f1 y.f2 y.f3 = true
  · have H5 := Aside0.mk (And.intro trivial (by have := HK5.out; rw [L2_zero view turn slot x y false] at this; exact this))
    rw [hs]
    have HS := Aside0.mk hs
    clear hs
    go_wp2_with (fail)
    refine loopDn view turn slot x y A1 c1 A2 c2 A3 c3 A4 c4 w w5 gb gr gl bm HX HY HW (by
      have hs := HS.out
      simp only [sameR, decide_eq_true_eq] at hs
      obtain ⟨e1, e2, e3, e4⟩ := hs
      cases x
      cases y
      simp only at e1 e2 e3 e4
      subst e1 e2 e3 e4
      rfl) _ ?_ _ ⟨⟨rfl, rfl⟩, rfl, rfl, rfl, rfl, rfl, rfl, H5.out.2⟩
    intro a' w6 hFm j1 j3 j5 j7 hK6
    rw [fm114 hFm, j7]
    clear hFm j1 j3 j5 j7 H5
    obtain ⟨D, Bs, hld⟩ := hK6.ld
    have HK6 := Aside0.mk (And.intro hK6.F hld)
    clear hK6 hld
    go_wp2_with (fail)
    refine (llen_calls w6 w.heap.size gl bm _ _ _ HK6.out.2).mono ?_
    rintro e w7 ⟨e1, hb7⟩
    obtain rfl : e = .returned (.int .i64 15) := e1.trans (by simp [L2])
    have H7 := Aside0.mk (HK6.out.1.then_below hb7)
    clear e1 hb7
    go_wp2
    go_ret
    exact ⟨rfl, frB H7.out⟩
  · have hs : sameR x.f0 x.f1 x.f2 x.f3 y.f0 y.f1 y.f2 y.f3 = false := by simpa using hs
    have H5 := Aside0.mk (And.intro trivial (by have := HK5.out; rw [L2_zero view turn slot x y true] at this; exact this))
    rw [hs]
    have HS := Aside0.mk hs
    clear hs
    go_wp2_with (fail)
    refine loopDo view turn slot x y A1 c1 A2 c2 A3 c3 A4 c4 w w5 gb gr gl bm HX HY HW (fun e => by
      obtain ⟨e1, e2, e3, e4⟩ := bodyA_inj HO.out.1 HO.out.2.1 HO.out.2.2.1 HO.out.2.2.2 HX.out.2.2.2.2.1 HY.out.2.2.2.2.1 e
      have hs := HS.out
      rw [sameR, decide_eq_true ⟨e1, e2, e3, e4⟩] at hs
      cases hs) _ ?_ _ ⟨⟨rfl, rfl⟩, rfl, rfl, rfl, rfl, rfl, rfl, H5.out.2⟩
    intro a' w6 hFm j1 j3 j5 j7 hK6
    rw [fm114 hFm, j7]
    clear hFm j1 j3 j5 j7 H5
    obtain ⟨D, Bs, hld⟩ := hK6.ld
    have HK6 := Aside0.mk (And.intro hK6.F hld)
    clear hK6 hld
    go_wp2_with (fail)
    refine (llen_calls w6 w.heap.size gl bm _ _ _ HK6.out.2).mono ?_
    rintro e w7 ⟨e1, hb7⟩
    obtain rfl : e = .returned (.int .i64 15) := e1.trans (by simp [L2])
    have H7 := Aside0.mk (HK6.out.1.then_below hb7)
    clear e1 hb7
    go_wp2
    go_ret
    exact ⟨rfl, frB H7.out⟩
end Go.Proofs.Ytnabilhcmplhcaa.Sha
