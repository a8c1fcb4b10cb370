/- Parts of one work, laid together: LdM, LdN, LdR, LdQ0. -/
import Derived.Test.YtnabilhcmplhcaaFr
import Derived.Test.YtnabilhcmplhcaaProg
import Derived.Maps.OwnSet
import Derived.DeepKeys4
import Derived.WalkKit
import Derived.Test.YtnabilhcmplhcaaLdG
import Derived.Deep.RegionHeld3
import Derived.Test.YtnabilhcmplhcaaQx4
/-
  The ledger's map: its keys are places, its elements addresses.
-/
set_option linter.unusedVariables false
set_option linter.unusedSimpArgs false
namespace Go.Proofs.Ytnabilhcmplhcaa.Sha
open Go.Maps Go.ChangeMaps Go.Proofs.Ytnabilhcmplhcaa.Fr

theorem placeLaw : Keyed Try.prog 67 := Keyed.of_law (deep_law_laid (m := 8) (by kernel_rfl) (by decide) (by decide +kernel) (by kernel_rfl) (by kernel_rfl))
/-- What a place reads as. -/
def plK (a b c d e : Int) : Lit := .string (keyBytes [.int .i64 a, .int .i64 b, .int .i64 c, .int .i64 d, .int .i64 e])
theorem plK_of {a b c d e : Int} (ha : (Lit.int .i64 a).wf = true) (hb : (Lit.int .i64 b).wf = true) (hc : (Lit.int .i64 c).wf = true) (hd : (Lit.int .i64 d).wf = true) (he : (Lit.int .i64 e).wf = true) : keyOf Try.prog 67 (.agg #[.int .i64 a, .int .i64 b, .int .i64 c, .int .i64 d, .int .i64 e]) = some (plK a b c d e) := by
  have h3 : ∀ (n : Nat) (x : Int), (Lit.int .i64 x).wf = true → Try.prog.keyLits (n + 1) 3 [.int .i64 x] = some [.int .i64 x] := fun n x hx => by
    simp [Program.keyLits, show Try.prog.underlying 3 = some (.int .i64) by kernel_rfl, hx]
  have h28 : ∀ (n : Nat), Try.prog.keyLits (n + 2) 28 [.int .i64 b, .int .i64 c] = some [.int .i64 b, .int .i64 c] := fun n => by
    unfold Program.keyLits
    rw [Try.underlying28]
    simp [show Try.prog.cellsOf 28 = 2 by kernel_rfl, show Try.prog.cellsOf 3 = 1 by kernel_rfl, h3 n _ hb, h3 n _ hc]
  have hk : ∀ (n : Nat), Try.prog.keyLits (n + 3) 67 [.int .i64 a, .int .i64 b, .int .i64 c, .int .i64 d, .int .i64 e] = some [.int .i64 a, .int .i64 b, .int .i64 c, .int .i64 d, .int .i64 e] := fun n => by
    unfold Program.keyLits
    rw [Try.underlying67]
    simp [show Try.prog.cellsOf 67 = 5 by kernel_rfl, show Try.prog.cellsOf 28 = 2 by kernel_rfl, show Try.prog.cellsOf 3 = 1 by kernel_rfl, h3 (n + 1) _ ha, h3 (n + 1) _ hd, h3 (n + 1) _ he, h28 n]
  have hn : Try.prog.types.size + 1 = (Try.prog.types.size - 2) + 3 := by
    have : 2 ≤ Try.prog.types.size := by decide +kernel
    omega
  unfold keyOf
  rw [Try.underlying67]
  simp only []
  rw [if_pos (by kernel_rfl), hn]
  rw [show (Value.agg #[.int .i64 a, .int .i64 b, .int .i64 c, .int .i64 d, .int .i64 e]).cells.toList = [.int .i64 a, .int .i64 b, .int .i64 c, .int .i64 d, .int .i64 e] from rfl, hk]
  rfl
theorem plK_inj {a b c d e a' b' c' d' e' : Int} (ha : (Lit.int .i64 a).wf = true) (hb : (Lit.int .i64 b).wf = true) (hc : (Lit.int .i64 c).wf = true) (hd : (Lit.int .i64 d).wf = true) (he : (Lit.int .i64 e).wf = true) (ha' : (Lit.int .i64 a').wf = true) (hb' : (Lit.int .i64 b').wf = true) (hc' : (Lit.int .i64 c').wf = true) (hd' : (Lit.int .i64 d').wf = true) (he' : (Lit.int .i64 e').wf = true) (h : plK a b c d e = plK a' b' c' d' e') : a = a' ∧ b = b' ∧ c = c' ∧ d = d' ∧ e = e' := by
  have := placeLaw.inj (plK_of ha hb hc hd he) (h ▸ plK_of ha' hb' hc' hd' he')
  simpa using this
/-- What an address of a block reads as. -/
def ptrE : Value → Option (DataW Unit × List MemPlace)
  | .pointer none => some (.lit (.int .i64 (-1)), [])
  | .pointer (some ⟨b, 0, none⟩) => some (.lit (.int .i64 (b : Int)), [])
  | _ => none
theorem ptrE_inv {v : Value} {b : Nat} {ps : List MemPlace} (h : ptrE v = some (.lit (.int .i64 (b : Int)), ps)) : v = .pointer (some ⟨b, 0, none⟩) := by
  unfold ptrE at h
  split at h
  · simp at h
  · rename_i b'
    simp at h
    obtain ⟨h, _⟩ := h
    have : b' = b := by omega
    subst this
    rfl
  · cases h
theorem ptrE_nil {v : Value} {ps : List MemPlace} (h : ptrE v = some (.lit (.int .i64 (-1)), ps)) : v = .pointer none := by
  unfold ptrE at h
  split at h
  · rfl
  · simp at h
  · cases h
theorem zeroP (w : World) : (zeroValue 68).run Try.prog w = .ok (.pointer none) w := by kernel_rfl
theorem undMap : Try.prog.underlying 62 = some (.map 67 68) := by kernel_rfl
/-- Another map's block: told by a frame. -/
theorem ownsMap_fr {w w' : World} {S : Nat → Prop} {R : Value → Option (DataW Unit × List MemPlace)} {b n : Nat} {D : DataW Unit} (h : w.ownsMap Try.prog 67 R b n D) (hf : Fr S w w') (hS : ¬ S b) : w'.ownsMap Try.prog 67 R b n D := by
  have hlt := h.lt
  obtain ⟨es, clock, hb, F, hs, hD⟩ := h
  exact ⟨es, clock, (hf.block b hlt hS).trans hb, F, hs, hD⟩
theorem turned_fr {w w' : World} {b : Nat} (h : w.mapTurned w' b) : Fr (fun k => k = b) w w' := by
  obtain ⟨es, clock, es', clock', hb, rfl⟩ := h
  refine ⟨rfl, rfl, rfl, by simp [setBlock], fun k hk hn => ?_⟩
  exact heap_setBlock_other hb _ hn
end Go.Proofs.Ytnabilhcmplhcaa.Sha

/-
  A ledger: what it holds; how it is made, how long it is.
-/
set_option linter.unusedVariables false
set_option linter.unusedSimpArgs false
namespace Go.Proofs.Ytnabilhcmplhcaa.Sha
open Go.RowKit Go.Proofs.YtnabilhcmplhcaaW.PrintWords Go.Proofs.YtnabilhcmplhcaaW.PrintLast Go.Proofs.YtnabilhcmplhcaaW.PrintMore Go.Proofs.Ytnabilhcmplhcaa.Q Go.Proofs.Ytnabilhcmplhcaa.Fr Go.Proofs.Ytnabilhcmplhcaa.Oct
open Go.Maps Go.ChangeMaps

/-- A vote that was seen. -/
structure Sn where
  kind : Int
  view : Int
  turn : Int
  slot : Int
  signer : Int
  c : Int
  s : Int
  op : List Int
  sg : List Int
  t : List Int
  told : Bool
def Sn.key (x : Sn) : Lit := plK x.kind x.view x.turn x.slot x.signer
structure Sn.ok (x : Sn) : Prop where
  wk : (Lit.int .i64 x.kind).wf = true
  wv : (Lit.int .i64 x.view).wf = true
  wt : (Lit.int .i64 x.turn).wf = true
  wl : (Lit.int .i64 x.slot).wf = true
  wi : (Lit.int .i64 x.signer).wf = true
  lo : x.op.length + x.sg.length ≤ 1048576
  lt : x.t.length ≤ 1048576
  bo : Bys x.op
  bs : Bys x.sg
def snc (A1 : Option Addr) (c1 : Nat) (A2 : Option Addr) (c2 : Nat) (A3 : Option Addr) (c3 : Nat) (x : Sn) : Array Value := #[.int .i64 x.c, .int .i64 x.s, .slice A1 x.op.length c1, .slice A2 x.sg.length c2, .slice A3 x.t.length c3, .bool x.told]
/-- It lies in block b. -/
def SnAt (w : World) (base b : Nat) (x : Sn) : Prop := ∃ A1 c1 A2 c2 A3 c3, w.heap[b]? = some (.cells (snc A1 c1 A2 c2 A3 c3 x) 75 (0, 0)) ∧ OB w base (.slice A1 x.op.length c1) x.op ∧ OB w base (.slice A2 x.sg.length c2) x.sg ∧ OB w base (.slice A3 x.t.length c3) x.t ∧ base ≤ b
def zL : DataW Unit := .lit (.int .i64 (-1))
structure LdAt (w : World) (base gl bm : Nat) (D : DataW Unit) (S : List Sn) (Bs : List Nat) : Prop where
  head : w.heap[gl]? = some (.cells #[.map (some bm)] 64 (0, 0))
  own : w.ownsMap Try.prog 67 ptrE bm S.length D
  size : Maps.size D = S.length
  bl : Bs.length = S.length
  at' : ∀ (i : Nat) (x : Sn) (b : Nat), S[i]? = some x → Bs[i]? = some b → D.atKey x.key zL = .lit (.int .i64 (b : Int)) ∧ SnAt w base b x
  has : ∀ kl, Maps.has D kl = true ↔ kl ∈ S.map Sn.key
  keys : (S.map Sn.key).Nodup
  nd : Bs.Nodup
  ok : ∀ x ∈ S, x.ok
  hgl : base ≤ gl
  hbm : base ≤ bm
theorem SnAt.fr {w w' : World} {base b : Nat} {x : Sn} {F : Nat → Prop} (h : SnAt w base b x) (hf : Fr F w w') (hb : ¬ F b) (hF : ∀ k cells, w.heap[k]? = some (.cells cells 5 (0, 0)) → ¬ F k) : SnAt w' base b x := by
  obtain ⟨A1, c1, A2, c2, A3, c3, hg, h1, h2, h3, hle⟩ := h
  have hO : ∀ {v : Value} {l : List Int}, OB w base v l → OB w' base v l := fun h => h.fr hf (fun k hk => by
    obtain ⟨_, cells, hc⟩ := q_typed (q_of_own h) k hk
    exact hF k cells hc)
  exact ⟨A1, c1, A2, c2, A3, c3, hf.blk hg hb, hO h1, hO h2, hO h3, hle⟩
theorem LdAt.fr0 {w w' : World} {base gl bm : Nat} {D : DataW Unit} {S : List Sn} {Bs : List Nat} (h : LdAt w base gl bm D S Bs) (hf : Fr (fun _ => False) w w') : LdAt w' base gl bm D S Bs :=
  ⟨hf.blk h.head (fun e => e), ownsMap_fr h.own hf (fun e => e), h.size, h.bl, fun i x b hx hb => ⟨(h.at' i x b hx hb).1, (h.at' i x b hx hb).2.fr hf (fun e => e) (fun _ _ _ e => e)⟩, h.has, h.keys, h.nd, h.ok, h.hgl, h.hbm⟩
/-- The map's block holds no cells. -/
theorem LdAt.bm_no {w : World} {base gl bm : Nat} {D : DataW Unit} {S : List Sn} {Bs : List Nat} (h : LdAt w base gl bm D S Bs) (cells : Array Value) (t : TypeId) (fr : Nat × Nat) : w.heap[bm]? ≠ some (.cells cells t fr) := fun e => by
  obtain ⟨es, clock, hb, _⟩ := h.own
  rw [hb] at e
  cases e
/-- The blocks that a ledger may write. -/
def LF (bm : Nat) (Bs : List Nat) (k : Nat) : Prop := k = bm ∨ k ∈ Bs
theorem LdAt.lf_type {w : World} {base gl bm : Nat} {D : DataW Unit} {S : List Sn} {Bs : List Nat} (h : LdAt w base gl bm D S Bs) {k : Nat} (hk : LF bm Bs k) {cells : Array Value} {t : TypeId} {fr : Nat × Nat} (hc : w.heap[k]? = some (.cells cells t fr)) : t = 75 ∧ ∃ A1 c1 A2 c2 A3 c3 x, cells = snc A1 c1 A2 c2 A3 c3 x := by
  rcases hk with rfl | hk
  · exact absurd hc (h.bm_no _ _ _)
  · obtain ⟨i, hi, rfl⟩ := List.getElem_of_mem hk
    have hx : S[i]? = some (S[i]'(by rw [← h.bl]; exact hi)) := List.getElem?_eq_getElem (by rw [← h.bl]; exact hi)
    obtain ⟨A1, c1, A2, c2, A3, c3, hg, _⟩ := (h.at' i _ _ hx (List.getElem?_eq_getElem hi)).2
    rw [hg] at hc
    injection hc with hc
    injection hc with h1 h2 h3
    exact ⟨h2.symm, A1, c1, A2, c2, A3, c3, _, h1.symm⟩
/-- Bytes that can be read lie in no block that a ledger writes. -/
theorem LdAt.rd {w w' : World} {base gl bm : Nat} {D : DataW Unit} {S : List Sn} {Bs : List Nat} (h : LdAt w base gl bm D S Bs) {A : Option Addr} {l : List Int} (hr : Rd w A l) (hf : Fr (LF bm Bs) w w') : Rd w' A l := by
  cases l with
  | nil => exact Rd.nil _ _
  | cons y l =>
    refine hr.fr hf (fun ad e hk => ?_)
    obtain ⟨ad', e', hc⟩ := hr 0 (.int .u8 y) rfl
    rw [e] at e'
    injection e' with e'
    subst e'
    have hc : w.cell? ad = some (.int .u8 y) := by simpa [Addr.add] using hc
    obtain ⟨bl, off, sub⟩ := ad
    simp only [World.cell?] at hc
    cases hb : w.heap[bl]? with
    | none => simp [hb] at hc
    | some o =>
      rcases o with ⟨cells, t, fr⟩ | _ | _ | _ | _ | _ | _ | _ | _ <;> simp [hb] at hc
      obtain ⟨_, A1, c1, A2, c2, A3, c3, x, rfl⟩ := h.lf_type hk hb
      have hc := hc.2
      unfold snc at hc
      rcases off with _ | _ | _ | _ | _ | _ | off <;> simp at hc
theorem LdAt.ne {w : World} {base gl bm : Nat} {D : DataW Unit} {S : List Sn} {Bs : List Nat} (h : LdAt w base gl bm D S Bs) : gl ≠ bm := fun e => h.bm_no _ _ _ (e ▸ h.head)
theorem LdAt.keyAt {w : World} {base gl bm : Nat} {D : DataW Unit} {S : List Sn} {Bs : List Nat} (h : LdAt w base gl bm D S Bs) {i : Nat} {x : Sn} (hx : S[i]? = some x) : Maps.has D x.key = true := (h.has _).2 (List.mem_map.2 ⟨x, List.mem_of_getElem? hx, rfl⟩)
theorem LdAt.ne_bm {w : World} {base gl bm b : Nat} {D : DataW Unit} {S : List Sn} {Bs : List Nat} (h : LdAt w base gl bm D S Bs) {x : Sn} (hb : SnAt w base b x) : b ≠ bm := fun e => by
  obtain ⟨A1, c1, A2, c2, A3, c3, hg, _⟩ := hb
  exact h.bm_no _ _ _ (e ▸ hg)
/-- A vote is put down. -/
theorem LdAt.put {w w2 : World} {base gl bm : Nat} {D : DataW Unit} {S : List Sn} {Bs : List Nat} (h : LdAt w base gl bm D S Bs) (x : Sn) (b : Nat) (hx : x.ok) (hn : Maps.has D x.key = false) (hb : SnAt w base b x) (hnew : b ∉ Bs) (hown : w2.ownsMap Try.prog 67 ptrE bm (S.length + 1) (D.put x.key (.lit (.int .i64 (b : Int))))) (hf : Fr (fun k => k = bm) w w2) : LdAt w2 base gl bm (D.put x.key (.lit (.int .i64 (b : Int)))) (S ++ [x]) (Bs ++ [b]) := by
  have hk : WideAt.IsKeyLit x.key := placeLaw.key (plK_of hx.wk hx.wv hx.wt hx.wl hx.wi)
  have hS : ∀ {y : Sn} {d : Nat}, SnAt w base d y → SnAt w2 base d y := fun {y d} hy => hy.fr hf (h.ne_bm hy) (fun k cells hc e => h.bm_no _ _ _ (e ▸ hc))
  refine ⟨hf.blk h.head h.ne, by simpa using hown, ?_, by simp [h.bl], ?_, ?_, ?_, ?_, ?_, h.hgl, h.hbm⟩
  · rw [size_put (h.own.tidy placeLaw), hn, h.size]
    simp
  · intro i y d hy hd
    by_cases hi : i < S.length
    · rw [List.getElem?_append_left hi] at hy
      rw [List.getElem?_append_left (by rw [h.bl]; exact hi)] at hd
      have hne : y.key ≠ x.key := fun e => by
        have := h.keyAt hy
        rw [e, hn] at this
        cases this
      have h0 := h.at' i y d hy hd
      exact ⟨by rw [atKey_put_other hne]; exact h0.1, hS h0.2⟩
    · have hi2 : i = S.length := by
        have := (List.getElem?_eq_some_iff.1 hy).1
        simp only [List.length_append, List.length_singleton] at this
        omega
      subst hi2
      have e1 : y = x := by simpa using hy.symm
      have e2 : d = b := by
        rw [← h.bl] at hd
        simpa using hd.symm
      subst e1 e2
      exact ⟨atKey_put_same h.own.isMap hk _ _, hS hb⟩
  · intro kl
    rw [List.map_append, List.mem_append]
    by_cases e : kl = x.key
    · subst e
      rw [has_put_same h.own.isMap hk]
      simp
    · rw [has_put_other e, h.has]
      simp [e]
  · rw [List.map_append]
    refine List.nodup_append.2 ⟨h.keys, by simp, fun a ha b' hb' e => ?_⟩
    have e2 : b' = x.key := by simpa using hb'
    subst e2
    subst e
    have := (h.has _).2 ha
    rw [hn] at this
    cases this
  · exact List.nodup_append.2 ⟨h.nd, by simp, fun a ha b' hb' e => hnew (by have e2 : b' = b := by simpa using hb'
                                                                            rw [← e2, ← e]; exact ha)⟩
  · intro y hy
    rcases List.mem_append.1 hy with hy | hy
    · exact h.ok y hy
    · have : y = x := by simpa using hy
      rw [this]
      exact hx
theorem set_told {w : World} {b : Nat} {A1 : Option Addr} {c1 : Nat} {A2 : Option Addr} {c2 : Nat} {A3 : Option Addr} {c3 : Nat} {x : Sn} {t : TypeId} (h : w.heap[b]? = some (.cells (snc A1 c1 A2 c2 A3 c3 x) t (0, 0))) : (w.setCell ⟨b, 5, none⟩ (.bool true)).heap[b]? = some (.cells (snc A1 c1 A2 c2 A3 c3 { x with told := true }) t (0, 0)) := by
  rw [setCell_eq_setRow w b _ _ _ (0, 0) _ h, setRow_heap w b _ _ _ _ h]
  rfl
/-- .. that was told. -/
theorem LdAt.tell {w : World} {base gl bm : Nat} {D : DataW Unit} {S : List Sn} {Bs : List Nat} (h : LdAt w base gl bm D S Bs) (i : Nat) (x : Sn) (b : Nat) (hx : S[i]? = some x) (hb : Bs[i]? = some b) : LdAt (w.setCell ⟨b, 5, none⟩ (.bool true)) base gl bm D (S.set i { x with told := true }) Bs := by
  have hf : Fr (fun k => k = b) w (w.setCell ⟨b, 5, none⟩ (.bool true)) := (Fr.refl (fun k => k = b) w).setCell (.inl rfl) _
  have hsn := (h.at' i x b hx hb).2
  obtain ⟨A1, c1, A2, c2, A3, c3, hg, o1, o2, o3, hle⟩ := hsn
  have hlt := (List.getElem?_eq_some_iff.1 hx).1
  have hnb : ∀ k cells, w.heap[k]? = some (.cells cells 5 (0, 0)) → k ≠ b := fun k cells hc e => by
    rw [e, hg] at hc
    injection hc with hc
    injection hc with _ hc _
    cases hc
  have hO : ∀ {v : Value} {l : List Int}, OB w base v l → OB (w.setCell ⟨b, 5, none⟩ (.bool true)) base v l := fun h => h.fr hf (fun k hk => by
    obtain ⟨_, cells, hc⟩ := q_typed (q_of_own h) k hk
    exact hnb k cells hc)
  have hmap : (S.set i { x with told := true }).map Sn.key = S.map Sn.key := by
    rw [List.map_set]
    refine List.ext_getElem? fun j => ?_
    rw [List.getElem?_set]
    split
    · rename_i e
      subst e
      rw [if_pos (by simpa using hlt), List.getElem?_map, hx]
      rfl
    · rfl
  refine ⟨hf.blk h.head (fun e => ?_), ownsMap_fr h.own hf (fun e => h.bm_no _ _ _ (e ▸ hg)) |> (by rw [List.length_set]; exact ·), by rw [List.length_set]; exact h.size, by rw [List.length_set]; exact h.bl, ?_, by rw [hmap]; exact h.has, by rw [hmap]; exact h.keys, h.nd, ?_, h.hgl, h.hbm⟩
  · have := h.head
    rw [e, hg] at this
    injection this with this
    injection this with _ this _
    cases this
  · intro j y d hy hd
    by_cases hj : j = i
    · subst hj
      rw [hb] at hd
      injection hd with hd
      subst hd
      rw [List.getElem?_set_self hlt] at hy
      injection hy with hy
      subst hy
      exact ⟨(h.at' j x b hx hb).1, A1, c1, A2, c2, A3, c3, set_told hg, hO o1, hO o2, hO o3, hle⟩
    · rw [List.getElem?_set_ne (fun e => hj e.symm)] at hy
      have h0 := h.at' j y d hy hd
      refine ⟨h0.1, h0.2.fr hf (fun e => ?_) (fun k cells hc e => hnb k cells hc e)⟩
      subst e
      exact hj ((List.getElem?_inj (List.getElem?_eq_some_iff.1 hd).1 h.nd).1 (hd.trans hb.symm))
  · intro y hy
    rcases List.mem_or_eq_of_mem_set hy with hy | hy
    · exact h.ok y hy
    · have := h.ok x (List.mem_of_getElem? hx)
      rw [hy]
      exact ⟨this.wk, this.wv, this.wt, this.wl, this.wi, this.lo, this.lt, this.bo, this.bs⟩
set_option maxHeartbeats 8000000 in
set_option maxRecDepth 100000 in
theorem lnew_calls (w : World) :
    Calls Try.prog 9 #[] w fun e w' => ∃ gl bm, e = .returned (.pointer (some ⟨gl, 0, none⟩)) ∧ LdAt w' w.heap.size gl bm (.map []) [] [] ∧ Below w.heap.size w w' := by
  have hmm := @run_makeMap Try.prog
  go_enter Try.func9, Try.ntmps9
  go_wp2
  go_ret
  have hb : Below w.heap.size w ((w.alloc (.map #[] 0)).alloc (.cells #[.map (some w.heap.size)] 64)) := below_alloc (below_alloc (Below.refl _ _) _) _
  have h1 := World.ownsMap_made w Try.prog 67 ptrE
  have h2 := h1.alloc (.cells #[.map (some w.heap.size)] 64)
  have hg := heap_alloc_new (w.alloc (.map #[] 0)) (.cells #[.map (some w.heap.size)] 64)
  rw [World.size_alloc] at hg
  refine ⟨w.heap.size + 1, w.heap.size, by simp, ⟨hg, h2, rfl, rfl, fun i x b hx => by simp at hx, fun kl => by simp [Maps.has], by simp, by simp, fun x hx => by simp at hx, by omega, Nat.le_refl _⟩, hb⟩
set_option maxHeartbeats 8000000 in
set_option maxRecDepth 100000 in
theorem llen_calls (w : World) (base gl bm : Nat) (D : DataW Unit) (S : List Sn) (Bs : List Nat) (h : LdAt w base gl bm D S Bs) :
    Calls Try.prog 17 #[.pointer (some ⟨gl, 0, none⟩)] w fun e w' => e = .returned (.int .i64 (S.length : Int)) ∧ Below w.heap.size w w' := by
  have hc : w.cell? ⟨gl, 0, none⟩ = some (.map (some bm)) := by simp [World.cell?, h.head]
  have hown := h.own
  have hs := h.size
  obtain ⟨n, hn⟩ : ∃ n, S.length = n := ⟨_, rfl⟩
  rw [hn] at hown hs ⊢
  clear h hn
  go_enter Try.func17, Try.ntmps17
  go_wp2_with (first | (at_len; refine wpList_len_own _ rfl _ 62 rfl 67 68 undMap ptrE bm n D rfl hown ?_))
  go_ret
  exact ⟨rfl, Below.refl _ _⟩
end Go.Proofs.Ytnabilhcmplhcaa.Sha

/-
  What is noted: the steps, in plain words; what the loop of Note keeps.
-/
set_option linter.unusedVariables false
set_option linter.unusedSimpArgs false
namespace Go.Proofs.Ytnabilhcmplhcaa.Sha
open Go.RowKit Go.Proofs.YtnabilhcmplhcaaW.PrintWords Go.Proofs.YtnabilhcmplhcaaW.PrintLast Go.Proofs.YtnabilhcmplhcaaW.PrintMore Go.Proofs.Ytnabilhcmplhcaa.Q Go.Proofs.Ytnabilhcmplhcaa.Fr Go.Proofs.Ytnabilhcmplhcaa.Oct
open Go.Maps Go.ChangeMaps

/-- An evidence. -/
structure Ev where
  kind : Int
  view : Int
  turn : Int
  slot : Int
  signer : Int
  cX : Int
  sX : Int
  opX : List Int
  sgX : List Int
  tX : List Int
  cY : Int
  sY : Int
  opY : List Int
  sgY : List Int
  tY : List Int
def EvIs (w : World) (v : Value) (e : Ev) : Prop := EvAt w v e.kind e.view e.turn e.slot e.signer e.cX e.sX e.opX e.sgX e.tX e.cY e.sY e.opY e.sgY e.tY
def mkEv (x : Sn) (c s : Int) (op sg t : List Int) : Ev :=
  if 0 < cmpA (bodyA x.c x.s x.op x.sg) (bodyA c s op sg) then ⟨x.kind, x.view, x.turn, x.slot, x.signer, c, s, op, sg, t, x.c, x.s, x.op, x.sg, x.t⟩
  else ⟨x.kind, x.view, x.turn, x.slot, x.signer, x.c, x.s, x.op, x.sg, x.t, c, s, op, sg, t⟩
/-- What one vote does. -/
def Step (kind view turn slot c s : Int) (op sg : List Int) (S : List Sn) (E : List Ev) (v : Int × List Int) (S' : List Sn) (E' : List Ev) : Prop :=
  (vrA kind view turn slot (bodyA c s op sg) v.1 v.2 = false ∧ S' = S ∧ E' = E) ∨
  (vrA kind view turn slot (bodyA c s op sg) v.1 v.2 = true ∧ plK kind view turn slot v.1 ∉ S.map Sn.key ∧ S.length < 8192 ∧ S' = S ++ [⟨kind, view, turn, slot, v.1, c, s, op, sg, v.2, false⟩] ∧ E' = E) ∨
  (vrA kind view turn slot (bodyA c s op sg) v.1 v.2 = true ∧ plK kind view turn slot v.1 ∉ S.map Sn.key ∧ 8192 ≤ S.length ∧ S' = S ∧ E' = E) ∨
  (vrA kind view turn slot (bodyA c s op sg) v.1 v.2 = true ∧ ∃ (i : Nat) (x : Sn), S[i]? = some x ∧ x.key = plK kind view turn slot v.1 ∧ (x.told = true ∨ bodyA x.c x.s x.op x.sg = bodyA c s op sg) ∧ S' = S ∧ E' = E) ∨
  (vrA kind view turn slot (bodyA c s op sg) v.1 v.2 = true ∧ ∃ (i : Nat) (x : Sn), S[i]? = some x ∧ x.key = plK kind view turn slot v.1 ∧ x.told = false ∧ bodyA x.c x.s x.op x.sg ≠ bodyA c s op sg ∧ S' = S.set i { x with told := true } ∧ E' = E ++ [mkEv x c s op sg v.2])
def Steps (kind view turn slot c s : Int) (op sg : List Int) (S : List Sn) (E : List Ev) : List (Int × List Int) → List Sn → List Ev → Prop
  | [], S', E' => S' = S ∧ E' = E
  | v :: V, S', E' => ∃ S1 E1, Step kind view turn slot c s op sg S E v S1 E1 ∧ Steps kind view turn slot c s op sg S1 E1 V S' E'
theorem Steps.snoc {kind view turn slot c s : Int} {op sg : List Int} : ∀ {V : List (Int × List Int)} {S : List Sn} {E : List Ev} {S1 : List Sn} {E1 : List Ev} {v : Int × List Int} {S' : List Sn} {E' : List Ev}, Steps kind view turn slot c s op sg S E V S1 E1 → Step kind view turn slot c s op sg S1 E1 v S' E' → Steps kind view turn slot c s op sg S E (V ++ [v]) S' E'
  | [], _, _, _, _, _, _, _, ⟨rfl, rfl⟩, h2 => ⟨_, _, h2, rfl, rfl⟩
  | _ :: V, _, _, _, _, _, _, _, ⟨S2, E2, h1, h⟩, h2 => ⟨S2, E2, h1, Steps.snoc h h2⟩
/-- Votes that can be read. -/
def VC (w : World) (A : Option Addr) (V : List (Int × List Int)) : Prop :=
  ∀ (i : Nat) (v : Int × List Int), V[i]? = some v → ∃ ad A3 c3, A = some ad ∧ (∃ cells fr, w.heap[ad.block]? = some (.cells cells 55 fr)) ∧ w.cell? (ad.add (i * 2)) = some (.int .i64 v.1) ∧ w.cell? ⟨(ad.add (i * 2)).block, (ad.add (i * 2)).off + 1, none⟩ = some (.slice A3 v.2.length c3) ∧ v.2.length ≤ c3 ∧ Rd w A3 v.2
/-- Evidences in a row. -/
def EvRow (w : World) (base : Nat) (out : Value) (E : List Ev) : Prop :=
  ∃ cs : List (List Value), cs.length = E.length ∧ w.ownsRow base 48 23 out E.length cs.flatten ∧ ∀ (j : Nat) (e : Ev) (c : List Value), E[j]? = some e → cs[j]? = some c → c.length = 23 ∧ EvIs w (.agg c.toArray) e
theorem row_type {w : World} {base n : Nat} {v : Value} {xs : List Value} {e : TypeId} {sz : Nat} (h : w.ownsRow base e sz v n xs) : ∀ k, v.ownBlock = some k → base ≤ k ∧ ∃ cells, w.heap[k]? = some (.cells cells e (0, 0)) := fun k hk => by
  obtain ⟨_, ⟨rfl, _⟩ | ⟨g, cap, cur, rfl, hb, hg, _⟩⟩ := h
  · cases hk
  · have : g = k := by simpa [Value.ownBlock] using hk
    subst this
    exact ⟨hb, _, hg⟩
theorem row_fr {w w' : World} {base n : Nat} {v : Value} {xs : List Value} {e : TypeId} {sz : Nat} {F : Nat → Prop} (h : w.ownsRow base e sz v n xs) (hf : Fr F w w') (hF : ∀ k, v.ownBlock = some k → ¬ F k) : w'.ownsRow base e sz v n xs := by
  obtain ⟨hl, ⟨rfl, h2⟩ | ⟨g, cap, cur, rfl, hb, hg, h2⟩⟩ := h
  · exact ⟨hl, .inl ⟨rfl, h2⟩⟩
  · exact ⟨hl, .inr ⟨g, cap, cur, rfl, hb, hf.blk hg (hF g rfl), h2⟩⟩
theorem LF.not {w : World} {base gl bm : Nat} {D : DataW Unit} {S : List Sn} {Bs : List Nat} (h : LdAt w base gl bm D S Bs) {k : Nat} {cells : Array Value} {t : TypeId} {fr : Nat × Nat} (hc : w.heap[k]? = some (.cells cells t fr)) (ht : t ≠ 75) : ¬ LF bm Bs k := fun e => ht (h.lf_type e hc).1
theorem EvIs.frT {w w' : World} {v : Value} {e : Ev} {F : Nat → Prop} (he : EvIs w v e) (hf : Fr F w w') (hF : ∀ k cells, w.heap[k]? = some (.cells cells 5 (0, 0)) → ¬ F k) : EvIs w' v e := by
  obtain ⟨B1, d1, B2, d2, B3, d3, B4, d4, B5, d5, B6, d6, e, h1, h2, h3, h4, h5, h6⟩ := he
  exact ⟨B1, d1, B2, d2, B3, d3, B4, d4, B5, d5, B6, d6, e, h1.frT hf hF, h2.frT hf hF, h3.frT hf hF, h4.frT hf hF, h5.frT hf hF, h6.frT hf hF⟩
theorem LdAt.evIs {w w' : World} {base gl bm : Nat} {D : DataW Unit} {S : List Sn} {Bs : List Nat} (h : LdAt w base gl bm D S Bs) {v : Value} {e : Ev} (he : EvIs w v e) (hf : Fr (LF bm Bs) w w') : EvIs w' v e := he.frT hf (fun k cells hc => LF.not h hc (by decide))
theorem LdAt.evRow {w w' : World} {base gl bm : Nat} {D : DataW Unit} {S : List Sn} {Bs : List Nat} (h : LdAt w base gl bm D S Bs) {b0 : Nat} {out : Value} {E : List Ev} (he : EvRow w b0 out E) (hf : Fr (LF bm Bs) w w') : EvRow w' b0 out E := by
  obtain ⟨cs, hl, hrow, hev⟩ := he
  refine ⟨cs, hl, row_fr hrow hf (fun k hk e => ?_), fun j e c hj hc => ⟨(hev j e c hj hc).1, h.evIs (hev j e c hj hc).2 hf⟩⟩
  obtain ⟨_, cells, hc⟩ := row_type hrow k hk
  have := (h.lf_type e hc).1
  cases this
theorem LdAt.vc {w w' : World} {base gl bm : Nat} {D : DataW Unit} {S : List Sn} {Bs : List Nat} (h : LdAt w base gl bm D S Bs) {A : Option Addr} {V : List (Int × List Int)} (hv : VC w A V) (hf : Fr (LF bm Bs) w w') : VC w' A V := fun i v hi => by
  obtain ⟨ad, A3, c3, e, ⟨cells, fr, ht⟩, h1, h2, h3, h4⟩ := hv i v hi
  have hn : ¬ LF bm Bs ad.block := fun hk => by
    have := (h.lf_type hk ht).1
    cases this
  exact ⟨ad, A3, c3, e, ⟨cells, fr, hf.blk ht hn⟩, hf.cell h1 (by rw [addr_block]; exact hn), hf.cell h2 (by simp only; rw [addr_block]; exact hn), h3, h.rd h4 hf⟩
/-- What the loop keeps: w is the world in which it began. -/
structure Nt (w W : World) (base gl bm : Nat) (Bs0 : List Nat) (view turn c s : Int) (Ao : Option Addr) (co : Nat) (op : List Int) (As : Option Addr) (cs : Nat) (sg : List Int) (Ab : Option Addr) (Av : Option Addr) (V : List (Int × List Int)) (gb gr : Nat) (D : DataW Unit) (S : List Sn) (Bs : List Nat) (out : Value) (E : List Ev) : Prop where
  F : Fr (LF bm Bs0) w W
  ld : LdAt W base gl bm D S Bs
  nb : ∀ b ∈ Bs, b ∈ Bs0 ∨ w.heap.size ≤ b
  ld0 : ∃ D0 S0, LdAt w base gl bm D0 S0 Bs0
  hb0 : w.heap[gb]? = some (.cells #[.int .i64 view, .int .i64 turn] 28 (0, 0))
  hr0 : w.heap[gr]? = some (.cells #[.int .i64 c, .int .i64 s, .slice Ao op.length co, .slice As sg.length cs] 31 (0, 0))
  ro0 : Rd w Ao op
  rs0 : Rd w As sg
  rb0 : Rd w Ab (bodyA c s op sg)
  vc0 : VC w Av V
  ev : EvRow W w.heap.size out E
  bw : base ≤ w.heap.size
theorem Nt.hb {w W : World} {base gl bm : Nat} {Bs0 : List Nat} {view turn c s : Int} {Ao : Option Addr} {co : Nat} {op : List Int} {As : Option Addr} {cs : Nat} {sg : List Int} {Ab : Option Addr} {Av : Option Addr} {V : List (Int × List Int)} {gb gr : Nat} {D : DataW Unit} {S : List Sn} {Bs : List Nat} {out : Value} {E : List Ev} (h : Nt w W base gl bm Bs0 view turn c s Ao co op As cs sg Ab Av V gb gr D S Bs out E) : W.heap[gb]? = some (.cells #[.int .i64 view, .int .i64 turn] 28 (0, 0)) := by
  obtain ⟨_, _, hl⟩ := h.ld0
  exact h.F.blk h.hb0 (LF.not hl h.hb0 (by decide))
theorem Nt.hr {w W : World} {base gl bm : Nat} {Bs0 : List Nat} {view turn c s : Int} {Ao : Option Addr} {co : Nat} {op : List Int} {As : Option Addr} {cs : Nat} {sg : List Int} {Ab : Option Addr} {Av : Option Addr} {V : List (Int × List Int)} {gb gr : Nat} {D : DataW Unit} {S : List Sn} {Bs : List Nat} {out : Value} {E : List Ev} (h : Nt w W base gl bm Bs0 view turn c s Ao co op As cs sg Ab Av V gb gr D S Bs out E) : W.heap[gr]? = some (.cells #[.int .i64 c, .int .i64 s, .slice Ao op.length co, .slice As sg.length cs] 31 (0, 0)) := by
  obtain ⟨_, _, hl⟩ := h.ld0
  exact h.F.blk h.hr0 (LF.not hl h.hr0 (by decide))
theorem Nt.ro {w W : World} {base gl bm : Nat} {Bs0 : List Nat} {view turn c s : Int} {Ao : Option Addr} {co : Nat} {op : List Int} {As : Option Addr} {cs : Nat} {sg : List Int} {Ab : Option Addr} {Av : Option Addr} {V : List (Int × List Int)} {gb gr : Nat} {D : DataW Unit} {S : List Sn} {Bs : List Nat} {out : Value} {E : List Ev} (h : Nt w W base gl bm Bs0 view turn c s Ao co op As cs sg Ab Av V gb gr D S Bs out E) : Rd W Ao op := by
  obtain ⟨_, _, hl⟩ := h.ld0
  exact hl.rd h.ro0 h.F
theorem Nt.rs {w W : World} {base gl bm : Nat} {Bs0 : List Nat} {view turn c s : Int} {Ao : Option Addr} {co : Nat} {op : List Int} {As : Option Addr} {cs : Nat} {sg : List Int} {Ab : Option Addr} {Av : Option Addr} {V : List (Int × List Int)} {gb gr : Nat} {D : DataW Unit} {S : List Sn} {Bs : List Nat} {out : Value} {E : List Ev} (h : Nt w W base gl bm Bs0 view turn c s Ao co op As cs sg Ab Av V gb gr D S Bs out E) : Rd W As sg := by
  obtain ⟨_, _, hl⟩ := h.ld0
  exact hl.rd h.rs0 h.F
theorem Nt.rb {w W : World} {base gl bm : Nat} {Bs0 : List Nat} {view turn c s : Int} {Ao : Option Addr} {co : Nat} {op : List Int} {As : Option Addr} {cs : Nat} {sg : List Int} {Ab : Option Addr} {Av : Option Addr} {V : List (Int × List Int)} {gb gr : Nat} {D : DataW Unit} {S : List Sn} {Bs : List Nat} {out : Value} {E : List Ev} (h : Nt w W base gl bm Bs0 view turn c s Ao co op As cs sg Ab Av V gb gr D S Bs out E) : Rd W Ab (bodyA c s op sg) := by
  obtain ⟨_, _, hl⟩ := h.ld0
  exact hl.rd h.rb0 h.F
theorem Nt.vc {w W : World} {base gl bm : Nat} {Bs0 : List Nat} {view turn c s : Int} {Ao : Option Addr} {co : Nat} {op : List Int} {As : Option Addr} {cs : Nat} {sg : List Int} {Ab : Option Addr} {Av : Option Addr} {V : List (Int × List Int)} {gb gr : Nat} {D : DataW Unit} {S : List Sn} {Bs : List Nat} {out : Value} {E : List Ev} (h : Nt w W base gl bm Bs0 view turn c s Ao co op As cs sg Ab Av V gb gr D S Bs out E) : VC W Av V := by
  obtain ⟨_, _, hl⟩ := h.ld0
  exact hl.vc h.vc0 h.F
/-- Only the ledger's blocks are written, and the ledger is what it is. -/
theorem Nt.step {w W W' : World} {base gl bm : Nat} {Bs0 : List Nat} {view turn c s : Int} {Ao : Option Addr} {co : Nat} {op : List Int} {As : Option Addr} {cs : Nat} {sg : List Int} {Ab : Option Addr} {Av : Option Addr} {V : List (Int × List Int)} {gb gr : Nat} {D : DataW Unit} {S : List Sn} {Bs : List Nat} {out : Value} {E : List Ev} (h : Nt w W base gl bm Bs0 view turn c s Ao co op As cs sg Ab Av V gb gr D S Bs out E) (hf : Fr (LF bm Bs) W W') {D' : DataW Unit} {S' : List Sn} {Bs' : List Nat} (hl : LdAt W' base gl bm D' S' Bs') (hn : ∀ b ∈ Bs', b ∈ Bs ∨ W.heap.size ≤ b) : Nt w W' base gl bm Bs0 view turn c s Ao co op As cs sg Ab Av V gb gr D' S' Bs' out E :=
  ⟨h.F.trans hf (fun k hk => by
      rcases hk with hk | hk
      · exact .inl (.inl hk)
      · exact (h.nb k hk).imp .inr id), hl, fun b hb => (hn b hb).elim (h.nb b) (fun e => .inr (Nat.le_trans h.F.size e)), h.ld0, h.hb0, h.hr0, h.ro0, h.rs0, h.rb0, h.vc0, h.ld.evRow h.ev hf, h.bw⟩
theorem Nt.below {w W W' : World} {base gl bm : Nat} {Bs0 : List Nat} {view turn c s : Int} {Ao : Option Addr} {co : Nat} {op : List Int} {As : Option Addr} {cs : Nat} {sg : List Int} {Ab : Option Addr} {Av : Option Addr} {V : List (Int × List Int)} {gb gr : Nat} {D : DataW Unit} {S : List Sn} {Bs : List Nat} {out : Value} {E : List Ev} (h : Nt w W base gl bm Bs0 view turn c s Ao co op As cs sg Ab Av V gb gr D S Bs out E) (hf : Fr (fun _ => False) W W') : Nt w W' base gl bm Bs0 view turn c s Ao co op As cs sg Ab Av V gb gr D S Bs out E :=
  h.step (hf.mono (fun _ e => e.elim)) (h.ld.fr0 hf) (fun b hb => .inl hb)
/-- Blocks of messages are written. -/
theorem LdAt.frM {w w' : World} {base gl bm : Nat} {D : DataW Unit} {S : List Sn} {Bs : List Nat} (h : LdAt w base gl bm D S Bs) {F : Nat → Prop} (hf : Fr F w w') (hF : ∀ k, F k → ∃ cells, w.heap[k]? = some (.cells cells 48 (0, 0))) : LdAt w' base gl bm D S Bs := by
  have hne : ∀ {k : Nat} {cells : Array Value} {t : TypeId} {fr : Nat × Nat}, w.heap[k]? = some (.cells cells t fr) → t ≠ 48 → ¬ F k := fun hc ht e => by
    obtain ⟨cells', hc'⟩ := hF _ e
    rw [hc'] at hc
    injection hc with hc
    injection hc with _ hc _
    exact ht hc.symm
  refine ⟨hf.blk h.head (hne h.head (by decide)), ownsMap_fr h.own hf (fun e => ?_), h.size, h.bl, fun i x b hx hb => ⟨(h.at' i x b hx hb).1, ?_⟩, h.has, h.keys, h.nd, h.ok, h.hgl, h.hbm⟩
  · obtain ⟨cells, hc⟩ := hF _ e
    exact h.bm_no _ _ _ hc
  · obtain ⟨A1, c1, A2, c2, A3, c3, hg, _⟩ := (h.at' i x b hx hb).2
    exact (h.at' i x b hx hb).2.fr hf (hne hg (by decide)) (fun k cells hc => hne hc (by decide))
/-- The evidences' row goes on. -/
theorem Nt.app {w W W' : World} {base gl bm : Nat} {Bs0 : List Nat} {view turn c s : Int} {Ao : Option Addr} {co : Nat} {op : List Int} {As : Option Addr} {cs : Nat} {sg : List Int} {Ab : Option Addr} {Av : Option Addr} {V : List (Int × List Int)} {gb gr : Nat} {D : DataW Unit} {S : List Sn} {Bs : List Nat} {out : Value} {E : List Ev} (h : Nt w W base gl bm Bs0 view turn c s Ao co op As cs sg Ab Av V gb gr D S Bs out E) {out' : Value} {E' : List Ev} (hf : Fr (fun k => some k = out.ownBlock) W W') (hr : EvRow W' w.heap.size out' E') : Nt w W' base gl bm Bs0 view turn c s Ao co op As cs sg Ab Av V gb gr D S Bs out' E' := by
  obtain ⟨_, _, hrow, _⟩ := h.ev
  have ht := row_type hrow
  exact ⟨h.F.trans hf (fun k hk => .inr (ht k hk.symm).1), h.ld.frM hf (fun k hk => (ht k hk.symm).2), h.nb, h.ld0, h.hb0, h.hr0, h.ro0, h.rs0, h.rb0, h.vc0, hr, h.bw⟩
end Go.Proofs.Ytnabilhcmplhcaa.Sha

/-
  ledger.Note: a round of its loop (its frame).
-/
set_option linter.unusedVariables false
set_option linter.unusedSimpArgs false
namespace Go.Proofs.Ytnabilhcmplhcaa.Sha
open Go.RowKit Go.Proofs.YtnabilhcmplhcaaW.PrintWords Go.Proofs.YtnabilhcmplhcaaW.PrintLast Go.Proofs.YtnabilhcmplhcaaW.PrintMore Go.Proofs.Ytnabilhcmplhcaa.Q Go.Proofs.Ytnabilhcmplhcaa.Fr Go.Proofs.Ytnabilhcmplhcaa.Oct
open Go.Maps Go.ChangeMaps

set_option maxRecDepth 100000 in
theorem fm114 {a : Act} (h : Fm 114 a) : a = ⟨#[sl a 0, sl a 1, sl a 2, sl a 3, sl a 4, sl a 5, sl a 6, sl a 7, sl a 8, sl a 9, sl a 10, sl a 11, sl a 12, sl a 13, sl a 14, sl a 15, sl a 16, sl a 17, sl a 18, sl a 19, sl a 20, sl a 21, sl a 22, sl a 23, sl a 24, sl a 25, sl a 26, sl a 27, sl a 28, sl a 29, sl a 30, sl a 31, sl a 32, sl a 33, sl a 34, sl a 35, sl a 36, sl a 37, sl a 38, sl a 39, sl a 40, sl a 41, sl a 42, sl a 43, sl a 44, sl a 45, sl a 46, sl a 47, sl a 48, sl a 49, sl a 50, sl a 51, sl a 52, sl a 53, sl a 54, sl a 55, sl a 56, sl a 57, sl a 58, sl a 59, sl a 60, sl a 61, sl a 62, sl a 63, sl a 64, sl a 65, sl a 66, sl a 67, sl a 68, sl a 69, sl a 70, sl a 71, sl a 72, sl a 73, sl a 74, sl a 75, sl a 76, sl a 77, sl a 78, sl a 79, sl a 80, sl a 81, sl a 82, sl a 83, sl a 84, sl a 85, sl a 86, sl a 87, sl a 88, sl a 89, sl a 90, sl a 91, sl a 92, sl a 93, sl a 94, sl a 95, sl a 96, sl a 97, sl a 98, sl a 99, sl a 100, sl a 101, sl a 102, sl a 103, sl a 104, sl a 105, sl a 106, sl a 107, sl a 108, sl a 109, sl a 110, sl a 111, sl a 112, sl a 113], []⟩ := by
  obtain ⟨T, D⟩ := a
  obtain ⟨h1, h2⟩ := h
  obtain rfl : D = [] := h2
  obtain ⟨l⟩ := T
  have h1 : l.length = 114 := h1
  congr 2
  refine List.ext_getElem? fun i => ?_
  by_cases hi : i < 114
  · have hx : ∀ j, j < 114 → l[j]? = some (sl ⟨⟨l⟩, []⟩ j) := fun j hj => by
      have hl : j < l.length := by omega
      simp [sl, Array.getD_eq_getD_getElem?, List.getElem?_eq_getElem hl]
    rw [hx i hi]
    have : ∀ (s : Nat → Value) (i : Nat), i < 114 → ((List.range 114).map s)[i]? = some (s i) := fun s i hi => by simp [hi]
    exact (this _ i hi).symm
  · have h2 : ∀ (s : Nat → Value), ((List.range 114).map s)[i]? = none := fun s => by simp; omega
    exact (List.getElem?_eq_none (by omega)).trans (h2 _).symm
def Z5p : Array Value := #[.int .i64 0, .int .i64 0, .int .i64 0, .int .i64 0, .int .i64 0]
/-- A step of a region that draws: 'v, ok := m[k]'. -/
theorem wp_lookup_abs {o : Oper} {a : Act} {w : World} {K : Act → World → Prop} {Q : Exit → Act → World → Prop} (m x : Operand) (hop : o.op = Op.lookup 62 m x true) (b n : Nat) (D : DataW Unit) (hm : a.eval m = .map (some b)) (hown : w.ownsMap Try.prog 67 ptrE b n D) (key : Value) (kl : Lit) (hx : a.eval x = key) (hkey : keyOf Try.prog 67 key = some kl)
    (hK : ∀ v ps, ptrE v = some (D.atKey kl zL, ps) → K (a.put o.dst (.tuple #[v, .bool (Maps.has D kl)])) w) : o.wp Try.prog a w K Q := by
  obtain ⟨v, ps, hrun, hv⟩ := hown.look_ok placeLaw undMap (zeroP w) (show ptrE (.pointer none) = some (zL, []) from rfl) hkey
  unfold Oper.wp
  simp [execOp, hop, hm, hx, hrun, Result.andThen]
  exact hK v ps hv
/-- .. 'm[k] = v'. -/
theorem wp_update_abs {o : Oper} {a : Act} {w : World} {K : Act → World → Prop} {Q : Exit → Act → World → Prop} (m x y : Operand) (hop : o.op = Op.mapUpdate 62 m x y) (b n : Nat) (D : DataW Unit) (hm : a.eval m = .map (some b)) (hown : w.ownsMap Try.prog 67 ptrE b n D) (hn : n < maxLen) (key val : Value) (kl : Lit) (hx : a.eval x = key) (hy : a.eval y = val) (hkey : keyOf Try.prog 67 key = some kl) (d : DataW Unit) (ps : List MemPlace) (hval : ptrE val = some (d, ps))
    (hK : ∀ w', w'.ownsMap Try.prog 67 ptrE b (n + 1) (D.put kl d) → Fr (fun k => k = b) w w' → K (a.put o.dst undef) w') : o.wp Try.prog a w K Q := by
  obtain ⟨w', hrun, r1, r2⟩ := hown.store placeLaw undMap hn hkey hval
  unfold Oper.wp
  simp [execOp, hop, hm, hx, hy, hrun, Result.andThen]
  exact hK w' r1 (turned_fr r2)
theorem vsA_len (kind view turn slot : Int) (body : List Int) (signer : Int) : (vsA kind view turn slot body signer).length ≤ 1048576 := by
  have := sgA_len (repK signer) voteS (partsA kind view turn slot body)
  unfold vsA
  omega
theorem vsA_bys (kind view turn slot : Int) (body : List Int) (signer : Int) : Bys (vsA kind view turn slot body signer) := sgA_bys _ _ _
theorem vrA_eq {kind view turn slot : Int} {body : List Int} {signer : Int} {sig : List Int} (h : vrA kind view turn slot body signer sig = true) : sig = vsA kind view turn slot body signer := by
  unfold vrA at h
  simp at h
  exact h.2
theorem vrA_len {kind view turn slot : Int} {body : List Int} {signer : Int} {sig : List Int} (h : vrA kind view turn slot body signer sig = true) : sig.length ≤ 1048576 := by
  rw [vrA_eq h]
  exact vsA_len _ _ _ _ _ _
theorem equal_f' (l0 l1 : List Int) (h0 : Bys l0) (h1 : Bys l1) : bytes_Equal.f l0 l1 = some (decide (l0 = l1)) := by
  unfold bytes_Equal.f
  exact congrArg some (same_iff h0 h1)
theorem equal_yes {c s : Int} {op sg : List Int} {c' s' : Int} {op' sg' : List Int} (h : bodyA c s op sg = bodyA c' s' op' sg') (h1 : Bys op) (h2 : Bys sg) (h3 : Bys op') (h4 : Bys sg') : bytes_Equal.f (bodyA c s op sg) (bodyA c' s' op' sg') = some true := by
  rw [equal_f' _ _ (bodyA_bys h1 h2) (bodyA_bys h3 h4), decide_eq_true h]
theorem equal_no {c s : Int} {op sg : List Int} {c' s' : Int} {op' sg' : List Int} (h : bodyA c s op sg ≠ bodyA c' s' op' sg') (h1 : Bys op) (h2 : Bys sg) (h3 : Bys op') (h4 : Bys sg') : bytes_Equal.f (bodyA c s op sg) (bodyA c' s' op' sg') = some false := by
  rw [equal_f' _ _ (bodyA_bys h1 h2) (bodyA_bys h3 h4), decide_eq_false h]
theorem evid_calls (x : Sn) (hx : x.ok) (X1 : Option Addr) (e1 : Nat) (X2 : Option Addr) (e2 : Nat) (X3 : Option Addr) (e3 : Nat) (c s : Int) (Ao : Option Addr) (co : Nat) (op : List Int) (As : Option Addr) (cs : Nat) (sg : List Int) (A3 : Option Addr) (c3 : Nat) (t : List Int) (w : World) (h1 : Rd w X1 x.op) (l1 : x.op.length ≤ e1) (h2 : Rd w X2 x.sg) (l2 : x.sg.length ≤ e2) (h3 : Rd w X3 x.t) (l3 : x.t.length ≤ e3) (ho : Rd w Ao op) (hco : op.length ≤ co) (hg : Rd w As sg) (hcs : sg.length ≤ cs) (ht : Rd w A3 t) (hc3 : t.length ≤ c3) (lo : op.length + sg.length ≤ 1048576) (lt : t.length ≤ 1048576) :
    Calls Try.prog 27 #[.agg #[.int .i64 x.kind, .int .i64 x.view, .int .i64 x.turn, .int .i64 x.slot, .int .i64 x.signer], .agg #[.int .i64 x.c, .int .i64 x.s, .slice X1 x.op.length e1, .slice X2 x.sg.length e2], .agg #[.int .i64 c, .int .i64 s, .slice Ao op.length co, .slice As sg.length cs], .slice X3 x.t.length e3, .slice A3 t.length c3] w fun e w' => ∃ v, e = .returned v ∧ EvIs w' v (mkEv x c s op sg t) ∧ Below w.heap.size w w' := by
  by_cases hc : 0 < cmpA (bodyA x.c x.s x.op x.sg) (bodyA c s op sg)
  · rw [mkEv, if_pos hc]
    exact evid_swap x.kind x.view x.turn x.slot x.signer x.c x.s X1 e1 x.op X2 e2 x.sg c s Ao co op As cs sg X3 e3 x.t A3 c3 t w h1 l1 h2 l2 hx.lo ho hco hg hcs lo ⟨l3, h3⟩ ⟨hc3, ht⟩ hx.lt lt hc
  · rw [mkEv, if_neg hc]
    exact evid_keep x.kind x.view x.turn x.slot x.signer x.c x.s X1 e1 x.op X2 e2 x.sg c s Ao co op As cs sg X3 e3 x.t A3 c3 t w h1 l1 h2 l2 hx.lo ho hco hg hcs lo ⟨l3, h3⟩ ⟨hc3, ht⟩ hx.lt lt hc
theorem infoM : (Try.prog.info? 48).map (fun i => (i.zero, i.size, i.bytes)) = some (some (.agg Z48), 23, 360) := by kernel_rfl
/-- A step of a region that draws: a message is appended. -/
theorem wp_append_msg {o : Oper} {a : Act} {w : World} {K : Act → World → Prop} {Q : Exit → Act → World → Prop} (s x : Operand) (ho : o.op = .call { callee := .builtin .append, args := #[s, x], argTypes := #[37, 37] }) (base : Nat) (v : Value) (n : Nat) (xs : List Value) (hs : a.eval s = v) (hown : w.ownsRow base 48 23 v n xs) (ad : Addr) (news : List Value) (hx : a.eval x = .slice (some ad) 1 1) (hl : news.length = 23) (hnews : ∀ (j : Nat) (u : Value), news[j]? = some u → w.cell? (ad.add j) = some u) (h1 : ∀ u ∈ news, u.oneCell' = true) (hn : n ≤ 1048576) (hb : base ≤ w.heap.size)
    (h : ∀ v' w', w'.ownsRow base 48 23 v' (n + 1) (xs ++ news) → Fr (fun k => some k = v.ownBlock) w w' → K (a.put o.dst v') w') : o.wp Try.prog a w K Q := by
  obtain ⟨i0, hi0, h0, h2, h3⟩ := info_parts infoM
  obtain ⟨v', w', hr, hq, hg, _, _⟩ := run_append_own_at (P := Try.prog) w base 37 o.type 48 i0 (.agg Z48) 23 360 Try.underlying37 hi0 h0 h2 h3 rfl (by decide) v n xs hown ad 1 1 news hl hnews h1 (by simp only [maxLen]; omega) (by omega) hb
  unfold Oper.wp execOp
  simp only [ho, resolve, invoke, builtin, Sem.run_bind, Sem.run_pure, Result.andThen_ok, List.map_toArray, List.map_cons, List.map_nil, hs, hx, hr]
  exact h v' w' hq (Fr.of_grown hg)
end Go.Proofs.Ytnabilhcmplhcaa.Sha
