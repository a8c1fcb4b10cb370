/-
  ledger.Cut: the votes of the slots up to one go.
-/
import Derived.Test.YtnabilhcmplhcaaLgM2
import Derived.Lib.SlMapFilter
import Derived.Maps.RangeWalk
import Derived.Deep.LoopGhost
set_option linter.unusedVariables false
set_option linter.unusedSimpArgs false
namespace Go.Proofs.Ytnabilhcmplhcaa.Sha
open Go.RowKit Go.Proofs.YtnabilhcmplhcaaW.PrintWords Go.Proofs.YtnabilhcmplhcaaW.PrintLast Go.Proofs.YtnabilhcmplhcaaW.PrintMore Go.Proofs.Ytnabilhcmplhcaa.Q Go.Proofs.Ytnabilhcmplhcaa.Fr Go.Proofs.Ytnabilhcmplhcaa.Oct
open Go.Maps Go.ChangeMaps

def cutL (slot : Int) (S : List Sn) (Bs : List Nat) : List (Sn × Nat) := (S.zip Bs).filter fun p => decide (slot < p.1.slot)
theorem cutS {slot : Int} : ∀ {S : List Sn} {Bs : List Nat}, Bs.length = S.length → (cutL slot S Bs).map (·.1) = S.filter (fun x => decide (slot < x.slot))
  | [], Bs, _ => by simp [cutL]
  | x :: S, [], h => by simp at h
  | x :: S, b :: Bs, h => by
    have ih := cutS (slot := slot) (S := S) (Bs := Bs) (by simpa using h)
    unfold cutL at ih ⊢
    rw [List.zip_cons_cons, List.filter_cons, List.filter_cons]
    by_cases hd : slot < x.slot
    · rw [if_pos (by simpa using hd), if_pos (by simpa using hd), List.map_cons, ih]
    · rw [if_neg (by simpa using hd), if_neg (by simpa using hd), ih]
theorem cutB_sub {slot : Int} {S : List Sn} {Bs : List Nat} : ∀ b ∈ (cutL slot S Bs).map (·.2), b ∈ Bs := fun b hb => by
  obtain ⟨p, hp, rfl⟩ := List.mem_map.1 hb
  exact (List.of_mem_zip (List.mem_filter.1 hp).1).2
theorem zip_at {S : List Sn} {Bs : List Nat} {x : Sn} {b : Nat} (h : (x, b) ∈ S.zip Bs) : ∃ j : Nat, S[j]? = some x ∧ Bs[j]? = some b := by
  obtain ⟨j, hj, e⟩ := List.getElem_of_mem h
  have h2 : (S.zip Bs)[j]? = some (x, b) := by rw [List.getElem?_eq_getElem hj, e]
  rw [List.getElem?_zip_eq_some] at h2
  exact ⟨j, h2.1, h2.2⟩
theorem own_n {w : World} {R : Value → Option (DataW Unit × List MemPlace)} {b n : Nat} {k : TypeId} {D : DataW Unit} (h : w.ownsMap Try.prog k R b n D) : w.ownsMap Try.prog k R b (Maps.size D) D := by
  obtain ⟨es, clock, hb, F, hs, rfl⟩ := h
  refine ⟨es, clock, hb, F, ?_, rfl⟩
  simp [Maps.size, length_sorted]
open Classical in
noncomputable def pdC (slot : Int) (S : List Sn) (kl : Lit) (_ : DataW Unit) : Bool := decide (∃ x ∈ S, x.key = kl ∧ x.slot ≤ slot)
theorem nodup_key {S : List Sn} (hn : (S.map Sn.key).Nodup) {x y : Sn} (hx : x ∈ S) (hy : y ∈ S) (h : x.key = y.key) : x = y := by
  obtain ⟨i, hi, rfl⟩ := List.getElem_of_mem hx
  obtain ⟨j, hj, rfl⟩ := List.getElem_of_mem hy
  have : i = j := (List.getElem?_inj (by simpa using hi) hn).1 (by simp [hi, hj, h])
  subst this
  rfl
open Classical in
theorem pdC_at {slot : Int} {S : List Sn} (hn : (S.map Sn.key).Nodup) {x : Sn} (hx : x ∈ S) (d : DataW Unit) : pdC slot S x.key d = decide (x.slot ≤ slot) := by
  unfold pdC
  by_cases h : x.slot ≤ slot
  · rw [decide_eq_true h]
    exact decide_eq_true ⟨x, hx, rfl, h⟩
  · rw [decide_eq_false h]
    refine decide_eq_false ?_
    rintro ⟨y, hy, e, h2⟩
    rw [nodup_key hn hy hx e] at h2
    exact h h2
/-- The map without what is cut is the ledger without it. -/
theorem LdAt.cut {w w2 : World} {base gl bm : Nat} {es0 : List (Lit × DataW Unit)} {S : List Sn} {Bs : List Nat} (h : LdAt w base gl bm (.map es0) S Bs) (hap : es0.Pairwise (fun p q => p.1 ≠ q.1)) (hkeys : ∀ p ∈ es0, WideAt.IsKeyLit p.1) (slot : Int) (n : Nat) (hown : w2.ownsMap Try.prog 67 ptrE bm n (Lib.deleteFuncD (pdC slot S) (.map es0))) (hf : Fr (fun k => k = bm) w w2) : LdAt w2 base gl bm (Lib.deleteFuncD (pdC slot S) (.map es0)) ((cutL slot S Bs).map (·.1)) ((cutL slot S Bs).map (·.2)) := by
  have hS : ∀ {y : Sn} {d : Nat}, SnAt w base d y → SnAt w2 base d y := fun {y d} hy => hy.fr hf (h.ne_bm hy) (fun k cells hc e => h.bm_no _ _ _ (e ▸ hc))
  have hperm : (es0.map (·.1)).Perm (S.map Sn.key) := by
    refine (List.perm_ext_iff_of_nodup ?_ h.keys).2 (fun kl => ?_)
    · exact List.pairwise_map.2 hap
    · rw [← h.has kl]
      constructor
      · intro hk
        obtain ⟨p, hp, rfl⟩ := List.mem_map.1 hk
        exact List.any_eq_true.2 ⟨p, hp, WideAt.sameKey_self (hkeys p hp)⟩
      · intro hk
        obtain ⟨p, hp, hpk⟩ := List.any_eq_true.1 hk
        exact List.mem_map.2 ⟨p, hp, WideAt.sameKey_eq hpk⟩
  have hz : ∀ p ∈ cutL slot S Bs, p.1 ∈ S ∧ slot < p.1.slot := fun p hp => by
    have := List.mem_filter.1 hp
    exact ⟨(List.of_mem_zip this.1).1, by simpa using this.2⟩
  have hmem : ∀ x : Sn, x ∈ (cutL slot S Bs).map (·.1) ↔ x ∈ S ∧ slot < x.slot := fun x => by
    rw [cutS h.bl, List.mem_filter]
    simp
  have hsz : (es0.filter fun p => !pdC slot S p.1 p.2).length = ((cutL slot S Bs).map (·.1)).length := by
    rw [cutS h.bl, ← List.countP_eq_length_filter, ← List.countP_eq_length_filter]
    have e1 : List.countP (fun p => !pdC slot S p.1 p.2) es0 = List.countP (fun kl => !pdC slot S kl .nil) (es0.map (·.1)) := by
      rw [List.countP_map]
      exact List.countP_congr (fun p hp => by simp [pdC])
    have e2 : List.countP (fun x : Sn => decide (slot < x.slot)) S = List.countP (fun kl => !pdC slot S kl .nil) (S.map Sn.key) := by
      rw [List.countP_map]
      refine List.countP_congr (fun x hx => ?_)
      simp only [Function.comp, pdC_at h.keys hx]
      simp
    rw [e1, e2, hperm.countP_eq]
  have hin : ∀ {x : Sn}, x ∈ S → slot < x.slot → ∃ p ∈ es0.filter (fun p => !pdC slot S p.1 p.2), p.1 = x.key := fun {x} hx hs => by
    have hk : x.key ∈ es0.map (·.1) := hperm.mem_iff.2 (List.mem_map.2 ⟨x, hx, rfl⟩)
    obtain ⟨p, hp, e⟩ := List.mem_map.1 hk
    refine ⟨p, List.mem_filter.2 ⟨hp, ?_⟩, e⟩
    rw [e, pdC_at h.keys hx]
    simp
    omega
  have hkey : ∀ {x : Sn}, x ∈ S → WideAt.IsKeyLit x.key := fun {x} hx => by
    have hk := h.ok x hx
    exact placeLaw.key (plK_of hk.wk hk.wv hk.wt hk.wl hk.wi)
  have hat : ∀ {x : Sn}, x ∈ S → slot < x.slot → (Lib.deleteFuncD (pdC slot S) (.map es0)).atKey x.key zL = (DataW.map es0).atKey x.key zL := fun {x} hx hs => by
    obtain ⟨p, hp, e⟩ := hin hx hs
    have hp0 := (List.mem_filter.1 hp).1
    have e2 : p = (x.key, p.2) := by rw [← e]
    have h1 := WideAt.atKey_mem zL (hkey hx) (hap.filter _) (by rw [e2] at hp; exact hp)
    have h2 := WideAt.atKey_mem zL (hkey hx) hap (by rw [e2] at hp0; exact hp0)
    exact h1.trans h2.symm
  refine ⟨hf.blk h.head h.ne, ?_, hsz, by simp, ?_, ?_, ?_, ?_, ?_, h.hgl, h.hbm⟩
  · rw [← hsz]
    exact own_n hown
  · intro i x b hx hb
    rw [List.getElem?_map, Option.map_eq_some_iff] at hx hb
    obtain ⟨p, hp, rfl⟩ := hx
    obtain ⟨q, hq, rfl⟩ := hb
    rw [hp] at hq
    obtain rfl : p = q := by simpa using hq
    have hpm := List.mem_of_getElem? hp
    obtain ⟨j, hj, hj2⟩ := zip_at (x := p.1) (b := p.2) (List.mem_filter.1 hpm).1
    have h0 := h.at' j p.1 p.2 hj hj2
    exact ⟨by rw [hat (hz p hpm).1 (hz p hpm).2]; exact h0.1, hS h0.2⟩
  · intro kl
    constructor
    · intro hk
      obtain ⟨p, hp, hpk⟩ := List.any_eq_true.1 hk
      have e := WideAt.sameKey_eq hpk
      obtain ⟨hp0, hp1⟩ := List.mem_filter.1 hp
      have hk2 : p.1 ∈ S.map Sn.key := hperm.mem_iff.1 (List.mem_map.2 ⟨p, hp0, rfl⟩)
      obtain ⟨x, hx, ex⟩ := List.mem_map.1 hk2
      rw [← ex, pdC_at h.keys hx] at hp1
      exact List.mem_map.2 ⟨x, (hmem x).2 ⟨hx, by simpa using hp1⟩, by rw [ex, e]⟩
    · intro hk
      obtain ⟨x, hx, rfl⟩ := List.mem_map.1 hk
      obtain ⟨hx, hs⟩ := (hmem x).1 hx
      obtain ⟨p, hp, e⟩ := hin hx hs
      exact List.any_eq_true.2 ⟨p, hp, by rw [e]; exact WideAt.sameKey_self (hkey hx)⟩
  · rw [cutS h.bl]
    exact h.keys.sublist ((List.filter_sublist).map _)
  · have : (cutL slot S Bs).map (·.2) |>.Sublist Bs := by
      have h1 : ((cutL slot S Bs).map (·.2)).Sublist ((S.zip Bs).map (·.2)) := (List.filter_sublist).map _
      rw [show (S.zip Bs).map (·.2) = Bs from List.map_snd_zip (by rw [h.bl]; exact Nat.le_refl _)] at h1
      exact h1
    exact h.nd.sublist this
  · intro x hx
    exact h.ok x ((hmem x).1 hx).1
def Z5c : Array Value := #[.int .i64 0, .int .i64 0, .int .i64 0, .int .i64 0, .int .i64 0]
set_option maxHeartbeats 8000000 in
set_option maxRecDepth 100000 in
/-- The closure. -/
theorem cut1_calls (a b c d e : Int) (v : Value) (gs : Nat) (slot : Int) (w : World) (h : w.cell? ⟨gs, 0, none⟩ = some (.int .i64 slot)) :
    Calls Try.prog 23 #[.agg #[.int .i64 a, .int .i64 b, .int .i64 c, .int .i64 d, .int .i64 e], v, .pointer (some ⟨gs, 0, none⟩)] w fun ex w' => ex = .returned (.bool (decide (d ≤ slot))) ∧ Below w.heap.size w w' := by
  have hb : gs < w.heap.size := World.block_lt_of_cell? w _ h
  have h1 : (w.alloc (.cells #[.int .i64 a, .int .i64 b, .int .i64 c, .int .i64 d, .int .i64 e] 67)).cell? ⟨gs, 0, none⟩ = some (.int .i64 slot) := by
    rw [World.cell?_alloc_past _ _ _ hb]
    exact h
  have hbl := below_alloc (Below.refl w.heap.size w) (.cells #[.int .i64 a, .int .i64 b, .int .i64 c, .int .i64 d, .int .i64 e] 67)
  go_enter Try.func23, Try.ntmps23
  go_wp2
  go_ret
  exact ⟨rfl, hbl⟩
set_option maxHeartbeats 8000000 in
set_option maxRecDepth 100000 in
/-- maps.DeleteFunc with the closure. -/
theorem delf_calls (w : World) (base gl bm : Nat) (D : DataW Unit) (S : List Sn) (Bs : List Nat) (h : LdAt w base gl bm D S Bs) (gs : Nat) (slot : Int) (hc : w.cell? ⟨gs, 0, none⟩ = some (.int .i64 slot)) (hgs : gs ≠ bm) :
    Calls Try.prog 22 #[.map (some bm), .func (.func 23) #[] #[.pointer (some ⟨gs, 0, none⟩)]] w fun e w' => e = .returned (.tuple #[]) ∧ (∃ D', LdAt w' base gl bm D' ((cutL slot S Bs).map (·.1)) ((cutL slot S Bs).map (·.2))) ∧ Fr (fun k => k = bm) w w' := by
  have hown := h.own
  obtain ⟨es0, hD, hap, hkeys⟩ := hown.entries placeLaw
  rw [hD] at h hown
  have HL := Aside0.mk (And.intro h (And.intro hap hkeys))
  have hlen := S.length
  obtain ⟨n, hn⟩ : ∃ n, S.length = n := ⟨_, rfl⟩
  rw [hn] at hown
  have hgb := World.block_lt_of_cell? w _ hc
  have HC := Aside0.mk (And.intro hc hgb)
  clear h hap hkeys hn hc hgb hlen
  go_enter Try.func22, Try.ntmps22
  go_wp2_with (first
    | (at_range; refine wpList_range_own _ rfl _ 62 rfl 67 68 placeLaw undMap ptrE bm n _ rfl hown ?_; intro w0 hrg0 hg0 hs0)
    | go_in)
  try go_frame
  go_loopw [8] (fun _ wr => ∃ (left : Lit → Bool) (cnt : Nat), wr.ranges Try.prog 67 ptrE bm w.heap.size n (Fk (pdC slot S) es0 left) left cnt ∧ w.grownBy wr (some bm) ∧ ∀ kl, left kl = true → Maps.has (.map es0) kl = true)
    (fun _ wr => wr.rangeLeft bm w.heap.size)
  case atStart => exact ⟨_, _, by rw [Fk_start HL.out.2.2]; exact hrg0, hg0.but _, fun _ h => h⟩
  case round =>
    obtain ⟨left, cnt, hrg, hgw, hlf⟩ := hrel
    go_wp2_with (first
      | (at_next; refine wpList_next_ranges _ rfl _ rfl 67 placeLaw ptrE id id (fun key _ _ => ⟨key, rfl⟩) (fun v _ _ => ⟨v, rfl⟩) bm w.heap.size n _ _ _ rfl hrg ?_ ?_)
      | go_in)
    · intro _ hl0
      go_wp2
      go_end0
      have hf : Fr (fun k => k = bm) w _ := (Fr.of_grown hgw).mono (fun k e => by simpa using e)
      refine ⟨rfl, ⟨_, HL.out.1.cut HL.out.2.1 HL.out.2.2 slot n (by rw [← Fk_end hl0]; exact hrg.owns) hf⟩, hf⟩
    · intro key c kl yd yp w1 cnt1 hkey hlx hv hat hrg1 hlt hg1 hs1 hen
      have hgw1 := hgw.andThen hg1 (fun j hj => by cases hj; exact Or.inl (Nat.le_refl _))
      have hsk := (HL.out.1.has kl).1 (hlf kl hlx)
      obtain ⟨x, hx, rfl⟩ := List.mem_map.1 hsk
      have hxo := HL.out.1.ok x hx
      obtain rfl : Value.agg #[.int .i64 x.kind, .int .i64 x.view, .int .i64 x.turn, .int .i64 x.slot, .int .i64 x.signer] = key := placeLaw.inj (plK_of hxo.wk hxo.wv hxo.wt hxo.wl hxo.wi) hkey
      have hpd := pdC_at (slot := slot) HL.out.1.keys hx yd
      have HG := Aside0.mk (And.intro hgw1 (And.intro hkey (And.intro hlx (And.intro hat (And.intro hlf (And.intro hlt hrg))))))
      have HR1 := Aside0.mk hrg1
      have hgs1 : w1.cell? ⟨gs, 0, none⟩ = some (.int .i64 slot) := (World.cell?_of_block (hgw1.block gs HC.out.2 (fun e => hgs (by simpa using e)))).trans HC.out.1
      have HGS := Aside0.mk hgs1
      clear hgw1 hkey hlx hat hlf hlt hrg hrg1 hgw hg1 hs1 hsk
      go_wp2_with (first
        | ((with_reducible refine gate_dst (N := 4) rfl ?_); refine wpList_alloc_abs (by rfl) 67 (by rfl) (.agg Z5c) (by kernel_rfl) ?_; intro w5 hb5 hs5 hg5)
        | ((with_reducible refine gate_store (p := 4) rfl ?_); refine Aside0.out ?_))
      refine ⟨?_⟩
      refine wpList_store_abs (by rfl) 67 _ _ (by rfl) w1.heap.size #[.int .i64 x.kind, .int .i64 x.view, .int .i64 x.turn, .int .i64 x.slot, .int .i64 x.signer] (by rfl) (by rfl) 67 Z5c hg5 (by kernel_rfl) (by rfl) (by simp [Value.oneCell']) ?_
      intro w6 hf6 hs6 hg6
      have F6 : Fr (fun _ => False) w1 w6 := (Fr.of_below hb5 (fun _ => False)).trans hf6 (fun k hk => .inr (by omega))
      have y : w6.cell? ⟨w1.heap.size, 0, none⟩ = some (.int .i64 x.kind) ∧ w6.cell? ⟨w1.heap.size, 1, none⟩ = some (.int .i64 x.view) ∧ w6.cell? ⟨w1.heap.size, 2, none⟩ = some (.int .i64 x.turn) ∧ w6.cell? ⟨w1.heap.size, 3, none⟩ = some (.int .i64 x.slot) ∧ w6.cell? ⟨w1.heap.size, 4, none⟩ = some (.int .i64 x.signer) := by simp [World.cell?, hg6]
      obtain ⟨y0, y1, y2, y3, y4⟩ := y
      have H6 := Aside0.mk (And.intro F6 hg6)
      clear hb5 hs5 hg5 hf6 hs6 hg6 F6 hgs1
      go_wp2_with (fail)
      refine (cut1_calls x.kind x.view x.turn x.slot x.signer c gs slot w6 (H6.out.1.cell HGS.out (fun e => e))).mono ?_
      rintro e w7 ⟨rfl, hb7⟩
      have F7 := H6.out.1.then_below hb7
      have hg7 := (Fr.of_below hb7 (fun _ => False)).blk H6.out.2 (fun e => e)
      clear y0 y1 y2 y3 y4
      have y : w7.cell? ⟨w1.heap.size, 0, none⟩ = some (.int .i64 x.kind) ∧ w7.cell? ⟨w1.heap.size, 1, none⟩ = some (.int .i64 x.view) ∧ w7.cell? ⟨w1.heap.size, 2, none⟩ = some (.int .i64 x.turn) ∧ w7.cell? ⟨w1.heap.size, 3, none⟩ = some (.int .i64 x.slot) ∧ w7.cell? ⟨w1.heap.size, 4, none⟩ = some (.int .i64 x.signer) := by simp [World.cell?, hg7]
      obtain ⟨y0, y1, y2, y3, y4⟩ := y
      have hg17 : w1.grownBy w7 none := ⟨F7.os, F7.tape, F7.output, F7.size, fun i hi _ => F7.block i hi (fun e => e)⟩
      have hrg7 := HR1.out.kept hg17 (by simp) (by simp)
      have hgw7 := HG.out.1.andThen hg17 (fun j hj => by cases hj)
      have HGW := Aside0.mk hgw7
      have HM := Aside0.mk hg17
      clear hb7 F7 hg7 hg17 hgw7 H6
      by_cases hd : x.slot ≤ slot
      · have cd : decide (x.slot ≤ slot) = true := decide_eq_true hd
        rw [cd] at hpd
        have HP := Aside0.mk hpd
        clear hpd hd
        go_wp2_with (first
          | (at_delete; refine wpList_delete_ranges _ rfl _ _ 62 67 rfl 68 placeLaw undMap ptrE bm w.heap.size n _ _ _ rfl hrg7 _ _ rfl HG.out.2.1 ?_; intro w8 cnt8 hrg8 hle hturn; go_frame)
          | go_in)
        rw [strike_twice] at hrg8
        go_roundw
        case rel => exact ⟨_, cnt8, by rw [← Fk_struck HL.out.2.1 (placeLaw.key HG.out.2.1) HG.out.2.2.1 HP.out HG.out.2.2.2.1]; exact hrg8, HGW.out.andThen hturn.grown (fun j hj => by cases hj; exact Or.inr rfl), fun kl h => HG.out.2.2.2.2.1 kl (by simp at h; exact h.1)⟩
        case measure =>
          rw [hrg8.left_eq, HG.out.2.2.2.2.2.2.left_eq]
          exact Nat.lt_of_le_of_lt hle HG.out.2.2.2.2.2.1
      · have cd : decide (x.slot ≤ slot) = false := decide_eq_false hd
        rw [cd] at hpd
        have HP := Aside0.mk hpd
        clear hpd hd
        go_wp2
        go_roundw
        case rel => exact ⟨_, cnt1, by rw [← Fk_stays HL.out.2.1 (placeLaw.key HG.out.2.1) HG.out.2.2.1 HP.out HG.out.2.2.2.1]; exact hrg7, HGW.out, fun kl h => HG.out.2.2.2.2.1 kl (by simp at h; exact h.1)⟩
        case measure =>
          rw [hrg7.left_eq, HG.out.2.2.2.2.2.2.left_eq]
          exact HG.out.2.2.2.2.2.1
set_option maxHeartbeats 8000000 in
set_option maxRecDepth 100000 in
/-- ledger.Cut. -/
theorem lcut_calls (w : World) (base gl bm : Nat) (D : DataW Unit) (S : List Sn) (Bs : List Nat) (h : LdAt w base gl bm D S Bs) (slot : Int) :
    Calls Try.prog 10 #[.pointer (some ⟨gl, 0, none⟩), .int .i64 slot] w fun e w' => e = .returned (.tuple #[]) ∧ (∃ D', LdAt w' base gl bm D' ((cutL slot S Bs).map (·.1)) ((cutL slot S Bs).map (·.2))) ∧ Fr (fun k => k = bm) w w' := by
  have hmf : ∀ (fn : Fn) (first cap : Array Value) (w : World), (Instr.makeFunc fn first cap).run Try.prog w = .ok (.func fn first cap) w := fun _ _ _ _ => rfl
  have hbx := below_alloc (Below.refl w.heap.size w) (.cells #[.int .i64 slot] 3)
  have hgx := heap_alloc_new w (.cells #[.int .i64 slot] 3)
  have fx := Fr.of_below hbx (fun _ => False)
  have hc : (w.alloc (.cells #[.int .i64 slot] 3)).cell? ⟨gl, 0, none⟩ = some (.map (some bm)) := by simp [World.cell?, fx.blk h.head (fun e => e)]
  have HH := Aside0.mk (And.intro (h.fr0 fx) (And.intro hgx (And.intro fx (show w.heap.size ≠ bm by
    have := h.own.lt
    omega))))
  clear hbx hgx fx h
  go_enter Try.func10, Try.ntmps10
  go_wp2_with (fail)
  generalize w.alloc (.cells #[.int .i64 slot] 3) = w2 at *
  refine (delf_calls w2 base gl bm D S Bs HH.out.1 w.heap.size slot (by simp [World.cell?, HH.out.2.1]) HH.out.2.2.2).mono ?_
  rintro e w3 ⟨rfl, hL, hf⟩
  have H3 := Aside0.mk (And.intro hL hf)
  clear hL hf hc
  go_wp2
  go_end0
  exact ⟨rfl, H3.out.1, (HH.out.2.2.1.mono (fun _ e => e.elim)).trans H3.out.2 (fun k hk => .inl hk)⟩
end Go.Proofs.Ytnabilhcmplhcaa.Sha
