/-
  SHA's block: what a block makes of the state.
-/
import Derived.Test.YtgnghgeljlaedaaShaB
import Derived.Test.YtgnghgeljlaedaaShaC
import Derived.Test.YtgnghgeljlaedaaShaD
import Derived.Deep.MidRow
set_option linter.unusedVariables false
set_option linter.unusedSimpArgs false
namespace Go.Proofs.Ytgnghgeljlaedaa.Sha
open Go.RowKit Go.Proofs.YtgnghgeljlaedaaW.PrintWords Go.Proofs.YtgnghgeljlaedaaW.PrintLast Go.Proofs.YtgnghgeljlaedaaW.PrintMore Go.Proofs.Ytgnghgeljlaedaa.Q Go.Proofs.Ytgnghgeljlaedaa.Fr

def KT : Array Value := (encs (Value.int .u32) Ktab).toArray
def ZT : Array Value := (encs (Value.int .u32) (List.replicate 64 0)).toArray
def Z8 : Array Value := (encs (Value.int .u32) (List.replicate 8 0)).toArray
theorem rangeS {w : World} {g : Nat} {xs tl : List Value} {t : TypeId} (h : w.heap[g]? = some (.cells (xs ++ tl).toArray t (0, 0))) : w.rangeAt g 0 xs := fun j v hv => by
  have hj : j < xs.length := (List.getElem?_eq_some_iff.1 hv).1
  have hx : (xs ++ tl)[j]? = some v := by rw [List.getElem?_append_left hj]; exact hv
  simp [World.cell?, h, hx]
theorem KT_one : KT.all (·.oneCell') = true := by decide +kernel
theorem KT_size : KT.size = 64 := by decide +kernel
theorem ZT_size : ZT.size = 64 := by decide +kernel
theorem Z8_size : Z8.size = 8 := by decide +kernel

set_option maxHeartbeats 8000000 in
set_option maxRecDepth 100000 in
theorem block_calls (gs : Nat) (S : List Int) (hS : S.length = 8) (tl : List Value) (ts : TypeId) (ad : Addr) (c1 : Nat) (P : List Int) (w : World)
    (hs : w.heap[gs]? = some (.cells (encs (Value.int .u32) S ++ tl).toArray ts (0, 0))) (hp : ∀ i : Int, 0 ≤ i → i < 64 → w.cell? (ad.add i.toNat) = some (.int .u8 (P.getD i.toNat 0))) :
    Calls Try.prog 37 #[.pointer (some ⟨gs, 0, none⟩), .slice (some ad) 64 c1] w fun e w' => e = .returned (.tuple #[]) ∧ Fr (fun k => k = gs) w w' ∧ w'.heap[gs]? = some (.cells (encs (Value.int .u32) (compress S P) ++ tl).toArray ts (0, 0)) := by
  have HS := Aside0.mk hs
  have HP := Aside0.mk hp
  clear hs hp
  go_enter Try.func37, Try.ntmps37
  go_wp2_with (first | ((with_reducible refine gate_dst (N := 16) rfl ?_); refine wpList_build_abs (by rfl) 67 _ (by rfl) KT (by kernel_rfl) ?_) | ((with_reducible refine gate_dst (N := 4) rfl ?_); refine wpList_alloc_abs (by rfl) 67 (by rfl) (.agg ZT) (by kernel_rfl) ?_; intro w1 hb1 hs1 hg1) | ((with_reducible refine gate_store (p := 4) rfl ?_); refine wpList_store_abs (by rfl) 67 _ _ (by rfl) w.heap.size KT (by rfl) (by rfl) 67 ZT hg1 (by kernel_rfl) (by rw [ZT_size, KT_size]) KT_one ?_; intro w2 hf2 hs2 hg2) | ((with_reducible refine gate_dst (N := 5) rfl ?_); refine wpList_alloc_abs (by rfl) 67 (by rfl) (.agg ZT) (by kernel_rfl) ?_; intro w3 hb3 hs3 hg3))
  have eg2 : w2.heap.size = w.heap.size + 1 := hs2.trans hs1
  have F3 : Fr (fun _ => False) w w3 := (((Fr.of_below hb1 _).trans hf2 (fun i h => .inr (by omega))).trans (Fr.of_below hb3 (fun _ => False)) (fun i h => h.elim))
  have hp3 : ∀ i : Int, 0 ≤ i → i < 64 → w3.cell? (ad.add i.toNat) = some (.int .u8 (P.getD i.toNat 0)) := fun i i0 i1 => F3.cell (HP.out i i0 i1) (fun h => h)
  have hs3 : w3.heap[gs]? = some (.cells (encs (Value.int .u32) S ++ tl).toArray ts (0, 0)) := F3.blk HS.out (fun h => h)
  have lt1 : ad.block < w.heap.size := by have := World.block_lt_of_cell? w _ (HP.out 0 (by omega) (by omega)); rwa [addr_block] at this
  have lt2 : gs < w.heap.size := blk_lt HS.out
  have hk3 : w3.heap[w.heap.size]? = some (.cells KT 67 (0, 0)) := (Fr.of_below hb3 (fun _ => False)).blk hg2 (fun h => h)
  rw [eg2] at hg3
  clear HP HS hb1 hs1 hg1 hf2 hs2 hg2 hb3
  refine loop1 (.pointer (some ⟨gs, 0, none⟩)) ad c1 w.heap.size (w.heap.size + 1) P w3 hp3 (by omega) _ ?_ _ _ ⟨⟨rfl, rfl⟩, rfl, rfl, rfl, rfl, rfl, Fr.refl _ _, hg3⟩
  clear hp3 hg3
  rintro a' w4 ⟨hF, j0, j1, j4, j5, j17, jf, jw⟩
  rw [fm187 hF, j0, j1, j4, j5]
  have F4 : Fr (fun _ => False) w w4 := F3.trans jf (fun i h => .inr (by omega))
  have hs4 := jf.blk hs3 (fun h => by omega)
  have hk4 := jf.blk hk3 (fun h => by omega)
  clear hs3 hk3 F3 jf hF j0 j1 j4 j5 j17
  have HJ := Aside0.mk jw
  have HK := Aside0.mk hk4
  have HS := Aside0.mk hs4
  have HF := Aside0.mk F4
  clear jw hk4 hs4 F4
  go_wp2_with (first | ((with_reducible refine gate_dst (N := 97) rfl ?_); refine wpList_load_mid (by rfl) 53 _ (by rfl) gs 0 (by rfl) (encs (Value.int .u32) S) _ (rangeS HS.out) Try.underlying53 (by rfl) (by rw [encs_len, hS]; kernel_rfl) ?_) | ((with_reducible refine gate_dst (N := 9) rfl ?_); refine wpList_alloc_abs (by rfl) 53 (by rfl) (.agg Z8) (by kernel_rfl) ?_; intro w5 hb5 hs5 hg5) | ((with_reducible refine gate_store (p := 9) rfl ?_); refine wpList_store_abs (by rfl) 53 _ _ (by rfl) w4.heap.size (encs (Value.int .u32) S).toArray (by rfl) (by rfl) 53 Z8 hg5 (by simp only [List.size_toArray, encs_len, hS]; kernel_rfl) (by simp only [List.size_toArray, encs_len, hS, Z8_size]) (by simp [encs, Value.oneCell']) ?_; intro w6 hf6 hs6 hg6))
  have K4 := HK.out
  have lt4 : w.heap.size + 1 < w4.heap.size := blk_lt HJ.out
  have F5 := Fr.of_below hb5 (fun _ => False)
  have hk6 := hf6.blk (F5.blk HK.out (fun h => h)) (fun h => by omega)
  have hj6 := hf6.blk (F5.blk HJ.out (fun h => h)) (fun h => by omega)
  have hs6' := hf6.blk (F5.blk HS.out (fun h => h)) (fun h => by omega)
  have F6 : Fr (fun _ => False) w w6 := (HF.out.trans F5 (fun i h => h.elim)).trans hf6 (fun i h => .inr (by omega))
  have lt6 : w4.heap.size < w6.heap.size := blk_lt hg6
  clear HK HJ HS HF F5 K4 hf6 hs6 hb5 hs5 hg5
  refine loop2 (.pointer (some ⟨gs, 0, none⟩)) w.heap.size (w.heap.size + 1) w4.heap.size Ktab (sched P 64) S 67 67 w6 hS (by decide +kernel) (sched_len _ _) hk6 hj6 (by omega) (by omega) _ ?_ _ _ ⟨⟨rfl, rfl⟩, rfl, rfl, rfl, rfl, rfl, Fr.refl _ _, hg6⟩
  clear hk6 hj6 hg6
  rintro a' w7 ⟨hF, j0, j4, j5, j9, j98, jf, jv⟩
  rw [fm187 hF, j0, j9]
  have hs7 := jf.blk hs6' (fun h => by omega)
  have F7 : Fr (fun _ => False) w w7 := F6.trans jf (fun i h => .inr (by omega))
  clear hs6' F6 jf hF j0 j4 j5 j9 j98
  have HV := Aside0.mk jv
  have HS := Aside0.mk hs7
  have HF := Aside0.mk F7
  clear jv hs7 F7
  go_wp2
  refine loop3 gs w4.heap.size S (rnds Ktab (sched P 64) S 64) tl ts 53 w7 hS ((rnds_len _ _ _ _).trans hS) HV.out (by omega) _ ?_ _ _ ⟨⟨rfl, rfl⟩, rfl, rfl, rfl, Fr.refl _ _, HS.out⟩
  rintro a' w8 ⟨hF, j0, j9, j172, jf, js⟩
  rw [fm187 hF]
  have HR := Aside0.mk (show w8.heap[gs]? = some (.cells (encs (Value.int .u32) (compress S P) ++ tl).toArray ts (0, 0)) from js)
  have HF2 := Aside0.mk ((HF.out.mono (S' := fun k => k = gs) (fun _ h => h.elim)).trans jf (fun i h => .inl h))
  clear js jf hF j0 j9 j172 HS HV HF
  go_wp2
  refine bodyPost_end (results_none rfl _ _ _) rfl ?_
  exact ⟨rfl, HF2.out, HR.out⟩
end Go.Proofs.Ytgnghgeljlaedaa.Sha
