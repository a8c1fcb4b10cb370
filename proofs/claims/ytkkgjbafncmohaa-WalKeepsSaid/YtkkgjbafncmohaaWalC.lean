/-
  A log's example.
-/
import Derived.Test.YtkkgjbafncmohaaWalB
import Derived.Laws.IdiomStrings
set_option linter.unusedVariables false
set_option linter.unusedSimpArgs false
namespace Go.Proofs.Ytkkgjbafncmohaa.Sha
open Go.RowKit Go.Proofs.YtkkgjbafncmohaaW.PrintWords Go.Proofs.YtkkgjbafncmohaaW.PrintLast Go.Proofs.YtkkgjbafncmohaaW.PrintMore Go.Proofs.Ytkkgjbafncmohaa.Q Go.Proofs.Ytkkgjbafncmohaa.Fr Go.Proofs.Ytkkgjbafncmohaa.Oct

theorem bytesA_small {p : List Int} (h : p.length < 128) : bytesA p = (p.length : Int) :: p := by
  unfold bytesA
  rw [intA_yes (by omega), Int.toNat_natCast, encI_small h]
  rfl
/-- A log beside what was there. -/
structure Lk (w W : World) (gl g : Nat) (bv : Value) (d : Dsk) : Prop where
  dk : Dk w W g bv d
  log : LogAt W gl g
  far : ¬ Fp g bv gl
  new : w.heap.size ≤ gl
theorem Lk.call {w W W' : World} {gl g : Nat} {bv bv' : Value} {d d' : Dsk} (h : Lk w W gl g bv d) (hf : Fr (Fp g bv) W W') (ha : DiskAt W' w.heap.size g bv' d') (hn : ∀ k, Fp g bv' k → Fp g bv k ∨ W.heap.size ≤ k) : Lk w W' gl g bv' d' :=
  ⟨h.dk.call hf ha, h.log.fr hf h.far, fun e => (hn _ e).elim h.far (fun e => by have := blk_lt h.log; omega), h.new⟩
theorem Lk.call1 {w W W' : World} {gl g : Nat} {bv : Value} {d d' : Dsk} (h : Lk w W gl g bv d) (hf : Fr (fun k => k = g) W W') (ha : DiskAt W' w.heap.size g bv d') : Lk w W' gl g bv d' :=
  h.call (hf.mono (fun i e => .inl e)) ha (fun k hk => .inl hk)
theorem Lk.below {w W W' : World} {gl g : Nat} {bv : Value} {d : Dsk} (h : Lk w W gl g bv d) (hb : Below W.heap.size W W') : Lk w W' gl g bv d :=
  ⟨h.dk.below hb, h.log.fr (Fr.of_below hb (fun _ => False)) (fun h => h), h.far, h.new⟩

theorem open_nil (d : Dsk) (h : d.dead = false) (hb : d.bytes = []) : d.open = (d, [], 0) := by
  have hs : scanA d.bytes = ([], 0) := by rw [hb]; rfl
  unfold Dsk.open
  rw [if_neg (by rw [h]; decide), hs, hb, if_neg (by simp)]
theorem alive_scan : scanA [1, 120, 2] = ([[120]], 2) := by
  have e : ([1, 120, 2] : List Int) = packA [[120]] ++ (bytesA [121, 122]).take 1 := by
    rw [packA_cons, packA_nil, bytesA_small (by decide), bytesA_small (by decide)]
    rfl
  have e2 : (packA [[120]]).length = 2 := by
    rw [packA_cons, packA_nil, bytesA_small (by decide)]
    rfl
  have hB : Bys (packA [[120]] ++ (bytesA [121, 122]).take 1) := by
    rw [← e]
    unfold Bys
    decide
  rw [e, scanA_pack [[120]] _ (torn_take [121, 122] (by decide) 1 (by rw [bytesA_small (by decide)]; decide)) (by simp) hB (by rw [← e]; decide), e2]
set_option maxHeartbeats 8000000 in
set_option maxRecDepth 100000 in
theorem walive_calls (w : World) : Calls Try.prog 7 #[] w fun e w' => e = .returned (.bool true) ∧ Below w.heap.size w w' := by
  go_enter Try.func7, Try.ntmps7
  go_wp2_with (fail)
  refine (dnew_calls 100 w).mono ?_
  rintro e w1 ⟨g, rfl, hD1, hb1⟩
  have H1 := Aside0.mk (Dk.new (Fr.refl _ _) hD1 hb1)
  clear hD1 hb1
  go_wp2_with (fail)
  have ho := open_calls g w.heap.size _ _ w1 H1.out.at' H1.out.F.size (by show Bys []; exact Bys.nil) (by decide) (by decide)
  rw [open_nil (dsk0 100) rfl rfl] at ho
  refine ho.mono ?_
  clear ho
  rintro e w2 ⟨pv, rv, A2, c2, rfl, rfl, hc2, hC2, hp1, hp2, hf2, bv2, hD2, hn2, ha2⟩
  obtain ⟨gl, rfl, hgl, hL⟩ := hp2 rfl
  have H2 := Aside0.mk (Lk.mk (H1.out.call hf2 hD2) hL (ha2 gl rfl) (Nat.le_trans H1.out.F.size hgl))
  clear H1 hC2 hp1 hp2 hf2 hD2 hn2 ha2 hgl hL
  go_wp2_with (first | ((with_reducible refine gate_dst (N := 28) rfl ?_); refine wpList_constb rfl [120] (by rfl) (fun _ => by rfl) (by first | (go_simp; done) | (go_simp; rfl) | (go_simp; exact ⟨rfl, rfl⟩)) _ (by rfl) (fun _ => rfl) ?_; intro g3 v3 w3 hr3 hb3 hg3 hg3'))
  have h3 := H2.out.below hb3
  have e3 : (dsk0 100).app (bytesA [120]) = (0, ⟨[1, 120], 100, false, false, -1, 0⟩) := by rw [bytesA_small (by decide)]; kernel_rfl
  refine (add_calls gl g w.heap.size bv2 _ (some ⟨g3, 0, none⟩) 1 [120] w3 h3.log h3.far h3.dk.at' h3.dk.F.size hr3 (by decide) (by decide) (by decide) (by decide)).mono ?_
  rintro e w4 ⟨rfl, hf4, bv4, hD4, hn4⟩
  rw [e3] at hD4 ⊢
  have H4 := Aside0.mk (h3.call hf4 hD4 hn4)
  clear H2 h3 e3 hf4 hD4 hn4 hr3 hb3
  go_wp2_with (fail)
  refine (break_calls g w.heap.size bv4 _ 0 1 w4 H4.out.dk.at').mono ?_
  rintro e w5 ⟨rfl, hf5, hD5⟩
  have H5 := Aside0.mk (H4.out.call1 hf5 hD5)
  clear H4 hf5 hD5
  go_wp2_with (first | ((with_reducible refine gate_dst (N := 36) rfl ?_); refine wpList_constb rfl [121, 122] (by rfl) (fun _ => by rfl) (by first | (go_simp; done) | (go_simp; rfl) | (go_simp; exact ⟨rfl, rfl⟩)) _ (by rfl) (fun _ => rfl) ?_; intro g6 v6 w6 hr6 hb6 hg6 hg6'))
  have h6 := H5.out.below hb6
  have e6 : (Dsk.brk ⟨[1, 120], 100, false, false, -1, 0⟩ 0 1).app (bytesA [121, 122]) = (115, ⟨[1, 120, 2], 100, true, true, 0, 1⟩) := by rw [bytesA_small (by decide)]; kernel_rfl
  refine (add_calls gl g w.heap.size bv4 _ (some ⟨g6, 0, none⟩) 2 [121, 122] w6 h6.log h6.far h6.dk.at' h6.dk.F.size hr6 (by decide) (by decide) (by decide) (by decide)).mono ?_
  rintro e w7 ⟨rfl, hf7, bv7, hD7, hn7⟩
  rw [e6] at hD7 ⊢
  have H7 := Aside0.mk (h6.call hf7 hD7 hn7)
  clear H5 h6 e6 hf7 hD7 hn7 hr6 hb6
  go_wp2_with (fail)
  refine (mend_calls g w.heap.size bv7 _ w7 H7.out.dk.at').mono ?_
  rintro e w8 ⟨rfl, hf8, hD8⟩
  have H8 := Aside0.mk (H7.out.call1 hf8 hD8)
  clear H7 hf8 hD8
  go_wp2_with (fail)
  have e9 : (Dsk.mend ⟨[1, 120, 2], 100, true, true, 0, 1⟩).open = (⟨[1, 120], 100, false, false, -1, 0⟩, [[120]], 0) := by
    show (⟨[1, 120, 2], 100, false, false, 0, 0⟩ : Dsk).open = _
    unfold Dsk.open
    rw [alive_scan]
    rfl
  have ho := open_calls g w.heap.size _ _ w8 H8.out.dk.at' H8.out.dk.F.size (by show Bys [1, 120, 2]; unfold Bys; decide) (by decide) (by decide)
  rw [e9] at ho
  refine ho.mono ?_
  clear ho e9
  rintro e w9 ⟨pv9, rv9, A9, c9, rfl, rfl, hc9, hC9, hp1, hp2, hf9, bv9, hD9, hn9, ha9⟩
  have H9 := Aside0.mk (H8.out.dk.call hf9 hD9)
  obtain ⟨ad9, B9, k9, rfl, hcell9, hk9, hr9⟩ := hC9.get 0 (by decide)
  have hr9' : Rd w9 B9 [120] := hr9
  obtain ⟨bd, rfl, _⟩ := hr9' 0 (.int .u8 120) rfl
  have hcell9' : w9.cell? (ad9.add 0) = some (.slice (some bd) 1 k9) := hcell9
  have hcell0 : w9.cell? ad9 = some (.slice (some bd) 1 k9) := by rw [← hcell9', show ad9.add 0 = ad9 from by unfold Addr.add; split <;> simp_all]
  have kr := run_convert_bytes_back (P := Try.prog) w9 22 9 5 bd k9 [120] Try.underlying22 Try.underlying5 Try.underlying9 (fun j hj => by
    have hj0 : j = 0 := by simpa using hj
    subst hj0
    obtain ⟨ad, e, h⟩ := hr9' 0 (.int .u8 120) rfl
    cases e
    exact h)
  rw [show ([120] : List UInt8).length = 1 from rfl] at kr
  clear hcell9 hr9 hr9' hk9 hC9 hp1 hp2 hf9 hD9 hn9 ha9
  go_wp2_with (fail)
  refine (bytes_calls g w.heap.size bv9 _ w9 H9.out.at').mono ?_
  rintro e w10 ⟨v10, rfl, hO10, hb10⟩
  have hO10 : OB w10 w9.heap.size v10 [1, 120] := hO10
  obtain ⟨A10, c10, rfl, hc10⟩ := hO10.slice
  have H10 := Aside0.mk (H9.out.below hb10)
  clear H9 hO10 hb10 kr hcell9' hcell0
  rw [show ([1, 120] : List Int).length = 2 from rfl]
  go_wp2
  go_ret
  exact ⟨by first | rfl | simp, H10.out.F.below _ (Nat.le_refl _) (fun i h => h.elim)⟩
end Go.Proofs.Ytkkgjbafncmohaa.Sha
