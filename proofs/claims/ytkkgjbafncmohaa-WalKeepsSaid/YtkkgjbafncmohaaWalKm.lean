/-
  WalKeeps, its walk: nothing that was written is lost.
-/
import Derived.Test.YtkkgjbafncmohaaWalK
set_option linter.unusedVariables false
set_option linter.unusedSimpArgs false
namespace Go.Proofs.Ytkkgjbafncmohaa.Sha
open Go.RowKit Go.Proofs.YtkkgjbafncmohaaW.PrintWords Go.Proofs.YtkkgjbafncmohaaW.PrintLast Go.Proofs.YtkkgjbafncmohaaW.PrintMore Go.Proofs.Ytkkgjbafncmohaa.Q Go.Proofs.Ytkkgjbafncmohaa.Fr Go.Proofs.Ytkkgjbafncmohaa.Oct

theorem open_packs (d : Dsk) (L : List (List Int)) (h : d.dead = false) (hb : d.bytes = packA L) (hB : ∀ x ∈ L, Bys x) (hx : ∀ x ∈ L, x.length ≤ 2147483647) (hl : (packA L).length ≤ 4194304) : d.open = (d, L, 0) := by
  have hs : scanA d.bytes = (L, (packA L).length) := by
    have := scanA_pack L [] torn_nil hx (by rw [List.append_nil]; exact packA_bys hB) (by rw [List.append_nil]; omega)
    rw [List.append_nil] at this
    rw [hb]
    exact this
  unfold Dsk.open
  rw [if_neg (by rw [h]; decide), hs, hb, if_neg (by simp)]
def moreB : List Int := [109, 111, 114, 101]
set_option maxHeartbeats 8000000 in
set_option maxRecDepth 100000 in
theorem keeps_calls (A : Option Addr) (c : Nat) (L : List (List Int)) (at_ tear : Int) (w : World) (hC : CC w A L) (hc : L.length ≤ c) (hL : L.length ≤ 4611686018427387904) (hbs : ∀ x ∈ L, x.length ≤ 140737488351232) (hB : ∀ x ∈ L, Bys x) (hat : -9223372036854775808 ≤ at_ ∧ at_ ≤ 9223372036854775807) :
    Calls Try.prog 4 #[.slice A L.length c, .int .i64 at_, .int .i64 tear] w fun e w' => e = .returned (.bool true) ∧ Below w.heap.size w w' := by
  have HC := Aside0.mk (And.intro hC (And.intro hL (And.intro hbs (And.intro hB hat))))
  clear hC hL hbs hB hat
  go_enter Try.func4, Try.ntmps4
  go_wp2_with (fail)
  refine (walive_calls w).mono ?_
  rintro e w1 ⟨rfl, hb1⟩
  have H1 := Aside0.mk (Fr.of_below hb1 (fun _ => False))
  clear hb1
  go_wp2
  refine loopQ1 (.slice A L.length c) (.int .i64 at_) (.int .i64 tear) A c L (by have := HC.out; omega) HC.out.2.2.1 w1 (HC.out.1.fr H1.out) _ ?_ ?_ _ ⟨⟨rfl, rfl⟩, rfl, rfl, rfl, rfl, rfl, rfl, rfl⟩
  · intro a' hF h6
    rw [fm151 hF, h6]
    go_ret
    exact ⟨rfl, H1.out.below _ (Nat.le_refl _) (fun i h => h.elim)⟩
  intro hs a' hF j0 j1 j2
  rw [fm151 hF, j0, j1, j2]
  have HS := Aside0.mk hs
  clear hF j0 j1 j2 hs
  go_wp2_with (fail)
  refine (dnew_calls 4194304 w1).mono ?_
  rintro e w2 ⟨g, rfl, hD2, hb2⟩
  have H2 := Aside0.mk (Dk.new H1.out hD2 hb2)
  clear H1 hD2 hb2
  go_wp2_with (fail)
  have hop := open_calls g w.heap.size _ _ w2 H2.out.at' H2.out.F.size (by show Bys []; exact Bys.nil) (by decide) (by decide)
  rw [open_nil (dsk0 4194304) rfl rfl] at hop
  refine hop.mono ?_
  clear hop
  rintro e w3 ⟨pv, rv, A3, c3, rfl, rfl, hc3, hC3, hp1, hp2, hf3, bv3, hD3, hn3, ha3⟩
  obtain ⟨gl, rfl, hgl, hLg⟩ := hp2 rfl
  have H3 := Aside0.mk (Lk.mk (H2.out.call hf3 hD3) hLg (ha3 gl rfl) (Nat.le_trans H2.out.F.size hgl))
  clear H2 hC3 hp1 hp2 hf3 hD3 hn3 ha3 hgl hLg
  go_wp2_with (fail)
  refine (break_calls g w.heap.size bv3 _ at_ tear w3 H3.out.dk.at').mono ?_
  rintro e w4 ⟨rfl, hf4, hD4⟩
  have e4 : Dsk.brk (dsk0 4194304) at_ tear = kpD L at_ tear 0 := by
    show Dsk.mk _ _ _ _ _ _ = Dsk.mk _ _ _ _ _ _
    congr 1
    show max 0 at_ = max 0 at_ - ((0 : Nat) : Int)
    omega
  rw [e4] at hD4
  have H4 := Aside0.mk (H3.out.call1 hf4 hD4)
  clear H3 hf4 hD4 e4
  go_wp2
  refine loopK2 (.slice A L.length c) (.int .i64 at_) (.int .i64 tear) (.pointer (some ⟨g, 0, none⟩)) A c L HC.out.2.1 HS.out at_ tear HC.out.2.2.2.2.2 w HC.out.1 HC.out.2.2.2.1 gl g _ ?_ _ w4 bv3 ⟨⟨rfl, rfl⟩, rfl, rfl, rfl, rfl, rfl, rfl, rfl, rfl, rfl, H4.out⟩
  clear H4
  intro a' w5 bv5 d5 T M t hF j0 j1 j2 j10 j11 j14 hLk hKJ
  rw [fm151 hF, j0, j1, j2, j10, j11, j14]
  have H5 := Aside0.mk (And.intro hLk.dk hKJ)
  clear hF j0 j1 j2 j10 j11 j14 hLk hKJ
  go_wp2
  refine loopK3 A c L hc HC.out.2.1 w HC.out.1 HC.out.2.2.2.1 HS.out g _ ?_ _ w5 bv5 d5 T M t ⟨⟨rfl, rfl⟩, rfl, rfl, rfl, rfl, H5.out.1, H5.out.2⟩
  clear H5
  intro a' w6 gl6 bv6 d6 M6 hF j10 j11 j14 hLk hKJ hdd hset hw1 hw2
  rw [fm151 hF, j10, j11, j14]
  have H6 := Aside0.mk (And.intro hLk (And.intro hKJ (And.intro hdd (And.intro hset (And.intro hw1 hw2)))))
  clear hF j10 j11 j14 hLk hKJ hdd hset hw1 hw2
  go_wp2_with (first | ((with_reducible refine gate_dst (N := 128) rfl ?_); refine wpList_constb rfl moreB (by rfl) (fun _ => by rfl) (by first | (go_simp; done) | (go_simp; rfl) | (go_simp; exact ⟨rfl, rfl⟩)) _ (by rfl) (fun _ => rfl) ?_; intro g7 v7 w7 hr7 hb7 hg7 hg7'))
  have h7 := H6.out.1.below hb7
  have hsz := H6.out.2.1.sz
  have hbytes := H6.out.2.1.bytes
  rw [List.append_nil] at hsz hbytes
  have hbm : (bytesA moreB).length = 5 := by rw [bytesA_small (by decide)]; rfl
  have e8 : d6.app (bytesA moreB) = (0, { d6 with bytes := d6.bytes ++ bytesA moreB, writes := d6.writes - 1 }) := Dsk.app_ok _ _ H6.out.2.2.1 (by rw [H6.out.2.1.room, hbytes, hbm]; omega) (by rw [H6.out.2.2.2.1]; simp)
  have hwb := H6.out.2.2.2.2
  have had := add_calls gl6 g w.heap.size bv6 d6 (some ⟨g7, 0, none⟩) moreB.length moreB w7 h7.log h7.far h7.dk.at' h7.dk.F.size hr7 (Nat.le_refl _) (by decide) (by omega) (by omega)
  rw [e8] at had
  refine had.mono ?_
  clear had
  rintro e w8 ⟨rfl, hf8, bv8, hD8, hn8⟩
  have eb : d6.bytes ++ bytesA moreB = packA (L.take M6 ++ [moreB]) := by rw [hbytes, packA_append, packA_cons, packA_nil, List.append_nil]
  rw [eb] at hD8
  have hmB : Bys moreB := by unfold Bys moreB; decide
  have hBm : ∀ x ∈ L.take M6 ++ [moreB], Bys x := fun x hx => by
    rcases List.mem_append.1 hx with hx | hx
    · exact HC.out.2.2.2.1 x (List.mem_of_mem_take hx)
    · rw [List.mem_singleton.1 hx]; exact hmB
  have hxm : ∀ x ∈ L.take M6 ++ [moreB], x.length ≤ 2147483647 := fun x hx => by
    rcases List.mem_append.1 hx with hx | hx
    · have := tot_mem (List.mem_of_mem_take hx); have := HS.out; omega
    · rw [List.mem_singleton.1 hx]; decide
  have hpl : (packA (L.take M6 ++ [moreB])).length ≤ 4194304 := by rw [← eb, List.length_append, hbytes, hbm]; omega
  have hlm : (L.take M6 ++ [moreB]).length = M6 + 1 := by have := H6.out.2.1.ln; rw [List.length_append, List.length_take, List.length_singleton]; omega
  have hgd : (L.take M6 ++ [moreB]).getD M6 [] = moreB := by
    have : (L.take M6).length = M6 := by have := H6.out.2.1.ln; rw [List.length_take]; omega
    rw [List.getD_eq_getElem?_getD, List.getElem?_append_right (by omega), this]
    simp
  have ho8 := open_packs { d6 with bytes := packA (L.take M6 ++ [moreB]), writes := d6.writes - 1 } (L.take M6 ++ [moreB]) H6.out.2.2.1 rfl hBm hxm hpl
  have hlnM := H6.out.2.1.ln
  have H8 := Aside0.mk (And.intro (h7.call hf8 hD8 hn8) (And.intro ho8 (And.intro (packA_bys hBm) (And.intro hlm (And.intro hgd (And.intro hwb hlnM))))))
  clear H6 h7 hr7 hb7 hf8 hD8 hn8 hsz hbytes hbm e8 hwb eb hBm hxm hpl hlm hgd ho8 hmB hlnM
  go_wp2_with (fail)
  have hop := open_calls g w.heap.size bv8 _ w8 H8.out.1.dk.at' H8.out.1.dk.F.size H8.out.2.2.1 (by show -4611686018427387904 ≤ d6.writes - 1; have := H8.out.2.2.2.2.2.1; omega) (by show d6.writes - 1 ≤ 9223372036854775807; have := H8.out.2.2.2.2.2.1; omega)
  rw [H8.out.2.1] at hop
  refine hop.mono ?_
  clear hop
  rintro e w9 ⟨pv9, rv9, A9, c9, rfl, rfl, hc9, hC9, hp1, hp2, hf9, bv9, hD9, hn9, ha9⟩
  have hC9' : CC w9 A9 (L.take M6 ++ [moreB]) := hC9
  obtain ⟨ad9, B9, k9, rfl, hcell9, hk9, hr9⟩ := hC9'.get M6 (by rw [H8.out.2.2.2.1]; omega)
  rw [H8.out.2.2.2.2.1] at hcell9 hk9 hr9
  obtain ⟨bd, rfl, _⟩ := hr9 0 (.int .u8 109) rfl
  have kr := run_convert_bytes_back (P := Try.prog) w9 22 9 5 bd k9 [109, 111, 114, 101] Try.underlying22 Try.underlying5 Try.underlying9 (fun j hj => by
    have hj4 : j = 0 ∨ j = 1 ∨ j = 2 ∨ j = 3 := by simp at hj; omega
    rcases hj4 with rfl | rfl | rfl | rfl
    · obtain ⟨ad, e, h⟩ := hr9 0 (.int .u8 109) rfl; cases e; exact h
    · obtain ⟨ad, e, h⟩ := hr9 1 (.int .u8 111) rfl; cases e; exact h
    · obtain ⟨ad, e, h⟩ := hr9 2 (.int .u8 114) rfl; cases e; exact h
    · obtain ⟨ad, e, h⟩ := hr9 3 (.int .u8 101) rfl; cases e; exact h)
  rw [show ([109, 111, 114, 101] : List UInt8).length = 4 from rfl] at kr
  rw [show moreB.length = 4 from rfl] at hcell9
  have H9 := Aside0.mk (H8.out.1.dk.call hf9 hD9)
  have hl9 := H8.out.2.2.2.1
  have hM9 := H8.out.2.2.2.2.2.2
  have hLS := HC.out.2.1
  have b1 : (0 : Int) ≤ (M6 : Int) := by omega
  have b2 : (M6 : Int) < ((M6 + 1 : Nat) : Int) := by omega
  have b7 : wrap64 ((M6 : Int) + 1) = ((M6 + 1 : Nat) : Int) := by unfold wrap64; omega
  simp only
  rw [hl9]
  clear H8 hC9 hC9' hk9 hr9 hp1 hp2 hf9 hD9 hn9 ha9 hl9 hc9 hM9 hLS
  go_wp2
  go_ret
  exact ⟨by first | rfl | simp, H9.out.F.below _ (Nat.le_refl _) (fun i h => h.elim)⟩
theorem keeps_row (A0 : Option Addr) (c0 : Nat) (l0 : List (List Int)) (a1 a2 : Int) (w : World) (hC0 : CC w A0 l0) (hl0 : l0.length ≤ c0) (hB : ∀ x ∈ l0, Bys x) (w1 : (Lit.int .i64 a1).wf = true) (_ : (Lit.int .i64 a2).wf = true) (hz : l0.length * Try.prog.bytesOf 22 ≤ reachBytes ∧ ∀ x ∈ l0, x.length ≤ reachBytes) :
    Calls Try.prog 4 #[.slice A0 l0.length c0, .int .i64 a1, .int .i64 a2] w fun e w' => e = .returned (.bool true) ∧ Below w.heap.size w w' := by
  have hb : Try.prog.bytesOf 22 = 24 := by kernel_rfl
  rw [hb] at hz
  exact keeps_calls A0 c0 l0 a1 a2 w hC0 hl0 (by have := hz.1; unfold reachBytes at this; omega) hz.2 hB (i64_in w1)
end Go.Proofs.Ytkkgjbafncmohaa.Sha
