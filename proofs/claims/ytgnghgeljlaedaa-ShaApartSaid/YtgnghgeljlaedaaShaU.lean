/-
  Write, whole.
-/
import Derived.Test.YtgnghgeljlaedaaShaT
set_option linter.unusedVariables false
set_option linter.unusedSimpArgs false
namespace Go.Proofs.Ytgnghgeljlaedaa.Sha
open Go.RowKit Go.Proofs.YtgnghgeljlaedaaW.PrintWords Go.Proofs.YtgnghgeljlaedaaW.PrintLast Go.Proofs.YtgnghgeljlaedaaW.PrintMore Go.Proofs.Ytgnghgeljlaedaa.Q Go.Proofs.Ytgnghgeljlaedaa.Fr Go.Proofs.Ytgnghgeljlaedaa.Oct

theorem Fr.set1 (w : World) (g i : Nat) (v : Value) : Fr (fun k => k = g) w (w.setCell ⟨g, i, none⟩ v) := (Fr.refl (fun k => k = g) w).setCell (p := ⟨g, i, none⟩) (.inl rfl) v
/-- Lists of bytes that can be read, none of it in S. -/
def Parts (w : World) (A : Option Addr) (PS : List (List Int)) (S : Nat → Prop) : Prop := ∀ (i : Nat) (p : List Int), PS[i]? = some p → ∃ ad A0 c0, A = some ad ∧ w.cell? (ad.add i) = some (.slice A0 p.length c0) ∧ p.length ≤ c0 ∧ ¬ S ad.block ∧
  ∀ (j : Nat) (u : Value), (encs (Value.int .u8) p)[j]? = some u → ∃ ad0, A0 = some ad0 ∧ ¬ S ad0.block ∧ w.cell? (ad0.add j) = some u
theorem Parts.fr {w w' : World} {A : Option Addr} {PS : List (List Int)} {S S' : Nat → Prop} (h : Parts w A PS S) (hf : Fr S' w w') (hS : ∀ k, S' k → S k) : Parts w' A PS S := fun i p hp => by
  obtain ⟨ad, A0, c0, e, hc, hl, hn, hr⟩ := h i p hp
  refine ⟨ad, A0, c0, e, hf.cell hc (by rw [addr_block]; exact fun h => hn (hS _ h)), hl, hn, fun j u hu => ?_⟩
  obtain ⟨ad0, e0, hn0, hc0⟩ := hr j u hu
  exact ⟨ad0, e0, hn0, hf.cell hc0 (by rw [addr_block]; exact fun h => hn0 (hS _ h))⟩
theorem Parts.wide {w : World} {A : Option Addr} {PS : List (List Int)} {S : Nat → Prop} (h : Parts w A PS S) : Parts w A PS (fun k => S k ∨ w.heap.size ≤ k) := fun i p hp => by
  obtain ⟨ad, A0, c0, e, hc, hl, hn, hr⟩ := h i p hp
  have h1 := World.block_lt_of_cell? w _ hc
  rw [addr_block] at h1
  refine ⟨ad, A0, c0, e, hc, hl, fun h => h.elim hn (fun h2 => by omega), fun j u hu => ?_⟩
  obtain ⟨ad0, e0, hn0, hc0⟩ := hr j u hu
  have h2 := World.block_lt_of_cell? w _ hc0
  rw [addr_block] at h2
  exact ⟨ad0, e0, fun h => h.elim hn0 (fun h3 => by omega), hc0⟩

/-- A piece is fed to a hash. -/
def feed (s : List Int × List Int × Int) (p : List Int) : List Int × List Int × Int :=
  (run ((s.2.1 ++ p).length / 64) s.1 (s.2.1 ++ p), (s.2.1 ++ p).drop (64 * ((s.2.1 ++ p).length / 64)), IntKind.u64.wrap (s.2.2 + (p.length : Int)))

set_option maxHeartbeats 8000000 in
set_option maxRecDepth 100000 in
theorem roundX (u : Nat → Value) (g base : Nat) (rv : Value) (S rest : List Int) (n : Int) (A : Option Addr) (c k i : Nat) (hi : i < k) (hk : k ≤ 9223372036854775807) (p : List Int) (NS : Nat → Prop) (w0 w : World) (h : HashAt w g base rv S rest n) (hb : base ≤ w.heap.size) (hm : rest.length + p.length ≤ 140737488355328) (hp8 : p.length ≤ 9223372036854775807) (hf : Fr NS w0 w) (hgN : NS g) (hoN : ∀ j, rv.ownBlock = some j → NS j) (hnew : ∀ j, w.heap.size ≤ j → NS j)
    (ad : Addr) (A0 : Option Addr) (c0 : Nat) (hA : A = some ad) (hcell : w.cell? (ad.add i) = some (.slice A0 p.length c0)) (hc0 : p.length ≤ c0) (hadN : ¬ NS ad.block)
    (hr : ∀ (j : Nat) (u : Value), (encs (Value.int .u8) p)[j]? = some u → ∃ ad0, A0 = some ad0 ∧ ¬ NS ad0.block ∧ w.cell? (ad0.add j) = some u)
    (Q : Exit → Act → World → Prop) (hQ : ∀ a' w' rv', Fm 55 a' → sl a' 0 = .pointer (some ⟨g, 0, none⟩) → sl a' 6 = .slice A k c → sl a' 7 = .int .i64 (k : Int) → sl a' 8 = .int .i64 ((i : Int) + 1) → Fr NS w0 w' → (rv'.ownBlock = rv.ownBlock ∨ ∃ b, rv'.ownBlock = some b ∧ w.heap.size ≤ b) → w.heap.size ≤ w'.heap.size →
      HashAt w' g base rv' (feed (S, rest, n) p).1 (feed (S, rest, n) p).2.1 (feed (S, rest, n) p).2.2 → Q .normal a' w') :
    Code.wp Try.prog (bodyN Try.f17 0) Q ⟨#[.pointer (some ⟨g, 0, none⟩), u 1, u 2, u 3, u 4, u 5, .slice A k c, .int .i64 (k : Int), .int .i64 (i : Int), u 9, u 10, u 11, u 12, u 13, u 14, u 15, u 16, u 17, u 18, u 19, u 20, u 21, u 22, u 23, u 24, u 25, u 26, u 27, u 28, u 29, u 30, u 31, u 32, u 33, u 34, u 35, u 36, u 37, u 38, u 39, u 40, u 41, u 42, u 43, u 44, u 45, u 46, u 47, u 48, u 49, u 50, u 51, u 52, u 53, u 54], []⟩ w := by
  subst hA
  have k8 := (cells_hash h.len h.heap).1
  have k9 := (cells_hash h.len h.heap).2
  have z8 := frozenV h.heap 8
  have z9 := frozenV h.heap 9
  obtain ⟨Ar, cr, rfl, hcr⟩ := h.row.slice
  have HH := Aside0.mk (And.intro h (And.intro hf hr))
  clear h hf hr
  have b0 : decide ((i : Int) < (k : Int)) = true := decide_eq_true (by omega)
  have b1 : (0 : Int) ≤ (i : Int) := by omega
  have b2 : (i : Int) < (k : Int) := by omega
  conv => arg 2; whnf
  go_wp2_with (first | ((with_reducible refine gate_builtin (b := .append) (xs := #[.tmp 26, .tmp 27]) rfl ?_); at_builtin; refine Aside0.out ?_))
  refine ⟨?_⟩
  obtain ⟨n', en⟩ : ∃ n', IntKind.u64.wrap (n + (p.length : Int)) = n' := ⟨_, rfl⟩
  rw [en]
  obtain ⟨r, er⟩ : ∃ r, rest ++ p = r := ⟨_, rfl⟩
  have elen : r.length ≤ 140737488355328 := by rw [← er, List.length_append]; exact hm
  have efeed : feed (S, rest, n) p = (run (r.length / 64) S r, r.drop (64 * (r.length / 64)), n') := by simp only [feed, er, en]
  rw [efeed] at hQ
  have hS := HH.out.1.len
  have hg1 := set_hash9 hS HH.out.1.heap (.int .u64 n')
  have hf1 : Fr (fun k => k = g) w (w.setCell ⟨g, 9, none⟩ (.int .u64 n')) := Fr.set1 _ _ _ _
  have hq1 := HH.out.1.row.fr hf1 (fun k hk e => HH.out.1.ne (by rw [hk, e]))
  have hr1 : Rd (w.setCell ⟨g, 9, none⟩ (.int .u64 n')) A0 p := fun j u hu => by
    obtain ⟨ad0, e0, hn0, hc⟩ := HH.out.2.2 j u hu
    exact ⟨ad0, e0, hf1.cell hc (by rw [addr_block]; exact fun e => hn0 (by rw [e]; exact hgN))⟩
  have F1 := HH.out.2.1.trans hf1 (S := NS) (fun i h => .inl (by rw [h]; exact hgN))
  have lt1 : (w.setCell ⟨g, 9, none⟩ (.int .u64 n')).heap.size = w.heap.size := by simp [World.setCell]
  have hne := HH.out.1.ne
  generalize w.setCell ⟨g, 9, none⟩ (.int .u64 n') = w1 at *
  refine wpList_appq rfl (by rfl) base _ _ (by rfl) info5 (.slice Ar rest.length cr) rest (by rfl) hq1 A0 p.length c0 p (by rfl) rfl hr1 hm (by omega) ?_
  intro v2 w2 hq2 hf2 hat2
  rw [er] at hq2
  have hg2 := hf2.blk hg1 (fun e => hne e.symm)
  have lt2 := hf2.size
  have F2 := F1.trans hf2 (S := NS) (fun i h => .inl (hoN i h.symm))
  have hglt : g < w.heap.size := blk_lt HH.out.1.heap
  have hne2 : v2.ownBlock ≠ some g := by
    rcases hat2 with e | ⟨b, e, hb⟩
    · rw [e]; exact hne
    · rw [e]; intro e2; injection e2 with e2; omega
  have hat3 : v2.ownBlock = (Value.slice Ar rest.length cr).ownBlock ∨ ∃ b, v2.ownBlock = some b ∧ w.heap.size ≤ b := by
    rcases hat2 with e | ⟨b, e, hb⟩
    · exact .inl e
    · exact .inr ⟨b, e, by omega⟩
  obtain ⟨A2, c2, rfl, hc2⟩ := hq2.slice
  have y8 := (cells_hash hS hg2).1
  have x8 := frozenV hg2 8
  have HK := Aside0.mk (And.intro hg2 (And.intro hq2 (And.intro F2 (And.intro hat3 (And.intro hne2 hS)))))
  clear HH hg1 hf1 hq1 hr1 F1 hg2 hf2 hat2 hq2 F2 hat3 hne2 hne hS z8 z9 k8 k9 hcell
  go_wp2
  have hf3 : Fr (fun k => k = g) w2 (w2.setCell ⟨g, 8, none⟩ (.slice A2 r.length c2)) := Fr.set1 _ _ _ _
  have hg3 := set_hash8 HK.out.2.2.2.2.2 HK.out.1 (.slice A2 r.length c2)
  have hq3 := QB.fr HK.out.2.1 hf3 (fun k hk e => HK.out.2.2.2.2.1 (by rw [hk, e]))
  clear er efeed en hcr
  refine loopW (.slice (some ad) k c) (.int .i64 (k : Int)) (.int .i64 (i : Int)) g base (Value.slice A2 r.length c2).ownBlock S r n' elen (w2.setCell ⟨g, 8, none⟩ (.slice A2 r.length c2)) _ ?_ _ _ ⟨⟨rfl, rfl⟩, rfl, rfl, rfl, rfl, Fr.refl _ _, _, rfl, ⟨hg3, HK.out.2.2.2.2.2, hq3, HK.out.2.2.2.2.1⟩⟩
  intro a' w4 rv' hFm j0 j6 j7 j8 jf jo jH
  rw [fm55 hFm, j0, j6, j7, j8]
  have lt4 := jf.size
  have lt3 := hf3.size
  have F4 := (HK.out.2.2.1.trans hf3 (S := NS) (fun i h => .inl (by rw [h]; exact hgN))).trans jf (S := NS) (fun i h => .inl (by rw [h]; exact hgN))
  have HJ := Aside0.mk (And.intro F4 (And.intro jH (And.intro jo HK.out.2.2.2.1)))
  clear F4 jH jo HK hg3 hq3 hf3 hFm j0 j6 j7 j8 jf y8 x8
  go_wp2
  exact hQ _ _ rv' ⟨rfl, rfl⟩ rfl rfl rfl rfl HJ.out.1 (by rw [HJ.out.2.2.1]; exact HJ.out.2.2.2) (by omega) HJ.out.2.1

set_option maxHeartbeats 8000000 in
set_option maxRecDepth 100000 in
theorem exitX (u : Nat → Value) (k : Nat) (w : World) (Q : Exit → Act → World → Prop) (hQ : ∀ a', Fm 55 a' → Q (.exit 0) a' w) :
    Code.wp Try.prog (bodyN Try.f17 0) Q ⟨#[u 0, u 1, u 2, u 3, u 4, u 5, u 6, .int .i64 (k : Int), .int .i64 (k : Int), u 9, u 10, u 11, u 12, u 13, u 14, u 15, u 16, u 17, u 18, u 19, u 20, u 21, u 22, u 23, u 24, u 25, u 26, u 27, u 28, u 29, u 30, u 31, u 32, u 33, u 34, u 35, u 36, u 37, u 38, u 39, u 40, u 41, u 42, u 43, u 44, u 45, u 46, u 47, u 48, u 49, u 50, u 51, u 52, u 53, u 54], []⟩ w := by
  have c0 : decide ((k : Int) < (k : Int)) = false := by simp
  conv => arg 2; whnf
  go_wp2
  exact ⟨rfl, rfl⟩
/-- The blocks that a hash may write: its own, its row's, and new ones. -/
def Foot (g : Nat) (own : Option Nat) (N : Nat) (k : Nat) : Prop := (k = g ∨ some k = own) ∨ N ≤ k
theorem Fr.narrow {g : Nat} {own : Option Nat} {w w' : World} (h : Fr (Foot g own w.heap.size) w w') : Fr (fun k => k = g ∨ some k = own) w w' :=
  ⟨h.os, h.tape, h.output, h.size, fun k hk hn => h.block k hk (fun hN => hN.elim hn (fun h2 => by omega))⟩
theorem feed_len (s : List Int × List Int × Int) (p : List Int) : (feed s p).2.1.length < 64 := by
  simp only [feed, List.length_drop]
  omega
def JX (g base : Nat) (own : Option Nat) (A : Option Addr) (c : Nat) (PS : List (List Int)) (s : List Int × List Int × Int) (w0 : World) (t : Nat) (a : Act) (w : World) : Prop :=
  Fm 55 a ∧ sl a 0 = .pointer (some ⟨g, 0, none⟩) ∧ sl a 6 = .slice A PS.length c ∧ sl a 7 = .int .i64 (PS.length : Int) ∧ sl a 8 = .int .i64 (t : Int) ∧ Fr (Foot g own w0.heap.size) w0 w ∧ ((PS.take t).foldl feed s).2.1.length < 64 ∧
    ∃ rv : Value, (rv.ownBlock = own ∨ ∃ b, rv.ownBlock = some b ∧ w0.heap.size ≤ b) ∧ HashAt w g base rv ((PS.take t).foldl feed s).1 ((PS.take t).foldl feed s).2.1 ((PS.take t).foldl feed s).2.2
theorem loopX (g base : Nat) (own : Option Nat) (A : Option Addr) (c : Nat) (PS : List (List Int)) (hk : PS.length ≤ 9223372036854775807) (hlen : ∀ p ∈ PS, p.length + 64 ≤ 140737488355328) (s : List Int × List Int × Int) (w0 : World) (hb : base ≤ w0.heap.size)
    (hp : Parts w0 A PS (fun k => k = g ∨ some k = own))
    (Q : Exit → Act → World → Prop) (hQ : ∀ a' w' rv', Fm 55 a' → Fr (Foot g own w0.heap.size) w0 w' → (PS.foldl feed s).2.1.length < 64 → (rv'.ownBlock = own ∨ ∃ b, rv'.ownBlock = some b ∧ w0.heap.size ≤ b) → HashAt w' g base rv' (PS.foldl feed s).1 (PS.foldl feed s).2.1 (PS.foldl feed s).2.2 → Q (.exit 0) a' w')
    (a : Act) (w : World) (h : JX g base own A c PS s w0 0 a w) : (Code.loop (bodyN Try.f17 0)).wp Try.prog Q a w := by
  refine wp_loop_up PS.length (JX g base own A c PS s w0) h ?_
  rintro t a w ht ⟨hF, h0, h6, h7, h8, hf, hl, rv, ho, hH⟩
  have ha := fm55 hF
  by_cases h64 : t = PS.length
  · subst h64
    rw [h7, h8] at ha
    rw [ha]
    rw [List.take_length] at hH hl
    exact exitX (sl a) _ w _ fun a' b0 => hQ _ _ rv b0 hf hl ho hH
  · have hlt : t < PS.length := by omega
    obtain ⟨p, hpt⟩ : ∃ p, PS[t]? = some p := ⟨_, List.getElem?_eq_getElem hlt⟩
    have hpm : p ∈ PS := List.mem_of_getElem? hpt
    have hPw : Parts w A PS (Foot g own w0.heap.size) := (hp.wide).fr hf (fun k h => h)
    obtain ⟨ad, A0, c0, e, hc, hl0, hn, hr⟩ := hPw t p hpt
    have hsz := hf.size
    rw [h0, h6, h7, h8] at ha
    rw [ha]
    refine roundX (sl a) g base rv _ _ _ A c PS.length t hlt hk p (Foot g own w0.heap.size) w0 w hH (by omega) (by have := hlen p hpm; omega) (by have := hlen p hpm; omega) hf (.inl (.inl rfl)) (fun j hj => ?_) (fun j hj => .inr (by omega)) ad A0 c0 e hc hl0 hn hr _ ?_
    · rcases ho with ho | ⟨b, hb, hb2⟩
      · exact .inl (.inr (by rw [← hj, ho]))
      · rw [hb] at hj; injection hj with hj; exact .inr (by omega)
    · intro a' w' rv' b0 b1 b2 b3 b4 b5 b6 b7 b8
      have ef : (PS.take (t + 1)).foldl feed s = feed ((PS.take t).foldl feed s) p := by
        rw [List.take_succ_eq_append_getElem hlt, List.foldl_append]
        have : PS[t] = p := by rw [List.getElem?_eq_getElem hlt] at hpt; exact Option.some.inj hpt
        rw [this]; rfl
      refine ⟨hlt, b0, b1, b2, b3, by rw [b4]; congr 1, b5, by rw [ef]; exact feed_len _ _, rv', ?_, by rw [ef]; exact b8⟩
      rcases b6 with b6 | ⟨b, hb6, hb7⟩
      · rw [b6]; exact ho
      · exact .inr ⟨b, hb6, by omega⟩

set_option maxHeartbeats 8000000 in
set_option maxRecDepth 100000 in
/-- Write: the pieces are fed one by one. -/
theorem Write_calls (g base : Nat) (rv : Value) (S rest : List Int) (n : Int) (A : Option Addr) (c : Nat) (PS : List (List Int)) (hk : PS.length ≤ 9223372036854775807) (hlen : ∀ p ∈ PS, p.length + 64 ≤ 140737488355328) (w : World) (h : HashAt w g base rv S rest n) (hrest : rest.length < 64) (hb : base ≤ w.heap.size)
    (hp : Parts w A PS (fun k => k = g ∨ some k = rv.ownBlock)) :
    Calls Try.prog 17 #[.pointer (some ⟨g, 0, none⟩), .slice A PS.length c] w fun e w' => e = .returned (.tuple #[]) ∧ Fr (fun k => k = g ∨ some k = rv.ownBlock) w w' ∧ (PS.foldl feed (S, rest, n)).2.1.length < 64 ∧
      ∃ rv' : Value, (rv'.ownBlock = rv.ownBlock ∨ ∃ b, rv'.ownBlock = some b ∧ w.heap.size ≤ b) ∧ HashAt w' g base rv' (PS.foldl feed (S, rest, n)).1 (PS.foldl feed (S, rest, n)).2.1 (PS.foldl feed (S, rest, n)).2.2 := by
  have HH := Aside0.mk (And.intro h (And.intro hlen hp))
  clear h hlen hp
  go_enter Try.func17, Try.ntmps17
  go_wp2
  refine loopX g base rv.ownBlock A c PS hk HH.out.2.1 (S, rest, n) w hb HH.out.2.2 _ ?_ _ _ ⟨⟨rfl, rfl⟩, rfl, rfl, rfl, rfl, Fr.refl _ _, hrest, rv, .inl rfl, HH.out.1⟩
  intro a' w' rv' hFm jf jl jo jH
  rw [fm55 hFm]
  have HJ := Aside0.mk (And.intro jf (And.intro jl (And.intro jo jH)))
  clear jf jl jo jH hFm HH
  go_wp2
  refine bodyPost_end (results_none rfl _ _ _) rfl ?_
  exact ⟨rfl, Sha.Fr.narrow HJ.out.1, HJ.out.2.1, rv', HJ.out.2.2.1, HJ.out.2.2.2⟩
end Go.Proofs.Ytgnghgeljlaedaa.Sha
