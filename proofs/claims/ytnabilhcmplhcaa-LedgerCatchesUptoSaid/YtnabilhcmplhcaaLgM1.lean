/- Parts of one work, laid together: LdP, LdV, LdE. -/
import Derived.Test.YtnabilhcmplhcaaOctD
import Derived.Test.YtnabilhcmplhcaaQx2
import Derived.Test.YtnabilhcmplhcaaQx3
import Derived.Test.YtnabilhcmplhcaaQx8
import Derived.Test.YtnabilhcmplhcaaSd2
import Derived.Deep.RegionHeld3
import Derived.Lib.BytesEntry
import Derived.Laws.Externs
import Derived.Test.YtnabilhcmplhcaaQx9
/-
  A request's bytes, a vote's texts: what they are, in plain words.
-/
set_option linter.unusedVariables false
set_option linter.unusedSimpArgs false
namespace Go.Proofs.Ytnabilhcmplhcaa.Oct
open Go.RowKit Go.Proofs.YtnabilhcmplhcaaW.PrintWords Go.Proofs.YtnabilhcmplhcaaW.PrintLast Go.Proofs.YtnabilhcmplhcaaW.PrintMore Go.Proofs.Ytnabilhcmplhcaa.Q

/-- A number's eight bytes, the low one first. -/
def le8 (n : Int) : List Int := [shr .i64 n 0 % 256, shr .i64 n 8 % 256, shr .i64 n 16 % 256, shr .i64 n 24 % 256, shr .i64 n 32 % 256, shr .i64 n 40 % 256, shr .i64 n 48 % 256, shr .i64 n 56 % 256]
theorem le8_len (n : Int) : (le8 n).length = 8 := rfl
theorem le8_bys (n : Int) : Bys (le8 n) := fun x hx => by
  simp only [le8, List.mem_cons, List.mem_nil_iff, or_false] at hx
  rcases hx with h | h | h | h | h | h | h | h <;> (subst h; omega)
theorem nums_one (k : Nat) (acc : List Int) (n : Int) (l : List Int) (m i : Int) (h : acc.length + 8 ≤ 140737488355327) :
    vote_nums.l1 (k + 9) acc n l m i 0 = vote_nums.l0 k (acc ++ le8 n) l m (wrap64 (i + 1)) := by
  rw [vote_nums.l1, if_pos (by decide +kernel), if_pos (by decide +kernel), if_pos (by omega)]
  rw [vote_nums.l1, if_pos (by decide +kernel), if_pos (by decide +kernel), if_pos (by simp only [List.length_append, List.length_singleton]; omega)]
  rw [vote_nums.l1, if_pos (by decide +kernel), if_pos (by decide +kernel), if_pos (by simp only [List.length_append, List.length_singleton]; omega)]
  rw [vote_nums.l1, if_pos (by decide +kernel), if_pos (by decide +kernel), if_pos (by simp only [List.length_append, List.length_singleton]; omega)]
  rw [vote_nums.l1, if_pos (by decide +kernel), if_pos (by decide +kernel), if_pos (by simp only [List.length_append, List.length_singleton]; omega)]
  rw [vote_nums.l1, if_pos (by decide +kernel), if_pos (by decide +kernel), if_pos (by simp only [List.length_append, List.length_singleton]; omega)]
  rw [vote_nums.l1, if_pos (by decide +kernel), if_pos (by decide +kernel), if_pos (by simp only [List.length_append, List.length_singleton]; omega)]
  rw [vote_nums.l1, if_pos (by decide +kernel), if_pos (by decide +kernel), if_pos (by simp only [List.length_append, List.length_singleton]; omega)]
  rw [vote_nums.l1, if_neg (by decide +kernel)]
  simp only [List.append_assoc, List.cons_append, List.nil_append, show wrap64 (0 + 1) = 1 by decide +kernel, show wrap64 (1 + 1) = 2 by decide +kernel, show wrap64 (2 + 1) = 3 by decide +kernel, show wrap64 (3 + 1) = 4 by decide +kernel, show wrap64 (4 + 1) = 5 by decide +kernel, show wrap64 (5 + 1) = 6 by decide +kernel, show wrap64 (6 + 1) = 7 by decide +kernel, show wrap64 (7 + 1) = 8 by decide +kernel, show wrap64 (8 * 0) = 0 by decide +kernel, show wrap64 (8 * 1) = 8 by decide +kernel, show wrap64 (8 * 2) = 16 by decide +kernel, show wrap64 (8 * 3) = 24 by decide +kernel, show wrap64 (8 * 4) = 32 by decide +kernel, show wrap64 (8 * 5) = 40 by decide +kernel, show wrap64 (8 * 6) = 48 by decide +kernel, show wrap64 (8 * 7) = 56 by decide +kernel]
  rfl
theorem nums_loop (l : List Int) (hl : l.length ≤ 1000) (d : Nat) : ∀ (k i : Nat) (acc : List Int), i + d = l.length → 10 * d < k → acc.length ≤ 8 * i →
    vote_nums.l0 k acc l (l.length : Int) (i : Int) = some (acc ++ (l.drop i).flatMap le8) := by
  induction d with
  | zero =>
    intro k i acc h1 h2 h3
    obtain ⟨k, rfl⟩ : ∃ k', k = k' + 1 := ⟨k - 1, by omega⟩
    rw [vote_nums.l0, if_neg (by omega), List.drop_of_length_le (by omega)]
    simp
  | succ d ih =>
    intro k i acc h1 h2 h3
    obtain ⟨k, rfl⟩ : ∃ k', k = k' + 1 + 9 := ⟨k - 10, by omega⟩
    rw [show k + 1 + 9 = (k + 9) + 1 from rfl, vote_nums.l0, if_pos (by omega), if_pos (by omega), if_pos (by omega), nums_one k acc _ l _ _ (by omega)]
    rw [show wrap64 ((i : Int) + 1) = ((i + 1 : Nat) : Int) by unfold wrap64; omega]
    rw [ih k (i + 1) _ (by omega) (by omega) (by rw [List.length_append, le8_len]; omega)]
    rw [List.append_assoc, List.drop_eq_getElem_cons (show i < l.length by omega), List.flatMap_cons]
    congr 3
    simp [rd, List.getD_eq_getElem?_getD, List.getElem?_eq_getElem (show i < l.length by omega)]
theorem nums_f (l : List Int) (hl : l.length ≤ 1000) (k : Nat) (hk : 10 * l.length < k) : vote_nums.f k l = some (l.flatMap le8) := by
  have := nums_loop l hl l.length k 0 [] (by omega) hk (by simp)
  simpa [vote_nums.f] using this
/-- A request's bytes. -/
def bodyA (c s : Int) (op sig : List Int) : List Int := le8 c ++ le8 s ++ bytesA op ++ bytesA sig
theorem bodyA_len (c s : Int) (op sig : List Int) : (bodyA c s op sig).length ≤ op.length + sig.length + 26 := by
  have h1 := (bytesA_len op).1
  have h2 := (bytesA_len sig).1
  unfold bodyA
  simp only [List.length_append, le8_len]
  omega
theorem bodyA_bys {c s : Int} {op sig : List Int} (h : Bys op) (h2 : Bys sig) : Bys (bodyA c s op sig) := (((le8_bys c).append (le8_bys s)).append (bytesA_bys h)).append (bytesA_bys h2)
theorem body_one (k : Nat) (acc : List Int) (n : Int) (l : List Int) (m i c s : Int) (op sig : List Int) (h : acc.length + 8 ≤ 140737488355327) :
    msg_Body.l1 (k + 9) acc n l m i 0 c s op sig = msg_Body.l0 k (acc ++ le8 n) l m (wrap64 (i + 1)) c s op sig := by
  rw [msg_Body.l1, if_pos (by decide +kernel), if_pos (by decide +kernel), if_pos (by omega)]
  rw [msg_Body.l1, if_pos (by decide +kernel), if_pos (by decide +kernel), if_pos (by simp only [List.length_append, List.length_singleton]; omega)]
  rw [msg_Body.l1, if_pos (by decide +kernel), if_pos (by decide +kernel), if_pos (by simp only [List.length_append, List.length_singleton]; omega)]
  rw [msg_Body.l1, if_pos (by decide +kernel), if_pos (by decide +kernel), if_pos (by simp only [List.length_append, List.length_singleton]; omega)]
  rw [msg_Body.l1, if_pos (by decide +kernel), if_pos (by decide +kernel), if_pos (by simp only [List.length_append, List.length_singleton]; omega)]
  rw [msg_Body.l1, if_pos (by decide +kernel), if_pos (by decide +kernel), if_pos (by simp only [List.length_append, List.length_singleton]; omega)]
  rw [msg_Body.l1, if_pos (by decide +kernel), if_pos (by decide +kernel), if_pos (by simp only [List.length_append, List.length_singleton]; omega)]
  rw [msg_Body.l1, if_pos (by decide +kernel), if_pos (by decide +kernel), if_pos (by simp only [List.length_append, List.length_singleton]; omega)]
  rw [msg_Body.l1, if_neg (by decide +kernel)]
  simp only [List.append_assoc, List.cons_append, List.nil_append, show wrap64 (0 + 1) = 1 by decide +kernel, show wrap64 (1 + 1) = 2 by decide +kernel, show wrap64 (2 + 1) = 3 by decide +kernel, show wrap64 (3 + 1) = 4 by decide +kernel, show wrap64 (4 + 1) = 5 by decide +kernel, show wrap64 (5 + 1) = 6 by decide +kernel, show wrap64 (6 + 1) = 7 by decide +kernel, show wrap64 (7 + 1) = 8 by decide +kernel, show wrap64 (8 * 0) = 0 by decide +kernel, show wrap64 (8 * 1) = 8 by decide +kernel, show wrap64 (8 * 2) = 16 by decide +kernel, show wrap64 (8 * 3) = 24 by decide +kernel, show wrap64 (8 * 4) = 32 by decide +kernel, show wrap64 (8 * 5) = 40 by decide +kernel, show wrap64 (8 * 6) = 48 by decide +kernel, show wrap64 (8 * 7) = 56 by decide +kernel]
  rfl
theorem body_f (c s : Int) (op sig : List Int) (ho : op.length ≤ 1048576) (hs : sig.length ≤ 1048576) (k : Nat) (hk : 40 ≤ k) : msg_Body.f k c s op sig = some (bodyA c s op sig) := by
  obtain ⟨k, rfl⟩ : ∃ j, k = j + 1 + 9 + 1 + 9 + 1 := ⟨k - 21, by omega⟩
  unfold msg_Body.f
  rw [Option.bind_some, show (([c, s] : List Int).length : Int) = 2 from rfl, show (0 : Int) = 0 from rfl]
  rw [msg_Body.l0, if_pos (by decide +kernel), if_pos (by decide +kernel), if_pos (show (0 : Int) < (([c, s] : List Int).length : Int) from (by show (0 : Int) < 2; decide)), body_one _ _ _ _ _ _ _ _ _ _ (by simp)]
  rw [show wrap64 (0 + 1) = 1 by decide +kernel]
  rw [msg_Body.l0, if_pos (by decide +kernel), if_pos (by decide +kernel), if_pos (show (1 : Int) < (([c, s] : List Int).length : Int) from (by show (1 : Int) < 2; decide)), body_one _ _ _ _ _ _ _ _ _ _ (by simp only [List.length_append, le8_len, List.length_nil]; omega)]
  rw [msg_Body.l0, if_neg (by decide +kernel), bytes_f op (by omega) k (by omega), Option.bind_some]
  have h1 := (bytesA_len op).1
  have h2 := (bytesA_len sig).1
  rw [if_pos (by simp only [List.length_append, le8_len, List.length_nil]; omega), Option.bind_some, bytes_f sig (by omega) k (by omega), Option.bind_some, if_pos (by simp only [List.length_append, le8_len, List.length_nil]; omega)]
  simp only [List.nil_append]
  rfl
/-- Which key a replica signs with. -/
def repK (i : Int) : Int := if i < 0 then -1 else if i > 15 then -1 else i
theorem rep_f (i : Int) : key_Replica.f i = some (repK i) := by
  unfold key_Replica.f repK
  (repeat' split) <;> rfl
def voteS : ByteArray := ⟨#[118, 111, 116, 101]⟩
/-- The texts that a vote signs. -/
def partsA (kind view turn slot : Int) (body : List Int) : List (List Int) := [[kind, view, turn, slot].flatMap le8, body]
theorem voted_f (kind view turn slot : Int) (body : List Int) (signer : Int) (k : Nat) (hk : 41 ≤ k) : vote_voted.f k kind view turn slot body signer = some (repK signer, voteS, partsA kind view turn slot body) := by
  unfold vote_voted.f
  rw [rep_f, Option.bind_some, nums_f _ (by simp) k (by simp; omega), Option.bind_some]
  rfl
theorem partsA_bys {kind view turn slot : Int} {body : List Int} (h : Bys body) : ∀ x ∈ partsA kind view turn slot body, Bys x := fun x hx => by
  simp only [partsA, List.mem_cons, List.mem_nil_iff, or_false] at hx
  rcases hx with rfl | rfl
  · exact ((le8_bys _).append ((le8_bys _).append ((le8_bys _).append ((le8_bys _).append Bys.nil))))
  · exact h
theorem partsA_sz (kind view turn slot : Int) (body : List Int) : szL (partsA kind view turn slot body) = body.length + 34 := by
  simp only [partsA, szL_cons, List.flatMap_cons, List.flatMap_nil, List.length_append, le8_len, List.length_nil]
  simp only [szL, List.map_nil, List.sum_nil]
  omega
end Go.Proofs.Ytnabilhcmplhcaa.Oct

/-
  Votes: how they are made, and whether they are right.
-/
set_option linter.unusedVariables false
set_option linter.unusedSimpArgs false
namespace Go.Proofs.Ytnabilhcmplhcaa.Sha
open Go.RowKit Go.Proofs.YtnabilhcmplhcaaW.PrintWords Go.Proofs.YtnabilhcmplhcaaW.PrintLast Go.Proofs.YtnabilhcmplhcaaW.PrintMore Go.Proofs.Ytnabilhcmplhcaa.Q Go.Proofs.Ytnabilhcmplhcaa.Fr Go.Proofs.Ytnabilhcmplhcaa.Oct

theorem Rd.V {w : World} {A : Option Addr} {ys : List Int} {c e base : Nat} (h : Rd w A ys) (hc : ys.length ≤ c) (hl : ys.length ≤ 9223372036854775807) : Kd.V (Kd.int .u8) e w base (fun _ => True) (.slice A ys.length c) ys :=
  Kd.V_mk hc (fun W' hm => Rd.C (fun j u hu => by
    obtain ⟨ad, e, hcell⟩ := h j u hu
    exact ⟨ad, e, (World.cell?_of_block (hm (ad.add j).block trivial (World.block_lt_of_cell? w _ hcell))).trans hcell⟩) hl)
/-- A step of a region that draws: a whole struct is stored at the head of a block. -/
theorem wp_store_abs {P : Program} {o : Oper} {a : Act} {w : World} {K : Act → World → Prop} {Q : Exit → Act → World → Prop} (ty : TypeId) (x y : Operand) (ho : o.op = .store ty x y)
    (g : Nat) (cells : Array Value) (hx : a.eval x = .pointer (some ⟨g, 0, none⟩)) (hy : a.eval y = .agg cells)
    (t : TypeId) (old : Array Value) (hg : w.heap[g]? = some (.cells old t (0, 0))) (hi : (P.info? ty).map (·.size) = some cells.size)
    (hold : old.size = cells.size) (h1 : cells.all (·.oneCell') = true)
    (h : ∀ w1, Fr (fun k => k = g) w w1 → w1.heap.size = w.heap.size → w1.heap[g]? = some (.cells cells t (0, 0)) → K (a.put o.dst undef) w1) : o.wp P a w K Q :=
  wp_store_row ty x y ho g cells hx hy t old hg hi hold h1 (h _ ⟨rfl, rfl, rfl, by simp [World.setRow], fun k _ hk => setRow_other w g k _ (fun e => hk e)⟩ (by simp [World.setRow]) (setRow_heap w g old cells t (0, 0) hg))
/-- A step of a region that draws: a variable is made. -/
theorem wp_alloc_abs {P : Program} {o : Oper} {a : Act} {w : World} {K : Act → World → Prop} {Q : Exit → Act → World → Prop} (t : TypeId) (ho : o.op = .alloc t) (z : Value) (hz : (P.info? t).map (·.zero) = some (some z))
    (h : ∀ w1, Below w.heap.size w w1 → w1.heap.size = w.heap.size + 1 → w1.heap[w.heap.size]? = some (.cells z.cells t (0, 0)) → K (a.put o.dst (.pointer (some ⟨w.heap.size, 0, none⟩))) w1) : o.wp P a w K Q := by
  obtain ⟨i, hi, hz'⟩ := Option.map_eq_some_iff.1 hz
  have := h (w.alloc (.cells z.cells t)) (below_alloc (Below.refl _ _) _) (by simp) (heap_alloc_new w _)
  unfold Oper.wp
  simp [execOp, ho, Instr.alloc, zeroValue, typeInfo, hi, hz']
  exact this
theorem frB {w w' : World} (h : Fr (fun _ => False) w w') : Below w.heap.size w w' := h.below _ (Nat.le_refl _) (fun i h => h.elim)
theorem Rd.lies {w : World} {A : Option Addr} {ys : List Int} (h : Rd w A ys) {w' : World} (hf : Fr (fun _ => False) w w') : Rd w' A ys := h.fr hf (fun _ _ e => e)

theorem voted_calls (kind view turn slot : Int) (A : Option Addr) (c : Nat) (body : List Int) (signer : Int) (w : World) (hr : Rd w A body) (hc : body.length ≤ c) (hl : body.length ≤ 9223372036854775807) :
    Calls Try.prog 36 #[.int .i64 kind, .agg #[.int .i64 view, .int .i64 turn], .int .i64 slot, .slice A body.length c, .int .i64 signer] w fun e w' => ∃ A c, e = .returned (.agg #[.int .i64 (repK signer), .string voteS, .slice A (partsA kind view turn slot body).length c]) ∧ (partsA kind view turn slot body).length ≤ c ∧ CC w' A (partsA kind view turn slot body) ∧ Below w.heap.size w w' := by
  refine (vote_voted.calls 41 kind view turn slot (fun _ => True) A c body signer _ _ _ w (hr.V hc hl) (voted_f kind view turn slot body signer 41 (Nat.le_refl _))).mono ?_
  rintro e w' ⟨v, rfl, hN, hb⟩
  obtain ⟨A2, c2, rfl, hc2, hF⟩ := Kd.N_V (base' := w.heap.size) hN
  exact ⟨A2, c2, rfl, hc2, (Kd.V_reads' (Kd.N_V (base' := w.heap.size) hN)).2.2, hb⟩
set_option maxHeartbeats 8000000 in
set_option maxRecDepth 100000 in
theorem ssign_calls (k : Int) (dom : ByteArray) (A : Option Addr) (c : Nat) (l : List (List Int)) (w : World) (hC : CC w A l) (hc : l.length ≤ c) (hs : szL l + dom.size ≤ 2097000) :
    Calls Try.prog 44 #[.agg #[.int .i64 k, .string dom, .slice A l.length c]] w fun e w' => ∃ v : Value, e = .returned v ∧ OB w' w.heap.size v (sgA k dom l) ∧ Below w.heap.size w w' := by
  have HC := Aside0.mk (And.intro hC hs)
  have hb1 := below_alloc (Below.refl w.heap.size w) (.cells #[.int .i64 k, .string dom, .slice A l.length c] 88)
  have hg1 := heap_alloc_new w (.cells #[.int .i64 k, .string dom, .slice A l.length c] 88)
  have HB := Aside0.mk hb1
  clear hC hs hb1 hg1
  go_enter Try.func44, Try.ntmps44
  go_wp2_with (fail)
  have f1 := Fr.of_below HB.out (fun _ => False)
  refine (sign_calls k dom A c l _ (HC.out.1.fr f1) hc HC.out.2).mono ?_
  rintro e w2 ⟨v, rfl, hO, hb⟩
  have H2 := Aside0.mk (And.intro (hO.lower f1.size) (f1.trans (Fr.of_below hb (fun _ => False)) (fun _ h => h.elim)))
  clear hO hb f1 HB
  go_wp2
  go_ret
  exact ⟨v, rfl, H2.out.1, frB H2.out.2⟩
set_option maxHeartbeats 8000000 in
set_option maxRecDepth 100000 in
theorem sverify_calls (k : Int) (dom : ByteArray) (As : Option Addr) (cs : Nat) (s : List Int) (A : Option Addr) (c : Nat) (l : List (List Int)) (w : World) (hS : Rd w As s) (hcs : s.length ≤ cs) (hsl : s.length ≤ 9223372036854775807) (hsb : Bys s) (hC : CC w A l) (hc : l.length ≤ c) (hs : szL l + dom.size ≤ 2097000) :
    Calls Try.prog 37 #[.agg #[.int .i64 k, .string dom, .slice A l.length c], .slice As s.length cs] w fun e w' => e = .returned (.bool (decide (0 ≤ k ∧ k ≤ 127) && decide (s = sgA k dom l))) ∧ Below w.heap.size w w' := by
  have HC := Aside0.mk (And.intro hC (And.intro hs (And.intro hS (And.intro hsl hsb))))
  have HB := Aside0.mk (below_alloc (Below.refl w.heap.size w) (.cells #[.int .i64 k, .string dom, .slice A l.length c] 88))
  clear hC hs hS hsl hsb
  obtain ⟨bb, hbb⟩ : ∃ bb, (decide (0 ≤ k ∧ k ≤ 127) && decide (s = sgA k dom l)) = bb := ⟨_, rfl⟩
  rw [hbb]
  go_enter Try.func37, Try.ntmps37
  go_wp2_with (fail)
  have f1 := Fr.of_below HB.out (fun _ => False)
  have hv := verify_calls k dom As cs s A c l _ (HC.out.2.2.1.lies f1) hcs HC.out.2.2.2.1 HC.out.2.2.2.2 (HC.out.1.fr f1) hc HC.out.2.1
  rw [hbb] at hv
  refine hv.mono ?_
  clear hv hbb
  rintro e w2 ⟨rfl, hb⟩
  have H2 := Aside0.mk (f1.trans (Fr.of_below hb (fun _ => False)) (fun _ h => h.elim))
  clear hb f1 HB
  go_wp2
  go_ret
  exact ⟨rfl, frB H2.out⟩
/-- A vote's signature. -/
def vsA (kind view turn slot : Int) (body : List Int) (signer : Int) : List Int := sgA (repK signer) voteS (partsA kind view turn slot body)
/-- Is it right? -/
def vrA (kind view turn slot : Int) (body : List Int) (signer : Int) (sig : List Int) : Bool := decide (0 ≤ repK signer ∧ repK signer ≤ 127) && decide (sig = vsA kind view turn slot body signer)
def Z2v : Array Value := #[.int .i64 0, .slice none 0 0]
set_option maxHeartbeats 8000000 in
set_option maxRecDepth 100000 in
theorem make_calls (kind view turn slot : Int) (A : Option Addr) (c : Nat) (body : List Int) (signer : Int) (w : World) (hr : Rd w A body) (hc : body.length ≤ c) (hl : body.length ≤ 2000000) :
    Calls Try.prog 35 #[.int .i64 kind, .agg #[.int .i64 view, .int .i64 turn], .int .i64 slot, .slice A body.length c, .int .i64 signer] w fun e w' => ∃ A2 c2, e = .returned (.agg #[.int .i64 signer, .slice A2 (vsA kind view turn slot body signer).length c2]) ∧ (vsA kind view turn slot body signer).length ≤ c2 ∧ OB w' w.heap.size (.slice A2 (vsA kind view turn slot body signer).length c2) (vsA kind view turn slot body signer) ∧ Below w.heap.size w w' := by
  have HR := Aside0.mk (And.intro hr hl)
  have HB := Aside0.mk (below_alloc (Below.refl w.heap.size w) (.cells #[.int .i64 view, .int .i64 turn] 28))
  clear hr hl
  obtain ⟨sg, hsg⟩ : ∃ s, vsA kind view turn slot body signer = s := ⟨_, rfl⟩
  rw [hsg]
  go_enter Try.func35, Try.ntmps35
  go_wp2_with (first | ((with_reducible refine gate_dst (N := 10) rfl ?_); refine wpList_alloc_abs (by rfl) 55 (by rfl) (.agg Z2v) (by kernel_rfl) ?_; intro w2 hb2 hs2 hg2; (with_reducible refine Aside0.out ?_)))
  refine ⟨?_⟩
  have hg1 := heap_alloc_new w (.cells #[.int .i64 view, .int .i64 turn] 28)
  have hb1 := below_alloc (Below.refl w.heap.size w) (.cells #[.int .i64 view, .int .i64 turn] 28)
  have z1 : (w.alloc (.cells #[.int .i64 view, .int .i64 turn] 28)).heap.size = w.heap.size + 1 := by rw [World.size_alloc]
  generalize w.alloc (.cells #[.int .i64 view, .int .i64 turn] 28) = w1 at *
  have f2 := Fr.of_below hb2 (fun _ => False)
  have F2 := (Fr.of_below hb1 (fun _ => False)).trans f2 (fun _ h => h.elim)
  have hg12 := f2.blk hg1 (fun h => h)
  rw [z1] at hg2 hs2
  have k : w2.cell? ⟨w.heap.size, 0, none⟩ = some (.int .i64 view) ∧ w2.cell? ⟨w.heap.size, 1, none⟩ = some (.int .i64 turn) := by simp [World.cell?, hg12]
  obtain ⟨k0, k1⟩ := k
  have HN := Aside0.mk (And.intro F2 (And.intro hs2 hg2))
  clear hb1 hb2 hg1 hg2 f2 F2 hg12 hs2 HB
  go_wp2_with (fail)
  refine (voted_calls kind view turn slot A c body signer w2 (HR.out.1.lies HN.out.1) hc (by have := HR.out.2; omega)).mono ?_
  rintro e w3 ⟨A3, c3, rfl, hc3, hC3, hb3⟩
  have H3 := Aside0.mk (And.intro (Fr.of_below hb3 (fun _ => False)) hC3)
  clear hb3 hC3 k0 k1
  go_wp2_with (fail)
  refine (ssign_calls (repK signer) voteS A3 c3 (partsA kind view turn slot body) w3 H3.out.2 hc3 (by rw [partsA_sz]; have := HR.out.2; show _ + 4 ≤ _; omega)).mono ?_
  rintro e w4 ⟨v4, rfl, hO4, hb4⟩
  obtain ⟨A4, c4, rfl, hc4⟩ := hO4.slice
  rw [show sgA (repK signer) voteS (partsA kind view turn slot body) = sg from hsg] at hO4 hc4 ⊢
  have F24 := H3.out.1.trans (Fr.of_below hb4 (fun _ => False)) (fun _ h => h.elim)
  have z34 := H3.out.1.size
  have hg4 := F24.blk HN.out.2.2 (fun h => h)
  have H4 := Aside0.mk (And.intro (HN.out.1.trans F24 (fun _ h => h.elim)) (And.intro hO4 (show w.heap.size + 2 ≤ w3.heap.size by have := HN.out.2.1; omega)))
  clear hO4 hb4 F24 z34 H3 hsg
  go_wp2_with (first | ((with_reducible refine gate_store (p := 10) rfl ?_); refine Aside0.out ?_))
  refine ⟨?_⟩
  refine wpList_store_abs (by rfl) 55 _ _ (by rfl) (w.heap.size + 1) #[.int .i64 signer, .slice A4 sg.length c4] (by rfl) (by rfl) 55 Z2v hg4 (by kernel_rfl) (by rfl) (by simp [Value.oneCell']) ?_
  intro w9 hf9 hs9 hg9
  go_wp2
  refine bodyPost_ret (results_cell_row (by rfl) _ _ (w.heap.size + 1) 55 #[.int .i64 signer, .slice A4 sg.length c4] (0, 0) _ (by rfl) hg9 Try.underlying55 (by rfl) (by kernel_rfl)) rfl ?_
  exact ⟨A4, c4, rfl, hc4, (H4.out.2.1.fr hf9 (fun k hk e => by have := H4.out.2.1.base k hk; have := H4.out.2.2; omega)).lower (by have := H4.out.2.2; omega), frB (H4.out.1.trans hf9 (fun k hk => .inr (by omega)))⟩
set_option maxHeartbeats 8000000 in
set_option maxRecDepth 100000 in
theorem right_calls (kind view turn slot : Int) (A : Option Addr) (c : Nat) (body : List Int) (signer : Int) (As : Option Addr) (cs : Nat) (sig : List Int) (w : World) (hr : Rd w A body) (hc : body.length ≤ c) (hl : body.length ≤ 2000000) (hS : Rd w As sig) (hcs : sig.length ≤ cs) (hsl : sig.length ≤ 9223372036854775807) (hsb : Bys sig) :
    Calls Try.prog 20 #[.int .i64 kind, .agg #[.int .i64 view, .int .i64 turn], .int .i64 slot, .slice A body.length c, .agg #[.int .i64 signer, .slice As sig.length cs]] w fun e w' => e = .returned (.bool (vrA kind view turn slot body signer sig)) ∧ Below w.heap.size w w' := by
  have HR := Aside0.mk (And.intro hr (And.intro hl (And.intro hS (And.intro hsl hsb))))
  clear hr hl hS hsl hsb
  obtain ⟨bb, hbb⟩ : ∃ bb, vrA kind view turn slot body signer sig = bb := ⟨_, rfl⟩
  rw [hbb]
  go_enter Try.func20, Try.ntmps20
  go_wp2
  have hb2 : Below w.heap.size w ((w.alloc (.cells #[.int .i64 view, .int .i64 turn] 28)).alloc (.cells #[.int .i64 signer, .slice As sig.length cs] 55)) := below_alloc (below_alloc (Below.refl _ _) _) _
  have hS2 : ∀ w', Fr (fun _ => False) ((w.alloc (.cells #[.int .i64 view, .int .i64 turn] 28)).alloc (.cells #[.int .i64 signer, .slice As sig.length cs] 55)) w' → w'.cell? ⟨w.heap.size, 0, none⟩ = some (.int .i64 view) ∧ w'.cell? ⟨w.heap.size, 1, none⟩ = some (.int .i64 turn) ∧ w'.cell? ⟨w.heap.size + 1, 0, none⟩ = some (.int .i64 signer) ∧ w'.cell? ⟨w.heap.size + 1, 1, none⟩ = some (.slice As sig.length cs) := fun w' hf => by
    have hga := hf.blk (heap_alloc_new (w.alloc (.cells #[.int .i64 view, .int .i64 turn] 28)) (.cells #[.int .i64 signer, .slice As sig.length cs] 55)) (fun h => h)
    rw [World.size_alloc] at hga
    have hgb := hf.blk ((Fr.of_below (below_alloc (Below.refl _ (w.alloc (.cells #[.int .i64 view, .int .i64 turn] 28))) (.cells #[.int .i64 signer, .slice As sig.length cs] 55)) (fun _ => False)).blk (heap_alloc_new w (.cells #[.int .i64 view, .int .i64 turn] 28)) (fun h => h)) (fun h => h)
    simp [World.cell?, hga, hgb]
  generalize (w.alloc (.cells #[.int .i64 view, .int .i64 turn] 28)).alloc (.cells #[.int .i64 signer, .slice As sig.length cs] 55) = w2 at *
  have F2 := Fr.of_below hb2 (fun _ => False)
  have HA : ∀ w1, Below w2.heap.size w2 w1 → Calls Try.prog 36 #[.int .i64 kind, .agg #[.int .i64 view, .int .i64 turn], .int .i64 slot, .slice A body.length c, .int .i64 signer] w1 fun e w3 => ∃ A3 c3, e = .returned (.agg #[.int .i64 (repK signer), .string voteS, .slice A3 (partsA kind view turn slot body).length c3]) ∧ (w3.cell? ⟨w.heap.size, 0, none⟩ = some (.int .i64 view) ∧ w3.cell? ⟨w.heap.size, 1, none⟩ = some (.int .i64 turn) ∧ w3.cell? ⟨w.heap.size + 1, 0, none⟩ = some (.int .i64 signer) ∧ w3.cell? ⟨w.heap.size + 1, 1, none⟩ = some (.slice As sig.length cs)) ∧ Aside0 (Fr (fun _ => False) w2 w3 ∧ CC w3 A3 (partsA kind view turn slot body) ∧ (partsA kind view turn slot body).length ≤ c3) := by
    intro w1 hb1
    have f1 := Fr.of_below hb1 (fun _ => False)
    refine (voted_calls kind view turn slot A c body signer w1 ((HR.out.1.lies F2).lies f1) hc (by have := HR.out.2.1; omega)).mono ?_
    rintro e w3 ⟨A3, c3, rfl, hc3, hC3, hb3⟩
    have f3 := f1.trans (Fr.of_below hb3 (fun _ => False)) (fun _ h => h.elim)
    exact ⟨A3, c3, rfl, hS2 _ f3, ⟨f3, hC3, hc3⟩⟩
  have HB : ∀ w3 A3 c3, Aside0 (Fr (fun _ => False) w2 w3 ∧ CC w3 A3 (partsA kind view turn slot body) ∧ (partsA kind view turn slot body).length ≤ c3) → Calls Try.prog 37 #[.agg #[.int .i64 (repK signer), .string voteS, .slice A3 (partsA kind view turn slot body).length c3], .slice As sig.length cs] w3 fun e w4 => e = .returned (.bool bb) ∧ (w4.cell? ⟨w.heap.size, 0, none⟩ = some (.int .i64 view) ∧ w4.cell? ⟨w.heap.size, 1, none⟩ = some (.int .i64 turn) ∧ w4.cell? ⟨w.heap.size + 1, 0, none⟩ = some (.int .i64 signer) ∧ w4.cell? ⟨w.heap.size + 1, 1, none⟩ = some (.slice As sig.length cs)) ∧ Aside0 (Fr (fun _ => False) w2 w4) := by
    intro w3 A3 c3 H
    have hv := sverify_calls (repK signer) voteS As cs sig A3 c3 (partsA kind view turn slot body) w3 ((HR.out.2.2.1.lies F2).lies H.out.1) hcs HR.out.2.2.2.1 HR.out.2.2.2.2 H.out.2.1 H.out.2.2 (by rw [partsA_sz]; have := HR.out.2.1; show _ + 4 ≤ _; omega)
    rw [show (decide (0 ≤ repK signer ∧ repK signer ≤ 127) && decide (sig = sgA (repK signer) voteS (partsA kind view turn slot body))) = bb from hbb] at hv
    refine hv.mono ?_
    rintro e w4 ⟨rfl, hb4⟩
    have f4 := H.out.1.trans (Fr.of_below hb4 (fun _ => False)) (fun _ h => h.elim)
    exact ⟨rfl, hS2 _ f4, ⟨f4⟩⟩
  have hs2 := hS2 _ (Fr.refl _ _)
  have HA := Aside0.mk HA
  have HB := Aside0.mk HB
  have HF := Aside0.mk F2
  clear hS2 hb2 F2 hbb
  go_region_held3 (fun w' => w'.cell? ⟨w.heap.size, 0, none⟩ = some (.int .i64 view) ∧ w'.cell? ⟨w.heap.size, 1, none⟩ = some (.int .i64 turn) ∧ w'.cell? ⟨w.heap.size + 1, 0, none⟩ = some (.int .i64 signer) ∧ w'.cell? ⟨w.heap.size + 1, 1, none⟩ = some (.slice As sig.length cs)) (first | exact hs2 | exact hs3 | exact hs4)
    (first | (go_at_call 36; refine (HA.out _ (below_drew (Below.refl _ _))).mono ?_; rintro e w3 ⟨A3, c3, rfl, hs3, H3⟩) | (go_at_call 37; refine (HB.out _ _ _ H3).mono ?_; rintro e w4 ⟨rfl, hs4, H4⟩))
  go_wp2
  go_ret
  exact ⟨rfl, frB (HF.out.trans H4.out (fun _ h => h.elim))⟩
end Go.Proofs.Ytnabilhcmplhcaa.Sha

/-
  A request's bytes; the law's votes; bytes compared.
-/
set_option linter.unusedVariables false
set_option linter.unusedSimpArgs false
namespace Go.Proofs.Ytnabilhcmplhcaa.Sha
open Go.RowKit Go.Proofs.YtnabilhcmplhcaaW.PrintWords Go.Proofs.YtnabilhcmplhcaaW.PrintLast Go.Proofs.YtnabilhcmplhcaaW.PrintMore Go.Proofs.Ytnabilhcmplhcaa.Q Go.Proofs.Ytnabilhcmplhcaa.Fr Go.Proofs.Ytnabilhcmplhcaa.Oct

theorem body_calls (c s : Int) (Ao : Option Addr) (co : Nat) (op : List Int) (As : Option Addr) (cs : Nat) (sg : List Int) (w : World) (ho : Rd w Ao op) (hco : op.length ≤ co) (hg : Rd w As sg) (hcs : sg.length ≤ cs) (lo : op.length + sg.length ≤ 1048576) :
    Calls Try.prog 21 #[.agg #[.int .i64 c, .int .i64 s, .slice Ao op.length co, .slice As sg.length cs]] w fun e w' => ∃ A2 c2, e = .returned (.slice A2 (bodyA c s op sg).length c2) ∧ (bodyA c s op sg).length ≤ c2 ∧ OB w' w.heap.size (.slice A2 (bodyA c s op sg).length c2) (bodyA c s op sg) ∧ Below w.heap.size w w' := by
  refine (msg_Body.calls 40 c s Ao co op As cs sg (bodyA c s op sg) w (ho.C (by omega)) hco (hg.C (by omega)) hcs (body_f c s op sg (by omega) (by omega) 40 (Nat.le_refl _))).mono ?_
  rintro e w' ⟨v, rfl, hR, hb⟩
  have hO : OB w' w.heap.size v (bodyA c s op sg) := Kd.own_of_R hR
  obtain ⟨A2, c2, rfl, hc2⟩ := hO.slice
  exact ⟨A2, c2, rfl, hc2, hO, hb⟩
set_option maxHeartbeats 8000000 in
set_option maxRecDepth 100000 in
theorem made_calls (view turn slot : Int) (c s : Int) (Ao : Option Addr) (co : Nat) (op : List Int) (As : Option Addr) (cs : Nat) (sg : List Int) (signer : Int) (w : World) (ho : Rd w Ao op) (hco : op.length ≤ co) (hg : Rd w As sg) (hcs : sg.length ≤ cs) (lo : op.length + sg.length ≤ 1048576) :
    Calls Try.prog 19 #[.agg #[.int .i64 view, .int .i64 turn], .int .i64 slot, .agg #[.int .i64 c, .int .i64 s, .slice Ao op.length co, .slice As sg.length cs], .int .i64 signer] w fun e w' => ∃ A5 c5, e = .returned (.agg #[.int .i64 signer, .slice A5 (vsA 2 view turn slot (bodyA c s op sg) signer).length c5]) ∧ (vsA 2 view turn slot (bodyA c s op sg) signer).length ≤ c5 ∧ OB w' w.heap.size (.slice A5 (vsA 2 view turn slot (bodyA c s op sg) signer).length c5) (vsA 2 view turn slot (bodyA c s op sg) signer) ∧ Below w.heap.size w w' := by
  have HH := Aside0.mk (And.intro ho (And.intro hg lo))
  clear ho hg lo
  obtain ⟨sv, hsv⟩ : ∃ x, (vsA 2 view turn slot (bodyA c s op sg) signer) = x := ⟨_, rfl⟩
  rw [hsv]
  go_enter Try.func19, Try.ntmps19
  go_wp2_with (first | ((with_reducible refine gate_dst (N := 8) rfl ?_); refine wpList_alloc_abs (by rfl) 55 (by rfl) (.agg Z2v) (by kernel_rfl) ?_; intro w3 hb3 hs3 hg3; (with_reducible refine Aside0.out ?_)))
  refine ⟨?_⟩
  have hb2 : Below w.heap.size w ((w.alloc (.cells #[.int .i64 view, .int .i64 turn] 28)).alloc (.cells #[.int .i64 c, .int .i64 s, .slice Ao op.length co, .slice As sg.length cs] 31)) := below_alloc (below_alloc (Below.refl _ _) _) _
  have hz2 : ((w.alloc (.cells #[.int .i64 view, .int .i64 turn] 28)).alloc (.cells #[.int .i64 c, .int .i64 s, .slice Ao op.length co, .slice As sg.length cs] 31)).heap.size = w.heap.size + 2 := by rw [World.size_alloc, World.size_alloc]
  have hS2 : ∀ w', Fr (fun _ => False) ((w.alloc (.cells #[.int .i64 view, .int .i64 turn] 28)).alloc (.cells #[.int .i64 c, .int .i64 s, .slice Ao op.length co, .slice As sg.length cs] 31)) w' → w'.cell? ⟨w.heap.size, 0, none⟩ = some (.int .i64 view) ∧ w'.cell? ⟨w.heap.size, 1, none⟩ = some (.int .i64 turn) ∧ w'.cell? ⟨w.heap.size + 1, 0, none⟩ = some (.int .i64 c) ∧ w'.cell? ⟨w.heap.size + 1, 1, none⟩ = some (.int .i64 s) ∧ w'.cell? ⟨w.heap.size + 1, 2, none⟩ = some (.slice Ao op.length co) ∧ w'.cell? ⟨w.heap.size + 1, 3, none⟩ = some (.slice As sg.length cs) := fun w' hf => by
    have hga := hf.blk (heap_alloc_new (w.alloc (.cells #[.int .i64 view, .int .i64 turn] 28)) (.cells #[.int .i64 c, .int .i64 s, .slice Ao op.length co, .slice As sg.length cs] 31)) (fun h => h)
    rw [World.size_alloc] at hga
    have hgb := hf.blk ((Fr.of_below (below_alloc (Below.refl _ (w.alloc (.cells #[.int .i64 view, .int .i64 turn] 28))) (.cells #[.int .i64 c, .int .i64 s, .slice Ao op.length co, .slice As sg.length cs] 31)) (fun _ => False)).blk (heap_alloc_new w (.cells #[.int .i64 view, .int .i64 turn] 28)) (fun h => h)) (fun h => h)
    simp [World.cell?, hga, hgb]
  generalize (w.alloc (.cells #[.int .i64 view, .int .i64 turn] 28)).alloc (.cells #[.int .i64 c, .int .i64 s, .slice Ao op.length co, .slice As sg.length cs] 31) = w2 at *
  have f3 := Fr.of_below hb3 (fun _ => False)
  have F3 := (Fr.of_below hb2 (fun _ => False)).trans f3 (fun _ h => h.elim)
  rw [hz2] at hg3 hs3
  have hS : ∀ w', Fr (fun _ => False) w3 w' → w'.cell? ⟨w.heap.size, 0, none⟩ = some (.int .i64 view) ∧ w'.cell? ⟨w.heap.size, 1, none⟩ = some (.int .i64 turn) ∧ w'.cell? ⟨w.heap.size + 1, 0, none⟩ = some (.int .i64 c) ∧ w'.cell? ⟨w.heap.size + 1, 1, none⟩ = some (.int .i64 s) ∧ w'.cell? ⟨w.heap.size + 1, 2, none⟩ = some (.slice Ao op.length co) ∧ w'.cell? ⟨w.heap.size + 1, 3, none⟩ = some (.slice As sg.length cs) := fun w' hf => hS2 w' (f3.trans hf (fun _ h => h.elim))
  have hs9 : ∀ w4 w', (w4.cell? ⟨w.heap.size, 0, none⟩ = some (.int .i64 view) ∧ w4.cell? ⟨w.heap.size, 1, none⟩ = some (.int .i64 turn) ∧ w4.cell? ⟨w.heap.size + 1, 0, none⟩ = some (.int .i64 c) ∧ w4.cell? ⟨w.heap.size + 1, 1, none⟩ = some (.int .i64 s) ∧ w4.cell? ⟨w.heap.size + 1, 2, none⟩ = some (.slice Ao op.length co) ∧ w4.cell? ⟨w.heap.size + 1, 3, none⟩ = some (.slice As sg.length cs)) → Fr (fun k => k = w.heap.size + 2) w4 w' → w'.cell? ⟨w.heap.size, 0, none⟩ = some (.int .i64 view) ∧ w'.cell? ⟨w.heap.size, 1, none⟩ = some (.int .i64 turn) ∧ w'.cell? ⟨w.heap.size + 1, 0, none⟩ = some (.int .i64 c) ∧ w'.cell? ⟨w.heap.size + 1, 1, none⟩ = some (.int .i64 s) ∧ w'.cell? ⟨w.heap.size + 1, 2, none⟩ = some (.slice Ao op.length co) ∧ w'.cell? ⟨w.heap.size + 1, 3, none⟩ = some (.slice As sg.length cs) := fun w4 w' h hf =>
    ⟨hf.cell h.1 (fun e => by simp only at e; omega), hf.cell h.2.1 (fun e => by simp only at e; omega), hf.cell h.2.2.1 (fun e => by simp only at e; omega), hf.cell h.2.2.2.1 (fun e => by simp only at e; omega), hf.cell h.2.2.2.2.1 (fun e => by simp only at e; omega), hf.cell h.2.2.2.2.2 (fun e => by simp only at e; omega)⟩
  have HA : ∀ w1, Fr (fun _ => False) w3 w1 → Calls Try.prog 21 #[.agg #[.int .i64 c, .int .i64 s, .slice Ao op.length co, .slice As sg.length cs]] w1 fun e w4 => ∃ A2 c2, e = .returned (.slice A2 (bodyA c s op sg).length c2) ∧ (w4.cell? ⟨w.heap.size, 0, none⟩ = some (.int .i64 view) ∧ w4.cell? ⟨w.heap.size, 1, none⟩ = some (.int .i64 turn) ∧ w4.cell? ⟨w.heap.size + 1, 0, none⟩ = some (.int .i64 c) ∧ w4.cell? ⟨w.heap.size + 1, 1, none⟩ = some (.int .i64 s) ∧ w4.cell? ⟨w.heap.size + 1, 2, none⟩ = some (.slice Ao op.length co) ∧ w4.cell? ⟨w.heap.size + 1, 3, none⟩ = some (.slice As sg.length cs)) ∧ Aside0 (Fr (fun _ => False) w3 w4 ∧ Rd w4 A2 (bodyA c s op sg) ∧ (bodyA c s op sg).length ≤ c2) := by
    intro w1 hf1
    have F := F3.trans hf1 (fun _ h => h.elim)
    refine (body_calls c s Ao co op As cs sg w1 (HH.out.1.lies F) hco (HH.out.2.1.lies F) hcs HH.out.2.2).mono ?_
    rintro e w4 ⟨A2, c2, rfl, hc2, hO, hb⟩
    have f4 := hf1.trans (Fr.of_below hb (fun _ => False)) (fun _ h => h.elim)
    exact ⟨A2, c2, rfl, hS _ f4, ⟨f4, QB.rd (q_of_own hO), hc2⟩⟩
  have HB : ∀ w4 A2 c2, Aside0 (Fr (fun _ => False) w3 w4 ∧ Rd w4 A2 (bodyA c s op sg) ∧ (bodyA c s op sg).length ≤ c2) → Calls Try.prog 35 #[.int .i64 2, .agg #[.int .i64 view, .int .i64 turn], .int .i64 slot, .slice A2 (bodyA c s op sg).length c2, .int .i64 signer] w4 fun e w5 => ∃ A5 c5, e = .returned (.agg #[.int .i64 signer, .slice A5 sv.length c5]) ∧ (w5.cell? ⟨w.heap.size, 0, none⟩ = some (.int .i64 view) ∧ w5.cell? ⟨w.heap.size, 1, none⟩ = some (.int .i64 turn) ∧ w5.cell? ⟨w.heap.size + 1, 0, none⟩ = some (.int .i64 c) ∧ w5.cell? ⟨w.heap.size + 1, 1, none⟩ = some (.int .i64 s) ∧ w5.cell? ⟨w.heap.size + 1, 2, none⟩ = some (.slice Ao op.length co) ∧ w5.cell? ⟨w.heap.size + 1, 3, none⟩ = some (.slice As sg.length cs)) ∧ w5.heap[w.heap.size + 2]? = some (.cells Z2v 55 (0, 0)) ∧ Aside0 (Fr (fun _ => False) w3 w5 ∧ OB w5 (w.heap.size + 3) (.slice A5 sv.length c5) sv ∧ sv.length ≤ c5) := by
    intro w4 A2 c2 H
    have hl := bodyA_len c s op sg
    have hm := make_calls 2 view turn slot A2 c2 (bodyA c s op sg) signer w4 H.out.2.1 H.out.2.2 (by have := HH.out.2.2; omega)
    rw [hsv] at hm
    refine hm.mono ?_
    rintro e w5 ⟨A5, c5, rfl, hc5, hO, hb⟩
    have f5 := H.out.1.trans (Fr.of_below hb (fun _ => False)) (fun _ h => h.elim)
    have z4 := H.out.1.size
    exact ⟨A5, c5, rfl, hS _ f5, f5.blk hg3 (fun h => h), ⟨f5, hO.lower (by omega), hc5⟩⟩
  have hs3' := hS _ (Fr.refl _ _)
  have HA := Aside0.mk HA
  have HB := Aside0.mk HB
  have HS9 := Aside0.mk hs9
  have HF := Aside0.mk F3
  clear hS2 hb2 hz2 hb3 hs3 hg3 f3 F3 hS hs9 hsv
  go_wp2_with (fail)
  refine wp_region_held_drew (S := (fun w' => w'.cell? ⟨w.heap.size, 0, none⟩ = some (.int .i64 view) ∧ w'.cell? ⟨w.heap.size, 1, none⟩ = some (.int .i64 turn) ∧ w'.cell? ⟨w.heap.size + 1, 0, none⟩ = some (.int .i64 c) ∧ w'.cell? ⟨w.heap.size + 1, 1, none⟩ = some (.int .i64 s) ∧ w'.cell? ⟨w.heap.size + 1, 2, none⟩ = some (.slice Ao op.length co) ∧ w'.cell? ⟨w.heap.size + 1, 3, none⟩ = some (.slice As sg.length cs))) (by kernel_rfl) hs3' (fun hHeld => ?_)
  refine wpAnyH_take (i := 0) (oi := ⟨some 9, _, _, _, _, _⟩) (v := (.agg #[.int .i64 view, .int .i64 turn])) rfl (by kernel_rfl) (by kernel_rfl) (by kernel_rfl) (fun _ _ _ h => h) (Or.inl ⟨by rfl, by (intro w' hSw; (try dsimp only at hSw); go_simp)⟩) (by assumption) ?_
  try simp only [Act.put, List.setIfInBounds_toArray, List.set_cons_zero, List.set_cons_succ]
  refine wpAnyH_take (i := 1) (oi := ⟨some 10, _, _, _, _, _⟩) (v := (.int .i64 slot)) rfl (by kernel_rfl) (by kernel_rfl) (by kernel_rfl) (fun _ _ _ h => h) (Or.inl ⟨by rfl, by (intro w' hSw; (try dsimp only at hSw); go_simp)⟩) (by assumption) ?_
  try simp only [Act.put, List.setIfInBounds_toArray, List.set_cons_zero, List.set_cons_succ]
  refine wpAnyH_take (i := 2) (oi := ⟨some 11, _, _, _, _, _⟩) (v := (.agg #[.int .i64 c, .int .i64 s, .slice Ao op.length co, .slice As sg.length cs])) rfl (by kernel_rfl) (by kernel_rfl) (by kernel_rfl) (fun _ _ _ h => h) (Or.inl ⟨by rfl, by (intro w' hSw; (try dsimp only at hSw); go_simp)⟩) (by assumption) ?_
  try simp only [Act.put, List.setIfInBounds_toArray, List.set_cons_zero, List.set_cons_succ]
  refine wpAnyH_take (i := 4) (oi := ⟨some 13, _, _, _, _, _⟩) (v := (.int .i64 signer)) rfl (by kernel_rfl) (by kernel_rfl) (by kernel_rfl) (fun _ _ _ h => h) (Or.inl ⟨by rfl, by (intro w' hSw; (try dsimp only at hSw); go_simp)⟩) (by assumption) ?_
  try simp only [Act.put, List.setIfInBounds_toArray, List.set_cons_zero, List.set_cons_succ]
  refine wpAnyH_ready (rs := [3]) (by kernel_rfl) (by simp) ?_
  refine AllReadyH.cons (o := ⟨some 12, _, _, _, _, _⟩) rfl (fun K hK => ?_) AllReadyH.nil
  go_simp
  go_at_call 21
  refine (HA.out _ (Fr.refl _ _).of_drew).mono ?_
  rintro e w4 ⟨A2, c2, rfl, hs4, H4⟩
  refine hK.out _ _ hs4 (fun hHeld => ?_)
  try simp only [Act.put, List.setIfInBounds_toArray, List.set_cons_zero, List.set_cons_succ]
  refine wpAnyH_ready (rs := [5]) (by kernel_rfl) (by simp) ?_
  refine AllReadyH.cons (o := ⟨some 14, _, _, _, _, _⟩) rfl (fun K hK => ?_) AllReadyH.nil
  go_simp
  go_at_call 35
  refine (HB.out _ _ _ H4).mono ?_
  rintro e w5 ⟨A5, c5, rfl, hs5, hg5, H5⟩
  refine hK.out _ _ hs5 (fun hHeld => ?_)
  try simp only [Act.put, List.setIfInBounds_toArray, List.set_cons_zero, List.set_cons_succ]
  refine wpAnyH_ready (rs := [6]) (by kernel_rfl) (by simp) ?_
  refine AllReadyH.cons (o := ⟨none, _, _, _, _, _⟩) rfl (fun K hK => ?_) AllReadyH.nil
  rw [if_pos (by rfl)]
  refine wp_store_abs 55 _ _ (by rfl) (w.heap.size + 2) #[.int .i64 signer, .slice A5 sv.length c5] (by rfl) (by rfl) 55 Z2v hg5 (by kernel_rfl) (by rfl) (by simp [Value.oneCell']) ?_
  intro w9 hf9 hz9 hg9
  have hs6 := HS9.out _ _ hs5 hf9
  refine hK.out _ _ hs6 (fun hHeld => ?_)
  try simp only [Act.put, List.setIfInBounds_toArray, List.set_cons_zero, List.set_cons_succ]
  refine wpAnyH_done (by kernel_rfl) ?_ _
  clear hs3' hs4 hs5 hs6 hHeld
  go_wp2
  refine bodyPost_ret (results_cell_row (by rfl) _ _ (w.heap.size + 2) 55 #[.int .i64 signer, .slice A5 sv.length c5] (0, 0) _ (by rfl) hg9 Try.underlying55 (by rfl) (by kernel_rfl)) rfl ?_
  have F9 : Fr (fun _ => False) w w9 := (HF.out.trans H5.out.1 (fun _ h => h.elim)).trans hf9 (fun k hk => .inr (by omega))
  exact ⟨A5, c5, rfl, H5.out.2.2, (H5.out.2.1.fr hf9 (fun k hk e => by have := H5.out.2.1.base k hk; omega)).lower (by omega), frB F9⟩
/-- Bytes compared: less is -1, more is 1. -/
def cmpA (a b : List Int) : Int := Extern.BytealgCompare.cmp ⟨ByteArray.empty.data ++ (Lib.bytesOf a).toArray⟩ ⟨ByteArray.empty.data ++ (Lib.bytesOf b).toArray⟩
theorem run_bytesOf (A : Option Addr) (c : Nat) (l : List Int) (w : World) (h : Rd w A l) : (Extern.Bytes.bytesOf (.slice A l.length c)).run Try.prog w = .ok ⟨ByteArray.empty.data ++ (Lib.bytesOf l).toArray⟩ w := by
  cases A with
  | none =>
    have : l = [] := by
      cases l with
      | nil => rfl
      | cons x l => obtain ⟨_, e, _⟩ := h 0 (.int .u8 x) rfl; cases e
    subst this
    rfl
  | some a =>
    exact Lib.run_loadBytesX w l a .empty (fun j x hx => by
      obtain ⟨ad, e, hc⟩ := h j (.int .u8 x) (by simp [encs, hx])
      injection e with e
      subst e
      exact hc)
set_option maxHeartbeats 8000000 in
set_option maxRecDepth 100000 in
theorem bcmp_calls (A0 : Option Addr) (c0 : Nat) (l0 : List Int) (A1 : Option Addr) (c1 : Nat) (l1 : List Int) (w : World) (h0 : Rd w A0 l0) (h1 : Rd w A1 l1) :
    Calls Try.prog 39 #[.slice A0 l0.length c0, .slice A1 l1.length c1] w fun e w' => e = .returned (.int .i64 (cmpA l0 l1)) ∧ Below w.heap.size w w' := by
  have hrun : (Extern.BytealgCompare.compare #[.slice A0 l0.length c0, .slice A1 l1.length c1]).run Try.prog w = .ok (.int .i64 (cmpA l0 l1)) w := by
    rw [show Extern.BytealgCompare.compare #[.slice A0 l0.length c0, .slice A1 l1.length c1] = (do pure (goInt (Extern.BytealgCompare.cmp (← Extern.Bytes.bytesOf (.slice A0 l0.length c0)) (← Extern.Bytes.bytesOf (.slice A1 l1.length c1))))) from rfl]
    simp only [Sem.run_bind, run_bytesOf A0 c0 l0 w h0, run_bytesOf A1 c1 l1 w h1, Result.andThen_ok]
    rfl
  clear h0 h1
  go_enter Try.func39, Try.ntmps39
  go_wp2
  rw [run_callFunc_extern Try.func50 (by kernel_rfl) (by kernel_rfl) (by kernel_rfl) (e := Extern.BytealgCompare.compare) (by kernel_rfl), hrun]
  simp only [Result.andThen]
  rw [Oper.upon_value]
  go_wp2
  go_ret
  exact ⟨rfl, Below.refl _ _⟩
end Go.Proofs.Ytnabilhcmplhcaa.Sha
