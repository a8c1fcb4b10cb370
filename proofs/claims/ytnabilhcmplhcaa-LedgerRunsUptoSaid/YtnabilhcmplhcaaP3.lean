/- Parts of the proof of LedgerRunsUptoSaid: laid together and cut down to what LedgerRuns' proof uses (parts: ShaM1). -/
import Derived.Test.YtnabilhcmplhcaaP2
import Derived.Deep.QuietTactic
import Derived.BigQuiet
import Derived.StillTailTactics
import Derived.IntWalk
import Derived.Deep.LoopGhost
import Derived.Laws.CopyOwn
import Derived.Deep.MidRow
import Derived.Test.YtnabilhcmplhcaaP1
import Derived.Great.Ranges
section
/- Parts of one work, laid together: ShaA, ShaB, ShaC, ShaD, ShaE, ShaK, ShaS. -/
/-
  SHA's block: words as the machine reckons them; the frame written out; small laws.
-/
set_option linter.unusedVariables false
set_option linter.unusedSimpArgs false
namespace Go.Proofs.Ytnabilhcmplhcaa.Sha
open Go.RowKit Go.Proofs.YtnabilhcmplhcaaW.PrintWords Go.Proofs.YtnabilhcmplhcaaW.PrintLast Go.Proofs.YtnabilhcmplhcaaW.PrintMore Go.Proofs.Ytnabilhcmplhcaa.Q Go.Proofs.Ytnabilhcmplhcaa.Fr

def rotr (x n : Int) : Int := Go.bits .or .u32 (IntKind.u32.wrap (x * 2 ^ (32 - n).toNat)) (x / 2 ^ n.toNat)
def turnable (n : Int) : Prop := n = 2 ∨ n = 6 ∨ n = 7 ∨ n = 11 ∨ n = 13 ∨ n = 17 ∨ n = 18 ∨ n = 19 ∨ n = 22 ∨ n = 25
theorem ror_f (x n : Int) (h : turnable n) : sha_ror.f x n = some (rotr x n) := by
  have e : ∀ m : Int, turnable m → Go.bits .and .u64 (IntKind.u64.wrap (wrap64 (-m))) 31 = 32 - m ∧ IntKind.u64.wrap (32 - (32 - m)) = m := by
    rintro m (rfl|rfl|rfl|rfl|rfl|rfl|rfl|rfl|rfl|rfl) <;> exact ⟨by decide +kernel, by decide +kernel⟩
  have b : 0 ≤ 32 - n ∧ 0 ≤ n ∧ (32 - n).toNat ≤ 32 ∧ n.toNat ≤ 32 := by unfold turnable at h; omega
  have e1 := (e n h).1
  have e2 := (e n h).2
  simp only [sha_ror.f, bits_RotateLeft32.f, e1, e2, if_pos b.1, if_pos b.2.1, Option.bind_some, rotr, shl, shr]
  rw [show min (32 - n).toNat IntKind.u32.bits = (32 - n).toNat from Nat.min_eq_left b.2.2.1, show min n.toNat IntKind.u32.bits = n.toNat from Nat.min_eq_left b.2.2.2]

/-- ror leaves the world as it is. -/
theorem rot_same (x m : Int) (ji3 ji5 ji6 ji8 r : Int) (hji3 : Go.bits .and .u64 (IntKind.u64.wrap m) 31 = ji3) (c4 : 0 ≤ ji3) (hji5 : shl .u32 x ji3 = ji5) (hji6 : IntKind.u64.wrap (32 - ji3) = ji6) (c7 : 0 ≤ ji6)
    (hji8 : shr .u32 x ji6 = ji8) (hr : Go.bits .or .u32 ji5 ji8 = r) (w : World) : Calls Try.prog 75 #[.int .u32 x, .int .i64 m] w fun e w' => e = .returned (.int .u32 r) ∧ w' = w := by
  have c4b0 := eq_true c4
  have c4b1 : decide (0 ≤ (ji3)) = true := decide_eq_true c4
  have hji5_ : (IntKind.u32.wrap (x * 2 ^ min (ji3).toNat 32)) = ji5 := hji5
  have hji5z : (ji3) ≤ 32 → (IntKind.u32.wrap (x * 2 ^ (ji3).toNat)) = ji5 := shl_small hji5
  have c7b0 := eq_true c7
  have c7b1 : decide (0 ≤ (ji6)) = true := decide_eq_true c7
  have hji8_ : (x / 2 ^ min (ji6).toNat 32) = ji8 := hji8
  have hji8z : (ji6) ≤ 32 → (x / 2 ^ (ji6).toNat) = ji8 := shr_small hji8
  clear c4 c7
  go_enter Try.func75, Try.ntmps75
  go_wp2
  go_ret
  exact ⟨by first | rfl | (simp; done) | (simp only [← hr, ← hji3, ← hji5, ← hji6, ← hji8] <;> (first | rfl | simp)) | (simp [*]; done), rfl⟩
theorem ror_same (x n : Int) (h : turnable n) (w : World) : Calls Try.prog 74 #[.int .u32 x, .int .i64 n] w fun e w' => e = .returned (.int .u32 (rotr x n)) ∧ w' = w := by
  have e : ∀ m : Int, turnable m → Go.bits .and .u64 (IntKind.u64.wrap (wrap64 (-m))) 31 = 32 - m ∧ IntKind.u64.wrap (32 - (32 - m)) = m := by
    rintro m (rfl|rfl|rfl|rfl|rfl|rfl|rfl|rfl|rfl|rfl) <;> exact ⟨by decide +kernel, by decide +kernel⟩
  have b : 0 ≤ 32 - n ∧ 0 ≤ n ∧ (32 - n).toNat ≤ 32 ∧ n.toNat ≤ 32 := by unfold turnable at h; omega
  have e1 := (e n h).1
  have e2 := (e n h).2
  have hc := fun w => rot_same x (wrap64 (-n)) (32 - n) _ n _ _ e1 b.1 rfl e2 b.2.1 rfl rfl w
  have hr : Go.bits .or .u32 (shl .u32 x (32 - n)) (shr .u32 x n) = rotr x n := by
    simp only [rotr, shl, shr]
    rw [show min (32 - n).toNat IntKind.u32.bits = (32 - n).toNat from Nat.min_eq_left b.2.2.1, show min n.toNat IntKind.u32.bits = n.toNat from Nat.min_eq_left b.2.2.2]
  rw [hr] at hc
  clear e e1 e2 hr b h
  go_enter Try.func74, Try.ntmps74
  go_wp2_with (first | ((with_reducible refine gate_callee (f := 75) rfl ?_); refine goesL_ (some 8) rfl rfl Try.func75 (by kernel_rfl) rfl #[.int .u32 x, .int .i64 (wrap64 (-n))] rfl (by (try simp only [List.map_toArray, List.map_cons, List.map_nil]); first | done | rfl) ?_; (with_reducible refine (hc _).mono ?_); rintro e w' ⟨rfl, rfl⟩; refine ⟨_, rfl, ?_⟩))
  go_ret
  exact ⟨by first | rfl | (simp; done) | (simp [*]; done), rfl⟩
/-- The loops' bodies, in the order of the text. -/
def loopsIn : Code → List Code
  | .loop c => [c]
  | .seq a b => loopsIn a ++ loopsIn b
  | .block _ c => loopsIn c
  | .scope c => loopsIn c
  | .cond _ a b => loopsIn a ++ loopsIn b
  | _ => []
noncomputable def bodyN (f : Func) (n : Nat) : Code := (((f.body.map loopsIn).getD [])[n]?).getD .skip

theorem encs_len {α : Type} (e : α → Value) (l : List α) : (encs e l).length = l.length := by simp [encs]
theorem cellW {w : World} {g : Nat} {W : List Int} {t : TypeId} {tl : List Value} (h : w.heap[g]? = some (.cells (encs (Value.int .u32) W ++ tl).toArray t (0, 0))) (i : Int) (h0 : 0 ≤ i) (h1 : i < W.length) : w.cell? ⟨g, i.toNat, none⟩ = some (.int .u32 (W.getD i.toNat 0)) := by
  have hl : i.toNat < W.length := by omega
  have hx : (encs (Value.int .u32) W ++ tl)[i.toNat]? = some (.int .u32 (W.getD i.toNat 0)) := by
    rw [List.getElem?_append_left (by simpa [encs] using hl)]
    simp [encs, List.getElem?_eq_getElem hl, List.getD_eq_getElem?_getD]
  simp [World.cell?, h, hx]
theorem cellV {w : World} {g : Nat} {W : List Int} {t : TypeId} (h : w.heap[g]? = some (.cells (encs (Value.int .u32) W).toArray t (0, 0))) (i : Int) (h0 : 0 ≤ i) (h1 : i < W.length) : w.cell? ⟨g, i.toNat, none⟩ = some (.int .u32 (W.getD i.toNat 0)) :=
  cellW (tl := []) (by simpa using h) i h0 h1

/-- A region that draws; what reads stands ahead of the tail; the world is a letter. -/
theorem region_tail {P : Program} {id : Nat} {Q : Exit → Act → World → Prop} {a : Act} {w : World} {l : List Oper} (n : Nat) (hm : P.follows .mixedOrders = true) (hB : Region.lexTailB .any l.toArray n = true)
    (h : ∀ w', w' = w.drew → wpStill P l.toArray w' (fun a' => wpList P l.toArray Q (l.drop n) a' w') (l.take n) a) : (Code.region id l.toArray true).wp P Q a w := wp_region_still_tail n hm hB (h w.drew rfl)
/-- A loop of N rounds, told upward. -/
theorem wp_loop_up {P : Program} {Q : Exit → Act → World → Prop} {a : Act} {w : World} {c : Code} (N : Nat) (J : Nat → Act → World → Prop) (h0 : J 0 a w)
    (round : ∀ t a w, t ≤ N → J t a w → c.wp P (Exit.then (fun a' w' => t < N ∧ J (t + 1) a' w') Q) a w) : (Code.loop c).wp P Q a w := by
  refine wp_loop_ghost (fun n a w => n ≤ N ∧ J (N - n) a w) N ⟨Nat.le_refl _, by rw [Nat.sub_self]; exact h0⟩ ?_
  rintro n a w ⟨hn, hJ⟩
  refine Code.wp_mono ?_ (round (N - n) a w (by omega) hJ)
  intro e a' w' hq
  cases e with
  | normal => exact ⟨n - 1, by have := hq.1; omega, by omega, by have h2 := hq.2; rw [show N - (n - 1) = N - n + 1 by have := hq.1; omega]; exact h2⟩
  | _ => exact hq
theorem heap_putW {w : World} {g : Nat} {W : List Int} {t : TypeId} {tl : List Value} (h : w.heap[g]? = some (.cells (encs (Value.int .u32) W ++ tl).toArray t (0, 0))) (i : Nat) (hi : i < W.length) (v : Int) :
    (w.setCell ⟨g, i, none⟩ (.int .u32 v)).heap[g]? = some (.cells (encs (Value.int .u32) (W.set i v) ++ tl).toArray t (0, 0)) := by
  rw [setCell_eq_setRow w g i _ t (0, 0) _ h, setRow_heap w g _ _ t _ h]
  congr 2
  have : i < (encs (Value.int .u32) W).length := by rw [encs_len]; exact hi
  simp only [List.setIfInBounds_toArray]
  rw [List.set_append_left _ _ this]
  simp [encs]
theorem heap_putV {w : World} {g : Nat} {W : List Int} {t : TypeId} (h : w.heap[g]? = some (.cells (encs (Value.int .u32) W).toArray t (0, 0))) (i : Nat) (hi : i < W.length) (v : Int) :
    (w.setCell ⟨g, i, none⟩ (.int .u32 v)).heap[g]? = some (.cells (encs (Value.int .u32) (W.set i v)).toArray t (0, 0)) := by
  have := heap_putW (tl := []) (by simpa using h) i hi v
  simpa using this
theorem frozenV {w : World} {g : Nat} {cs : Array Value} {t : TypeId} (h : w.heap[g]? = some (.cells cs t (0, 0))) (i : Nat) : w.frozen? ⟨g, i, none⟩ = false := by simp [World.frozen?, h]
/-- The functions of the schedule. -/
def X3 (a b c : Int) : Int := Go.bits .xor .u32 (Go.bits .xor .u32 a b) c
def sig0 (x : Int) : Int := X3 (rotr x 7) (rotr x 18) (x / 8)
def sig1 (x : Int) : Int := X3 (rotr x 17) (rotr x 19) (x / 1024)
def sch (W : List Int) (t : Int) : Int := (sig1 (W.getD (t - 2).toNat 0) + W.getD (t - 7).toNat 0 + sig0 (W.getD (t - 15).toNat 0) + W.getD (t - 16).toNat 0) % 4294967296
/-- A word of four bytes. -/
def word4 (a b c d : Int) : Int := Go.bits .or .u32 (Go.bits .or .u32 (Go.bits .or .u32 (a % 4294967296 * 16777216 % 4294967296) (b % 4294967296 * 65536 % 4294967296)) (c % 4294967296 * 256 % 4294967296)) (d % 4294967296)
def wrd (P : List Int) (t : Int) : Int := word4 (P.getD (4 * t).toNat 0) (P.getD (4 * t + 1).toNat 0) (P.getD (4 * t + 2).toNat 0) (P.getD (4 * t + 3).toNat 0)
/-- The words of a block, as far as they are known behind t rounds. -/
def sched (P : List Int) : Nat → List Int
  | 0 => List.replicate 64 0
  | t + 1 => (sched P t).set t (if t < 16 then wrd P t else sch (sched P t) t)
theorem sched_len (P : List Int) (t : Nat) : (sched P t).length = 64 := by
  induction t with
  | zero => simp [sched]
  | succ t ih => simp [sched, ih]
theorem addr_block (p : Addr) (i : Nat) : (p.add i).block = p.block := by unfold Addr.add; split <;> rfl
/-- A round. -/
def T1f (e f g h k w : Int) : Int := IntKind.u32.wrap (IntKind.u32.wrap (IntKind.u32.wrap (IntKind.u32.wrap (h + Go.bits .xor .u32 (Go.bits .xor .u32 (rotr e 6) (rotr e 11)) (rotr e 25)) + Go.bits .xor .u32 (Go.bits .and .u32 e f) (Go.bits .and .u32 (Go.bits .xor .u32 IntKind.u32.max e) g)) + k) + w)
def T2f (a b c : Int) : Int := IntKind.u32.wrap (Go.bits .xor .u32 (Go.bits .xor .u32 (rotr a 2) (rotr a 13)) (rotr a 22) + Go.bits .xor .u32 (Go.bits .xor .u32 (Go.bits .and .u32 a b) (Go.bits .and .u32 a c)) (Go.bits .and .u32 b c))
def rnd (V : List Int) (k w : Int) : List Int :=
  match V with
  | [a, b, c, d, e, f, g, h] => [(T1f e f g h k w + T2f a b c) % 4294967296, a, b, c, (d + T1f e f g h k w) % 4294967296, e, f, g]
  | V => V
theorem rnd_len (V : List Int) (k w : Int) : (rnd V k w).length = V.length := by unfold rnd; split <;> rfl
def rnds (K W V : List Int) : Nat → List Int
  | 0 => V
  | t + 1 => rnd (rnds K W V t) (K.getD t 0) (W.getD t 0)
theorem rnds_len (K W V : List Int) (t : Nat) : (rnds K W V t).length = V.length := by
  induction t with
  | zero => rfl
  | succ t ih => rw [rnds, rnd_len, ih]
theorem eight {V : List Int} (h : V.length = 8) : ∃ a b c d e f g i, V = [a, b, c, d, e, f, g, i] := by
  match V, h with
  | [a, b, c, d, e, f, g, i], _ => exact ⟨a, b, c, d, e, f, g, i, rfl⟩
/-- The state's words, word by word added to. -/
def adds (S V : List Int) : Nat → List Int
  | 0 => S
  | t + 1 => (adds S V t).set t (((adds S V t).getD t 0 + V.getD t 0) % 4294967296)
theorem adds_len (S V : List Int) (t : Nat) : (adds S V t).length = S.length := by
  induction t with
  | zero => rfl
  | succ t ih => rw [adds, List.length_set, ih]
/-- The table of constants. -/
def Ktab : List Int := [1116352408, 1899447441, 3049323471, 3921009573, 961987163, 1508970993, 2453635748, 2870763221, 3624381080, 310598401, 607225278, 1426881987, 1925078388, 2162078206, 2614888103, 3248222580, 3835390401, 4022224774, 264347078, 604807628, 770255983, 1249150122, 1555081692, 1996064986, 2554220882, 2821834349, 2952996808, 3210313671, 3336571891, 3584528711, 113926993, 338241895, 666307205, 773529912, 1294757372, 1396182291, 1695183700, 1986661051, 2177026350, 2456956037, 2730485921, 2820302411, 3259730800, 3345764771, 3516065817, 3600352804, 4094571909, 275423344, 430227734, 506948616, 659060556, 883997877, 958139571, 1322822218, 1537002063, 1747873779, 1955562222, 2024104815, 2227730452, 2361852424, 2428436474, 2756734187, 3204031479, 3329325298]
def compress (S P : List Int) : List Int := adds S (rnds Ktab (sched P 64) S 64) 8
theorem compress_len (S P : List Int) : (compress S P).length = S.length := adds_len _ _ _
section
variable {P : Program} {ops : Array Oper} {rest : List Oper} {o : Oper} {a : Act} {Q : Exit → Act → World → Prop} {w : World}
theorem wpList_build_abs (hg : o.guard = none) (t : TypeId) (parts : Array (Nat × Operand)) (ho : o.op = .build t parts) (cells : Array Value)
    (hf : P.built t (parts.map fun (i, x) => (i, a.eval x)).toList = some cells)
    (h : wpList P ops Q rest (a.put o.dst (.agg cells)) w) : wpList P ops Q (o :: rest) a w :=
  wpList_build hg t parts ho (by rw [hf]; rfl) (by rw [hf]; exact h)
end
/-- A frame of n slots. -/
def Fm (n : Nat) (a : Act) : Prop := a.tmps.size = n ∧ a.defers = []
def sl (a : Act) (i : Nat) : Value := a.tmps.getD i undef
set_option maxRecDepth 100000 in
theorem fm187 {a : Act} (h : Fm 187 a) : a = ⟨#[sl a 0, sl a 1, sl a 2, sl a 3, sl a 4, sl a 5, sl a 6, sl a 7, sl a 8, sl a 9, sl a 10, sl a 11, sl a 12, sl a 13, sl a 14, sl a 15, sl a 16, sl a 17, sl a 18, sl a 19, sl a 20, sl a 21, sl a 22, sl a 23, sl a 24, sl a 25, sl a 26, sl a 27, sl a 28, sl a 29, sl a 30, sl a 31, sl a 32, sl a 33, sl a 34, sl a 35, sl a 36, sl a 37, sl a 38, sl a 39, sl a 40, sl a 41, sl a 42, sl a 43, sl a 44, sl a 45, sl a 46, sl a 47, sl a 48, sl a 49, sl a 50, sl a 51, sl a 52, sl a 53, sl a 54, sl a 55, sl a 56, sl a 57, sl a 58, sl a 59, sl a 60, sl a 61, sl a 62, sl a 63, sl a 64, sl a 65, sl a 66, sl a 67, sl a 68, sl a 69, sl a 70, sl a 71, sl a 72, sl a 73, sl a 74, sl a 75, sl a 76, sl a 77, sl a 78, sl a 79, sl a 80, sl a 81, sl a 82, sl a 83, sl a 84, sl a 85, sl a 86, sl a 87, sl a 88, sl a 89, sl a 90, sl a 91, sl a 92, sl a 93, sl a 94, sl a 95, sl a 96, sl a 97, sl a 98, sl a 99, sl a 100, sl a 101, sl a 102, sl a 103, sl a 104, sl a 105, sl a 106, sl a 107, sl a 108, sl a 109, sl a 110, sl a 111, sl a 112, sl a 113, sl a 114, sl a 115, sl a 116, sl a 117, sl a 118, sl a 119, sl a 120, sl a 121, sl a 122, sl a 123, sl a 124, sl a 125, sl a 126, sl a 127, sl a 128, sl a 129, sl a 130, sl a 131, sl a 132, sl a 133, sl a 134, sl a 135, sl a 136, sl a 137, sl a 138, sl a 139, sl a 140, sl a 141, sl a 142, sl a 143, sl a 144, sl a 145, sl a 146, sl a 147, sl a 148, sl a 149, sl a 150, sl a 151, sl a 152, sl a 153, sl a 154, sl a 155, sl a 156, sl a 157, sl a 158, sl a 159, sl a 160, sl a 161, sl a 162, sl a 163, sl a 164, sl a 165, sl a 166, sl a 167, sl a 168, sl a 169, sl a 170, sl a 171, sl a 172, sl a 173, sl a 174, sl a 175, sl a 176, sl a 177, sl a 178, sl a 179, sl a 180, sl a 181, sl a 182, sl a 183, sl a 184, sl a 185, sl a 186], []⟩ := by
  obtain ⟨T, D⟩ := a
  obtain ⟨h1, h2⟩ := h
  obtain rfl : D = [] := h2
  obtain ⟨l⟩ := T
  have h1 : l.length = 187 := h1
  congr 2
  refine List.ext_getElem? fun i => ?_
  by_cases hi : i < 187
  · have hx : ∀ j, j < 187 → l[j]? = some (sl ⟨⟨l⟩, []⟩ j) := fun j hj => by
      have hl : j < l.length := by omega
      simp [sl, Array.getD_eq_getD_getElem?, List.getElem?_eq_getElem hl]
    rw [hx i hi]
    have : ∀ (s : Nat → Value) (i : Nat), i < 187 → ((List.range 187).map s)[i]? = some (s i) := fun s i hi => by simp [hi]
    exact (this _ i hi).symm
  · have h2 : ∀ (s : Nat → Value), ((List.range 187).map s)[i]? = none := fun s => by simp; omega
    exact (List.getElem?_eq_none (by omega)).trans (h2 _).symm
set_option maxRecDepth 100000 in
theorem fm74 {a : Act} (h : Fm 74 a) : a = ⟨#[sl a 0, sl a 1, sl a 2, sl a 3, sl a 4, sl a 5, sl a 6, sl a 7, sl a 8, sl a 9, sl a 10, sl a 11, sl a 12, sl a 13, sl a 14, sl a 15, sl a 16, sl a 17, sl a 18, sl a 19, sl a 20, sl a 21, sl a 22, sl a 23, sl a 24, sl a 25, sl a 26, sl a 27, sl a 28, sl a 29, sl a 30, sl a 31, sl a 32, sl a 33, sl a 34, sl a 35, sl a 36, sl a 37, sl a 38, sl a 39, sl a 40, sl a 41, sl a 42, sl a 43, sl a 44, sl a 45, sl a 46, sl a 47, sl a 48, sl a 49, sl a 50, sl a 51, sl a 52, sl a 53, sl a 54, sl a 55, sl a 56, sl a 57, sl a 58, sl a 59, sl a 60, sl a 61, sl a 62, sl a 63, sl a 64, sl a 65, sl a 66, sl a 67, sl a 68, sl a 69, sl a 70, sl a 71, sl a 72, sl a 73], []⟩ := by
  obtain ⟨T, D⟩ := a
  obtain ⟨h1, h2⟩ := h
  obtain rfl : D = [] := h2
  obtain ⟨l⟩ := T
  have h1 : l.length = 74 := h1
  congr 2
  refine List.ext_getElem? fun i => ?_
  by_cases hi : i < 74
  · have hx : ∀ j, j < 74 → l[j]? = some (sl ⟨⟨l⟩, []⟩ j) := fun j hj => by
      have hl : j < l.length := by omega
      simp [sl, Array.getD_eq_getD_getElem?, List.getElem?_eq_getElem hl]
    rw [hx i hi]
    have : ∀ (s : Nat → Value) (i : Nat), i < 74 → ((List.range 74).map s)[i]? = some (s i) := fun s i hi => by simp [hi]
    exact (this _ i hi).symm
  · have h2 : ∀ (s : Nat → Value), ((List.range 74).map s)[i]? = none := fun s => by simp; omega
    exact (List.getElem?_eq_none (by omega)).trans (h2 _).symm
set_option maxRecDepth 100000 in
theorem fm113 {a : Act} (h : Fm 113 a) : a = ⟨#[sl a 0, sl a 1, sl a 2, sl a 3, sl a 4, sl a 5, sl a 6, sl a 7, sl a 8, sl a 9, sl a 10, sl a 11, sl a 12, sl a 13, sl a 14, sl a 15, sl a 16, sl a 17, sl a 18, sl a 19, sl a 20, sl a 21, sl a 22, sl a 23, sl a 24, sl a 25, sl a 26, sl a 27, sl a 28, sl a 29, sl a 30, sl a 31, sl a 32, sl a 33, sl a 34, sl a 35, sl a 36, sl a 37, sl a 38, sl a 39, sl a 40, sl a 41, sl a 42, sl a 43, sl a 44, sl a 45, sl a 46, sl a 47, sl a 48, sl a 49, sl a 50, sl a 51, sl a 52, sl a 53, sl a 54, sl a 55, sl a 56, sl a 57, sl a 58, sl a 59, sl a 60, sl a 61, sl a 62, sl a 63, sl a 64, sl a 65, sl a 66, sl a 67, sl a 68, sl a 69, sl a 70, sl a 71, sl a 72, sl a 73, sl a 74, sl a 75, sl a 76, sl a 77, sl a 78, sl a 79, sl a 80, sl a 81, sl a 82, sl a 83, sl a 84, sl a 85, sl a 86, sl a 87, sl a 88, sl a 89, sl a 90, sl a 91, sl a 92, sl a 93, sl a 94, sl a 95, sl a 96, sl a 97, sl a 98, sl a 99, sl a 100, sl a 101, sl a 102, sl a 103, sl a 104, sl a 105, sl a 106, sl a 107, sl a 108, sl a 109, sl a 110, sl a 111, sl a 112], []⟩ := by
  obtain ⟨T, D⟩ := a
  obtain ⟨h1, h2⟩ := h
  obtain rfl : D = [] := h2
  obtain ⟨l⟩ := T
  have h1 : l.length = 113 := h1
  congr 2
  refine List.ext_getElem? fun i => ?_
  by_cases hi : i < 113
  · have hx : ∀ j, j < 113 → l[j]? = some (sl ⟨⟨l⟩, []⟩ j) := fun j hj => by
      have hl : j < l.length := by omega
      simp [sl, Array.getD_eq_getD_getElem?, List.getElem?_eq_getElem hl]
    rw [hx i hi]
    have : ∀ (s : Nat → Value) (i : Nat), i < 113 → ((List.range 113).map s)[i]? = some (s i) := fun s i hi => by simp [hi]
    exact (this _ i hi).symm
  · have h2 : ∀ (s : Nat → Value), ((List.range 113).map s)[i]? = none := fun s => by simp; omega
    exact (List.getElem?_eq_none (by omega)).trans (h2 _).symm
set_option maxRecDepth 100000 in
theorem fm55 {a : Act} (h : Fm 55 a) : a = ⟨#[sl a 0, sl a 1, sl a 2, sl a 3, sl a 4, sl a 5, sl a 6, sl a 7, sl a 8, sl a 9, sl a 10, sl a 11, sl a 12, sl a 13, sl a 14, sl a 15, sl a 16, sl a 17, sl a 18, sl a 19, sl a 20, sl a 21, sl a 22, sl a 23, sl a 24, sl a 25, sl a 26, sl a 27, sl a 28, sl a 29, sl a 30, sl a 31, sl a 32, sl a 33, sl a 34, sl a 35, sl a 36, sl a 37, sl a 38, sl a 39, sl a 40, sl a 41, sl a 42, sl a 43, sl a 44, sl a 45, sl a 46, sl a 47, sl a 48, sl a 49, sl a 50, sl a 51, sl a 52, sl a 53, sl a 54], []⟩ := by
  obtain ⟨T, D⟩ := a
  obtain ⟨h1, h2⟩ := h
  obtain rfl : D = [] := h2
  obtain ⟨l⟩ := T
  have h1 : l.length = 55 := h1
  congr 2
  refine List.ext_getElem? fun i => ?_
  by_cases hi : i < 55
  · have hx : ∀ j, j < 55 → l[j]? = some (sl ⟨⟨l⟩, []⟩ j) := fun j hj => by
      have hl : j < l.length := by omega
      simp [sl, Array.getD_eq_getD_getElem?, List.getElem?_eq_getElem hl]
    rw [hx i hi]
    have : ∀ (s : Nat → Value) (i : Nat), i < 55 → ((List.range 55).map s)[i]? = some (s i) := fun s i hi => by simp [hi]
    exact (this _ i hi).symm
  · have h2 : ∀ (s : Nat → Value), ((List.range 55).map s)[i]? = none := fun s => by simp; omega
    exact (List.getElem?_eq_none (by omega)).trans (h2 _).symm
set_option maxRecDepth 100000 in
theorem fm72 {a : Act} (h : Fm 72 a) : a = ⟨#[sl a 0, sl a 1, sl a 2, sl a 3, sl a 4, sl a 5, sl a 6, sl a 7, sl a 8, sl a 9, sl a 10, sl a 11, sl a 12, sl a 13, sl a 14, sl a 15, sl a 16, sl a 17, sl a 18, sl a 19, sl a 20, sl a 21, sl a 22, sl a 23, sl a 24, sl a 25, sl a 26, sl a 27, sl a 28, sl a 29, sl a 30, sl a 31, sl a 32, sl a 33, sl a 34, sl a 35, sl a 36, sl a 37, sl a 38, sl a 39, sl a 40, sl a 41, sl a 42, sl a 43, sl a 44, sl a 45, sl a 46, sl a 47, sl a 48, sl a 49, sl a 50, sl a 51, sl a 52, sl a 53, sl a 54, sl a 55, sl a 56, sl a 57, sl a 58, sl a 59, sl a 60, sl a 61, sl a 62, sl a 63, sl a 64, sl a 65, sl a 66, sl a 67, sl a 68, sl a 69, sl a 70, sl a 71], []⟩ := by
  obtain ⟨T, D⟩ := a
  obtain ⟨h1, h2⟩ := h
  obtain rfl : D = [] := h2
  obtain ⟨l⟩ := T
  have h1 : l.length = 72 := h1
  congr 2
  refine List.ext_getElem? fun i => ?_
  by_cases hi : i < 72
  · have hx : ∀ j, j < 72 → l[j]? = some (sl ⟨⟨l⟩, []⟩ j) := fun j hj => by
      have hl : j < l.length := by omega
      simp [sl, Array.getD_eq_getD_getElem?, List.getElem?_eq_getElem hl]
    rw [hx i hi]
    have : ∀ (s : Nat → Value) (i : Nat), i < 72 → ((List.range 72).map s)[i]? = some (s i) := fun s i hi => by simp [hi]
    exact (this _ i hi).symm
  · have h2 : ∀ (s : Nat → Value), ((List.range 72).map s)[i]? = none := fun s => by simp; omega
    exact (List.getElem?_eq_none (by omega)).trans (h2 _).symm
set_option maxRecDepth 100000 in
theorem fm46 {a : Act} (h : Fm 46 a) : a = ⟨#[sl a 0, sl a 1, sl a 2, sl a 3, sl a 4, sl a 5, sl a 6, sl a 7, sl a 8, sl a 9, sl a 10, sl a 11, sl a 12, sl a 13, sl a 14, sl a 15, sl a 16, sl a 17, sl a 18, sl a 19, sl a 20, sl a 21, sl a 22, sl a 23, sl a 24, sl a 25, sl a 26, sl a 27, sl a 28, sl a 29, sl a 30, sl a 31, sl a 32, sl a 33, sl a 34, sl a 35, sl a 36, sl a 37, sl a 38, sl a 39, sl a 40, sl a 41, sl a 42, sl a 43, sl a 44, sl a 45], []⟩ := by
  obtain ⟨T, D⟩ := a
  obtain ⟨h1, h2⟩ := h
  obtain rfl : D = [] := h2
  obtain ⟨l⟩ := T
  have h1 : l.length = 46 := h1
  congr 2
  refine List.ext_getElem? fun i => ?_
  by_cases hi : i < 46
  · have hx : ∀ j, j < 46 → l[j]? = some (sl ⟨⟨l⟩, []⟩ j) := fun j hj => by
      have hl : j < l.length := by omega
      simp [sl, Array.getD_eq_getD_getElem?, List.getElem?_eq_getElem hl]
    rw [hx i hi]
    have : ∀ (s : Nat → Value) (i : Nat), i < 46 → ((List.range 46).map s)[i]? = some (s i) := fun s i hi => by simp [hi]
    exact (this _ i hi).symm
  · have h2 : ∀ (s : Nat → Value), ((List.range 46).map s)[i]? = none := fun s => by simp; omega
    exact (List.getElem?_eq_none (by omega)).trans (h2 _).symm
end Go.Proofs.Ytnabilhcmplhcaa.Sha

/-
  SHA's block, the first loop: the 64 words.
-/
set_option linter.unusedVariables false
set_option linter.unusedSimpArgs false
namespace Go.Proofs.Ytnabilhcmplhcaa.Sha
open Go.RowKit Go.Proofs.YtnabilhcmplhcaaW.PrintWords Go.Proofs.YtnabilhcmplhcaaW.PrintLast Go.Proofs.YtnabilhcmplhcaaW.PrintMore Go.Proofs.Ytnabilhcmplhcaa.Q Go.Proofs.Ytnabilhcmplhcaa.Fr

set_option maxHeartbeats 8000000 in
set_option maxRecDepth 100000 in
theorem round1b (u : Nat → Value) (A1 : Option Addr) (c1 gk gw : Nat) (t : Int) (ht0 : 0 ≤ t) (ht : t < 64) (h16 : ¬ t < 16) (w0 w : World) (W : List Int) (hW : W.length = 64) (hw : w.heap[gw]? = some (.cells (encs (Value.int .u32) W).toArray 121 (0, 0)))
   (hf : Fr (fun k => k = gw) w0 w) 
   (Q : Exit → Act → World → Prop) (hQ : ∀ a' w', Fm 187 a' → sl a' 0 = u 0 → sl a' 1 = .slice A1 64 c1 → sl a' 4 = .pointer (some ⟨gk, 0, none⟩) → sl a' 5 = .pointer (some ⟨gw, 0, none⟩) → sl a' 17 = .int .i64 (t + 1) →
      Fr (fun k => k = gw) w0 w' → w'.heap[gw]? = some (.cells (encs (Value.int .u32) (W.set t.toNat (sch W t))).toArray 121 (0, 0)) → Q .normal a' w') :
    Code.wp Try.prog (bodyN Try.f72 0) Q ⟨#[u 0, .slice A1 64 c1, u 2, u 3, .pointer (some ⟨gk, 0, none⟩), .pointer (some ⟨gw, 0, none⟩), u 6, u 7, u 8, u 9, u 10, u 11, u 12, u 13, u 14, u 15, u 16, .int .i64 t, u 18, u 19, u 20, u 21, u 22, u 23, u 24, u 25, u 26, u 27, u 28, u 29, u 30, u 31, u 32, u 33, u 34, u 35, u 36, u 37, u 38, u 39, u 40, u 41, u 42, u 43, u 44, u 45, u 46, u 47, u 48, u 49, u 50, u 51, u 52, u 53, u 54, u 55, u 56, u 57, u 58, u 59, u 60, u 61, u 62, u 63, u 64, u 65, u 66, u 67, u 68, u 69, u 70, u 71, u 72, u 73, u 74, u 75, u 76, u 77, u 78, u 79, u 80, u 81, u 82, u 83, u 84, u 85, u 86, u 87, u 88, u 89, u 90, u 91, u 92, u 93, u 94, u 95, u 96, u 97, u 98, u 99, u 100, u 101, u 102, u 103, u 104, u 105, u 106, u 107, u 108, u 109, u 110, u 111, u 112, u 113, u 114, u 115, u 116, u 117, u 118, u 119, u 120, u 121, u 122, u 123, u 124, u 125, u 126, u 127, u 128, u 129, u 130, u 131, u 132, u 133, u 134, u 135, u 136, u 137, u 138, u 139, u 140, u 141, u 142, u 143, u 144, u 145, u 146, u 147, u 148, u 149, u 150, u 151, u 152, u 153, u 154, u 155, u 156, u 157, u 158, u 159, u 160, u 161, u 162, u 163, u 164, u 165, u 166, u 167, u 168, u 169, u 170, u 171, u 172, u 173, u 174, u 175, u 176, u 177, u 178, u 179, u 180, u 181, u 182, u 183, u 184, u 185, u 186], []⟩ w := by
  obtain ⟨x, hx⟩ : ∃ x, W.getD (t - 15).toNat 0 = x := ⟨_, rfl⟩
  obtain ⟨y, hy⟩ : ∃ x, W.getD (t - 2).toNat 0 = x := ⟨_, rfl⟩
  obtain ⟨x7, hx7⟩ : ∃ x, W.getD (t - 7).toNat 0 = x := ⟨_, rfl⟩
  obtain ⟨x16, hx16⟩ : ∃ x, W.getD (t - 16).toNat 0 = x := ⟨_, rfl⟩
  rw [show sch W t = (sig1 y + x7 + sig0 x + x16) % 4294967296 by rw [← hx, ← hy, ← hx7, ← hx16]; rfl] at hQ
  conv => arg 2; whnf
  have c0 := decide_eq_true ht
  have c1 := decide_eq_false h16
  go_wp2
  have HW := Aside0.mk hw
  have HF := Aside0.mk hf
  have k15 := cellV hw (t - 15) (by omega) (by omega)
  have k2 := cellV hw (t - 2) (by omega) (by omega)
  rw [hx] at k15
  rw [hy] at k2
  clear hw hf
  have f1 : 0 ≤ t - 15 := by omega
  have f2 : t - 15 < 64 := by omega
  have f3 : 0 ≤ t - 2 := by omega
  have f4 : t - 2 < 64 := by omega
  have e1 : IntKind.i64.wrap (t - 15) = t - 15 := IntWalk.i64_in _ (by omega)
  have e2 : IntKind.i64.wrap (t - 2) = t - 2 := IntWalk.i64_in _ (by omega)
  go_quiet (fail)
  go_wp2
  clear f1 f2 f3 f4 e1 e2 k15 k2 hx hy
  have hw : (w.drewN nq).heap[gw]? = some (.cells (encs (Value.int .u32) W).toArray 121 (0, 0)) := by simpa using HW.out
  have hf : Fr (fun k => k = gw) w0 (w.drewN nq) := HF.out.of_drewN nq
  clear HW HF
  generalize w.drewN nq = w2 at *
  refine region_tail 28 (by kernel_rfl) (by kernel_rfl) ?_
  intro w3 e3
  have hw3 : w3.heap[gw]? = some (.cells (encs (Value.int .u32) W).toArray 121 (0, 0)) := by rw [e3]; exact hw
  have hf3 : Fr (fun k => k = gw) w0 w3 := by rw [e3]; exact hf.of_drew
  clear hw hf e3
  have k7 := cellV hw3 (t - 7) (by omega) (by omega)
  have k16 := cellV hw3 (t - 16) (by omega) (by omega)
  rw [hx7] at k7
  rw [hx16] at k16
  have HW := Aside0.mk hw3
  have HF := Aside0.mk hf3
  clear hw3 hf3
  have f1 : 0 ≤ t - 7 := by omega
  have g1 : 7 ≤ t := by omega
  have f2 : t - 7 < 64 := by omega
  have f3 : 0 ≤ t - 16 := by omega
  have f4 : t - 16 < 64 := by omega
  have e1 : IntKind.i64.wrap (t - 7) = t - 7 := IntWalk.i64_in _ (by omega)
  have e2 : IntKind.i64.wrap (t - 16) = t - 16 := IntWalk.i64_in _ (by omega)
  simp only [List.take_succ_cons, List.take_zero, List.drop_succ_cons, List.drop_zero]
  repeat (first | still_step | still_call (ror_same _ _ (by simp [turnable]) _))
  refine wpStill_nil ?_
  clear f1 g1 f2 f3 f4 e1 e2 k7 k16
  have kt := cellV HW.out t (by omega) (by omega)
  have ft := frozenV HW.out t.toNat
  go_wp2
  refine hQ _ _ ⟨rfl, rfl⟩ rfl rfl rfl rfl rfl ?_ ?_
  · exact HF.out.setCell (.inl rfl) _
  · exact heap_putV HW.out _ (by omega) _

set_option maxHeartbeats 8000000 in
set_option maxRecDepth 100000 in
theorem round1a (u : Nat → Value) (ad : Addr) (P : List Int) (c1 gk gw : Nat) (t : Int) (ht0 : 0 ≤ t) (h16 : t < 16) (w0 w : World) (W : List Int) (hW : W.length = 64) (hw : w.heap[gw]? = some (.cells (encs (Value.int .u32) W).toArray 121 (0, 0)))
   (hp : ∀ i : Int, 0 ≤ i → i < 64 → w.cell? (ad.add i.toNat) = some (.int .u8 (P.getD i.toNat 0))) (hf : Fr (fun k => k = gw) w0 w)
   (Q : Exit → Act → World → Prop) (hQ : ∀ a' w', Fm 187 a' → sl a' 0 = u 0 → sl a' 1 = .slice (some ad) 64 c1 → sl a' 4 = .pointer (some ⟨gk, 0, none⟩) → sl a' 5 = .pointer (some ⟨gw, 0, none⟩) → sl a' 17 = .int .i64 (t + 1) →
      Fr (fun k => k = gw) w0 w' → w'.heap[gw]? = some (.cells (encs (Value.int .u32) (W.set t.toNat (wrd P t))).toArray 121 (0, 0)) → Q .normal a' w') :
    Code.wp Try.prog (bodyN Try.f72 0) Q ⟨#[u 0, .slice (some ad) 64 c1, u 2, u 3, .pointer (some ⟨gk, 0, none⟩), .pointer (some ⟨gw, 0, none⟩), u 6, u 7, u 8, u 9, u 10, u 11, u 12, u 13, u 14, u 15, u 16, .int .i64 t, u 18, u 19, u 20, u 21, u 22, u 23, u 24, u 25, u 26, u 27, u 28, u 29, u 30, u 31, u 32, u 33, u 34, u 35, u 36, u 37, u 38, u 39, u 40, u 41, u 42, u 43, u 44, u 45, u 46, u 47, u 48, u 49, u 50, u 51, u 52, u 53, u 54, u 55, u 56, u 57, u 58, u 59, u 60, u 61, u 62, u 63, u 64, u 65, u 66, u 67, u 68, u 69, u 70, u 71, u 72, u 73, u 74, u 75, u 76, u 77, u 78, u 79, u 80, u 81, u 82, u 83, u 84, u 85, u 86, u 87, u 88, u 89, u 90, u 91, u 92, u 93, u 94, u 95, u 96, u 97, u 98, u 99, u 100, u 101, u 102, u 103, u 104, u 105, u 106, u 107, u 108, u 109, u 110, u 111, u 112, u 113, u 114, u 115, u 116, u 117, u 118, u 119, u 120, u 121, u 122, u 123, u 124, u 125, u 126, u 127, u 128, u 129, u 130, u 131, u 132, u 133, u 134, u 135, u 136, u 137, u 138, u 139, u 140, u 141, u 142, u 143, u 144, u 145, u 146, u 147, u 148, u 149, u 150, u 151, u 152, u 153, u 154, u 155, u 156, u 157, u 158, u 159, u 160, u 161, u 162, u 163, u 164, u 165, u 166, u 167, u 168, u 169, u 170, u 171, u 172, u 173, u 174, u 175, u 176, u 177, u 178, u 179, u 180, u 181, u 182, u 183, u 184, u 185, u 186], []⟩ w := by
  obtain ⟨p0, h0⟩ : ∃ x, P.getD (4 * t).toNat 0 = x := ⟨_, rfl⟩
  obtain ⟨p1, h1⟩ : ∃ x, P.getD (4 * t + 1).toNat 0 = x := ⟨_, rfl⟩
  obtain ⟨p2, h2⟩ : ∃ x, P.getD (4 * t + 2).toNat 0 = x := ⟨_, rfl⟩
  obtain ⟨p3, h3⟩ : ∃ x, P.getD (4 * t + 3).toNat 0 = x := ⟨_, rfl⟩
  rw [show wrd P t = word4 p0 p1 p2 p3 by rw [← h0, ← h1, ← h2, ← h3]; rfl] at hQ
  conv => arg 2; whnf
  have c0 : decide (t < 64) = true := decide_eq_true (by omega)
  have c1 := decide_eq_true h16
  go_wp2
  refine region_tail 34 (by kernel_rfl) (by kernel_rfl) ?_
  intro w3 e3
  have hw3 : w3.heap[gw]? = some (.cells (encs (Value.int .u32) W).toArray 121 (0, 0)) := by rw [e3]; exact hw
  have hf3 : Fr (fun k => k = gw) w0 w3 := by rw [e3]; exact hf.of_drew
  have k0 := hp (4 * t) (by omega) (by omega)
  have k1 := hp (4 * t + 1) (by omega) (by omega)
  have k2 := hp (4 * t + 2) (by omega) (by omega)
  have k3 := hp (4 * t + 3) (by omega) (by omega)
  rw [h0, show w.cell? (ad.add (4 * t).toNat) = w3.cell? (ad.add (4 * t).toNat) by rw [e3]; rfl] at k0
  rw [h1, show w.cell? (ad.add (4 * t + 1).toNat) = w3.cell? (ad.add (4 * t + 1).toNat) by rw [e3]; rfl] at k1
  rw [h2, show w.cell? (ad.add (4 * t + 2).toNat) = w3.cell? (ad.add (4 * t + 2).toNat) by rw [e3]; rfl] at k2
  rw [h3, show w.cell? (ad.add (4 * t + 3).toNat) = w3.cell? (ad.add (4 * t + 3).toNat) by rw [e3]; rfl] at k3
  clear hw hf e3 hp
  have HW := Aside0.mk hw3
  have HF := Aside0.mk hf3
  clear hw3 hf3
  have f1 : 0 ≤ 4 * t := by omega
  have f2 : 0 ≤ 4 * t + 1 := by omega
  have f3 : 0 ≤ 4 * t + 2 := by omega
  have f4 : 0 ≤ 4 * t + 3 := by omega
  have g1 : 4 * t < 64 := by omega
  have g2 : 4 * t + 1 < 64 := by omega
  have g3 : 4 * t + 2 < 64 := by omega
  have g4 : 4 * t + 3 < 64 := by omega
  have e1 : IntKind.i64.wrap (4 * t) = 4 * t := IntWalk.i64_in _ (by omega)
  have e2 : IntKind.i64.wrap (4 * t + 1) = 4 * t + 1 := IntWalk.i64_in _ (by omega)
  have e3 : IntKind.i64.wrap (4 * t + 2) = 4 * t + 2 := IntWalk.i64_in _ (by omega)
  have e4 : IntKind.i64.wrap (4 * t + 3) = 4 * t + 3 := IntWalk.i64_in _ (by omega)
  simp only [List.take_succ_cons, List.take_zero, List.drop_succ_cons, List.drop_zero]
  repeat still_step
  refine wpStill_nil ?_
  clear f1 f2 f3 f4 g1 g2 g3 g4 e1 e2 e3 e4
  have kt := cellV HW.out t (by omega) (by omega)
  have ft := frozenV HW.out t.toNat
  go_wp2
  refine hQ _ _ ⟨rfl, rfl⟩ rfl rfl rfl rfl rfl ?_ ?_
  · exact HF.out.setCell (.inl rfl) _
  · exact heap_putV HW.out _ (by omega) _

/-- The first loop's relation: t words are known. -/
def J1 (sp : Value) (ad : Addr) (c1 gk gw : Nat) (P : List Int) (w0 : World) (t : Nat) (a : Act) (w : World) : Prop :=
  Fm 187 a ∧ sl a 0 = sp ∧ sl a 1 = .slice (some ad) 64 c1 ∧ sl a 4 = .pointer (some ⟨gk, 0, none⟩) ∧ sl a 5 = .pointer (some ⟨gw, 0, none⟩) ∧ sl a 17 = .int .i64 (t : Int) ∧
    Fr (fun k => k = gw) w0 w ∧ w.heap[gw]? = some (.cells (encs (Value.int .u32) (sched P t)).toArray 121 (0, 0))
set_option maxHeartbeats 8000000 in
set_option maxRecDepth 100000 in
theorem exit1 (u : Nat → Value) (A1 : Value) (c1 gk gw : Nat) (w : World) (Q : Exit → Act → World → Prop) (hQ : ∀ a', Fm 187 a' → sl a' 0 = u 0 → sl a' 1 = A1 → sl a' 4 = .pointer (some ⟨gk, 0, none⟩) → sl a' 5 = .pointer (some ⟨gw, 0, none⟩) → sl a' 17 = .int .i64 64 → Q (.exit 0) a' w) :
    Code.wp Try.prog (bodyN Try.f72 0) Q ⟨#[u 0, A1, u 2, u 3, .pointer (some ⟨gk, 0, none⟩), .pointer (some ⟨gw, 0, none⟩), u 6, u 7, u 8, u 9, u 10, u 11, u 12, u 13, u 14, u 15, u 16, .int .i64 64, u 18, u 19, u 20, u 21, u 22, u 23, u 24, u 25, u 26, u 27, u 28, u 29, u 30, u 31, u 32, u 33, u 34, u 35, u 36, u 37, u 38, u 39, u 40, u 41, u 42, u 43, u 44, u 45, u 46, u 47, u 48, u 49, u 50, u 51, u 52, u 53, u 54, u 55, u 56, u 57, u 58, u 59, u 60, u 61, u 62, u 63, u 64, u 65, u 66, u 67, u 68, u 69, u 70, u 71, u 72, u 73, u 74, u 75, u 76, u 77, u 78, u 79, u 80, u 81, u 82, u 83, u 84, u 85, u 86, u 87, u 88, u 89, u 90, u 91, u 92, u 93, u 94, u 95, u 96, u 97, u 98, u 99, u 100, u 101, u 102, u 103, u 104, u 105, u 106, u 107, u 108, u 109, u 110, u 111, u 112, u 113, u 114, u 115, u 116, u 117, u 118, u 119, u 120, u 121, u 122, u 123, u 124, u 125, u 126, u 127, u 128, u 129, u 130, u 131, u 132, u 133, u 134, u 135, u 136, u 137, u 138, u 139, u 140, u 141, u 142, u 143, u 144, u 145, u 146, u 147, u 148, u 149, u 150, u 151, u 152, u 153, u 154, u 155, u 156, u 157, u 158, u 159, u 160, u 161, u 162, u 163, u 164, u 165, u 166, u 167, u 168, u 169, u 170, u 171, u 172, u 173, u 174, u 175, u 176, u 177, u 178, u 179, u 180, u 181, u 182, u 183, u 184, u 185, u 186], []⟩ w := by
  conv => arg 2; whnf
  go_wp2
  exact hQ _ ⟨rfl, rfl⟩ rfl rfl rfl rfl rfl
theorem loop1 (sp : Value) (ad : Addr) (c1 gk gw : Nat) (P : List Int) (w0 : World) (hp : ∀ i : Int, 0 ≤ i → i < 64 → w0.cell? (ad.add i.toNat) = some (.int .u8 (P.getD i.toNat 0))) (hne : ad.block ≠ gw)
    (Q : Exit → Act → World → Prop) (hQ : ∀ a' w', J1 sp ad c1 gk gw P w0 64 a' w' → Q (.exit 0) a' w') (a : Act) (w : World) (h : J1 sp ad c1 gk gw P w0 0 a w) : (Code.loop (bodyN Try.f72 0)).wp Try.prog Q a w := by
  refine wp_loop_up 64 (J1 sp ad c1 gk gw P w0) h ?_
  rintro t a w ht ⟨hF, h0, h1, h4, h5, h17, hf, hw⟩
  have ha := fm187 hF
  rw [h1, h4, h5, h17] at ha
  by_cases h64 : t = 64
  · subst h64
    rw [ha]
    exact exit1 (sl a) _ c1 gk gw w _ fun a' b0 b1 b2 b3 b4 b5 => hQ _ _ ⟨b0, b1.trans h0, b2, b3, b4, b5, hf, hw⟩
  · have hp' : ∀ i : Int, 0 ≤ i → i < 64 → w.cell? (ad.add i.toNat) = some (.int .u8 (P.getD i.toNat 0)) := fun i i0 i1 => hf.cell (hp i i0 i1) (fun e => hne ((addr_block ad i.toNat).symm.trans e))
    have e1 : ((t + 1 : Nat) : Int) = (t : Int) + 1 := by omega
    by_cases h16 : t < 16
    · rw [ha]
      refine round1a (sl a) ad P c1 gk gw t (by omega) (by omega) w0 w _ (sched_len P t) hw hp' hf _ ?_
      intro a' w' b0 b1 b2 b3 b4 b5 b6 b7
      refine ⟨by omega, b0, b1.trans h0, b2, b3, b4, by rw [b5, e1], b6, ?_⟩
      rw [b7, sched, if_pos h16, Int.toNat_natCast]
    · rw [ha]
      refine round1b (sl a) (some ad) c1 gk gw t (by omega) (by omega) (by omega) w0 w _ (sched_len P t) hw hf _ ?_
      intro a' w' b0 b1 b2 b3 b4 b5 b6 b7
      refine ⟨by omega, b0, b1.trans h0, b2, b3, b4, by rw [b5, e1], b6, ?_⟩
      rw [b7, sched, if_neg h16, Int.toNat_natCast]
end Go.Proofs.Ytnabilhcmplhcaa.Sha

/-
  SHA's block, the second loop: the 64 rounds.
-/
set_option linter.unusedVariables false
set_option linter.unusedSimpArgs false
namespace Go.Proofs.Ytnabilhcmplhcaa.Sha
open Go.RowKit Go.Proofs.YtnabilhcmplhcaaW.PrintWords Go.Proofs.YtnabilhcmplhcaaW.PrintLast Go.Proofs.YtnabilhcmplhcaaW.PrintMore Go.Proofs.Ytnabilhcmplhcaa.Q Go.Proofs.Ytnabilhcmplhcaa.Fr

theorem cells8 {w : World} {gv : Nat} {t : TypeId} {a b c d e f g h : Int} (hv : w.heap[gv]? = some (.cells (encs (Value.int .u32) [a, b, c, d, e, f, g, h]).toArray t (0, 0))) :
    w.cell? ⟨gv, 0, none⟩ = some (.int .u32 a) ∧ w.cell? ⟨gv, 1, none⟩ = some (.int .u32 b) ∧ w.cell? ⟨gv, 2, none⟩ = some (.int .u32 c) ∧ w.cell? ⟨gv, 3, none⟩ = some (.int .u32 d) ∧
    w.cell? ⟨gv, 4, none⟩ = some (.int .u32 e) ∧ w.cell? ⟨gv, 5, none⟩ = some (.int .u32 f) ∧ w.cell? ⟨gv, 6, none⟩ = some (.int .u32 g) ∧ w.cell? ⟨gv, 7, none⟩ = some (.int .u32 h) := by
  simp [World.cell?, hv, encs]

set_option maxHeartbeats 8000000 in
set_option maxRecDepth 100000 in
theorem round2 (u : Nat → Value) (gk gw gv : Nat) (t : Int) (ht0 : 0 ≤ t) (ht : t < 64) (w0 w : World) (va vb vc vd ve vf vg vh kt wt : Int)
   (hv : w.heap[gv]? = some (.cells (encs (Value.int .u32) [va, vb, vc, vd, ve, vf, vg, vh]).toArray 125 (0, 0)))
   (hk : w.cell? ⟨gk, t.toNat, none⟩ = some (.int .u32 kt)) (hw : w.cell? ⟨gw, t.toNat, none⟩ = some (.int .u32 wt)) (hf : Fr (fun k => k = gv) w0 w)
   (Q : Exit → Act → World → Prop) (hQ : ∀ a' w', Fm 187 a' → sl a' 0 = u 0 → sl a' 4 = .pointer (some ⟨gk, 0, none⟩) → sl a' 5 = .pointer (some ⟨gw, 0, none⟩) → sl a' 9 = .pointer (some ⟨gv, 0, none⟩) → sl a' 98 = .int .i64 (t + 1) →
      Fr (fun k => k = gv) w0 w' → w'.heap[gv]? = some (.cells (encs (Value.int .u32) (rnd [va, vb, vc, vd, ve, vf, vg, vh] kt wt)).toArray 125 (0, 0)) → Q .normal a' w') :
    Code.wp Try.prog (bodyN Try.f72 1) Q ⟨#[u 0, u 1, u 2, u 3, .pointer (some ⟨gk, 0, none⟩), .pointer (some ⟨gw, 0, none⟩), u 6, u 7, u 8, .pointer (some ⟨gv, 0, none⟩), u 10, u 11, u 12, u 13, u 14, u 15, u 16, u 17, u 18, u 19, u 20, u 21, u 22, u 23, u 24, u 25, u 26, u 27, u 28, u 29, u 30, u 31, u 32, u 33, u 34, u 35, u 36, u 37, u 38, u 39, u 40, u 41, u 42, u 43, u 44, u 45, u 46, u 47, u 48, u 49, u 50, u 51, u 52, u 53, u 54, u 55, u 56, u 57, u 58, u 59, u 60, u 61, u 62, u 63, u 64, u 65, u 66, u 67, u 68, u 69, u 70, u 71, u 72, u 73, u 74, u 75, u 76, u 77, u 78, u 79, u 80, u 81, u 82, u 83, u 84, u 85, u 86, u 87, u 88, u 89, u 90, u 91, u 92, u 93, u 94, u 95, u 96, u 97, .int .i64 t, u 99, u 100, u 101, u 102, u 103, u 104, u 105, u 106, u 107, u 108, u 109, u 110, u 111, u 112, u 113, u 114, u 115, u 116, u 117, u 118, u 119, u 120, u 121, u 122, u 123, u 124, u 125, u 126, u 127, u 128, u 129, u 130, u 131, u 132, u 133, u 134, u 135, u 136, u 137, u 138, u 139, u 140, u 141, u 142, u 143, u 144, u 145, u 146, u 147, u 148, u 149, u 150, u 151, u 152, u 153, u 154, u 155, u 156, u 157, u 158, u 159, u 160, u 161, u 162, u 163, u 164, u 165, u 166, u 167, u 168, u 169, u 170, u 171, u 172, u 173, u 174, u 175, u 176, u 177, u 178, u 179, u 180, u 181, u 182, u 183, u 184, u 185, u 186], []⟩ w := by
  conv => arg 2; whnf
  have c0 := decide_eq_true ht
  go_wp2
  have HV := Aside0.mk hv
  have HF := Aside0.mk hf
  obtain ⟨v0, v1, v2, v3, v4, v5, v6, v7⟩ := cells8 hv
  clear hv hf
  go_quiet (fail)
  go_wp2
  refine region_tail 30 (by kernel_rfl) (by kernel_rfl) ?_
  intro w3 e3
  have e4 : ∀ p, w3.cell? p = w.cell? p := fun p => by rw [e3]; simp
  rw [← e4] at v0 v1 v2 v3 v4 v5 v6 v7 hk hw
  have hv : w3.heap[gv]? = some (.cells (encs (Value.int .u32) [va, vb, vc, vd, ve, vf, vg, vh]).toArray 125 (0, 0)) := by rw [e3]; simpa using HV.out
  have hf : Fr (fun k => k = gv) w0 w3 := by rw [e3]; exact (HF.out.of_drewN nq).of_drew
  clear HV HF e4 e3
  have HV := Aside0.mk hv
  have HF := Aside0.mk hf
  clear hv hf
  simp only [List.take_succ_cons, List.take_zero, List.drop_succ_cons, List.drop_zero]
  repeat (first | still_step | still_call (ror_same _ _ (by simp [turnable]) _))
  refine wpStill_nil ?_
  go_wp2
  generalize hT1 : IntKind.u32.wrap (IntKind.u32.wrap (IntKind.u32.wrap (IntKind.u32.wrap (vh + Go.bits .xor .u32 (Go.bits .xor .u32 (rotr ve 6) (rotr ve 11)) (rotr ve 25)) + Go.bits .xor .u32 (Go.bits .and .u32 ve vf) (Go.bits .and .u32 (Go.bits .xor .u32 IntKind.u32.max ve) vg)) + kt) + wt) = T1
  refine region_tail 24 (by kernel_rfl) (by kernel_rfl) ?_
  intro w4 e3
  have e4 : ∀ p, w4.cell? p = w3.cell? p := fun p => by rw [e3]; simp
  rw [← e4] at v0 v1 v2 v3 v4 v5 v6 v7
  have hv : w4.heap[gv]? = some (.cells (encs (Value.int .u32) [va, vb, vc, vd, ve, vf, vg, vh]).toArray 125 (0, 0)) := by rw [e3]; exact HV.out
  have hf : Fr (fun k => k = gv) w0 w4 := by rw [e3]; exact (HF.out).of_drew
  clear HV HF e4 e3 hw hk
  have HV := Aside0.mk hv
  have HF := Aside0.mk hf
  clear hv hf
  simp only [List.take_succ_cons, List.take_zero, List.drop_succ_cons, List.drop_zero]
  repeat (first | still_step | still_call (ror_same _ _ (by simp [turnable]) _))
  refine wpStill_nil ?_
  go_wp2
  generalize hT2 : IntKind.u32.wrap (Go.bits .xor .u32 (Go.bits .xor .u32 (rotr va 2) (rotr va 13)) (rotr va 22) + Go.bits .xor .u32 (Go.bits .xor .u32 (Go.bits .and .u32 va vb) (Go.bits .and .u32 va vc)) (Go.bits .and .u32 vb vc)) = T2
  refine region_tail 2 (by kernel_rfl) (by kernel_rfl) ?_
  intro w5 e3
  have hv : w5.heap[gv]? = some (.cells (encs (Value.int .u32) [va, vb, vc, vd, ve, vf, vg, vh]).toArray 125 (0, 0)) := by rw [e3]; exact HV.out
  have hf : Fr (fun k => k = gv) w0 w5 := by rw [e3]; exact (HF.out).of_drew
  clear HV HF v0 v1 v2 v3 v4 v5 v6 v7
  have HF := Aside0.mk hf
  have HV := Aside0.mk hv
  clear hf e3 hv
  simp only [List.take_succ_cons, List.take_zero, List.drop_succ_cons, List.drop_zero]
  repeat still_step
  refine wpStill_nil ?_
  have hv := HV.out
  refine wpList_copy_own (by rfl) (.tmp 159) (.tmp 160) 132 132 (by rfl) 115 Try.underlying132 (by kernel_rfl) gv 1 7 7 ⟨gv, 0, none⟩ 7 8 (by rfl) (by rfl) _ 125 hv (encs (Value.int .u32) [va, vb, vc, vd, ve, vf, vg]) (by rfl) ?_ (by simp [encs]) (by simp [encs, Value.oneCell']) ?_
  · obtain ⟨v0, v1, v2, v3, v4, v5, v6, v7⟩ := cells8 hv
    intro j v hj
    have : j < 7 := by simpa [encs] using (List.getElem?_eq_some_iff.1 hj).1
    rcases (show j = 0 ∨ j = 1 ∨ j = 2 ∨ j = 3 ∨ j = 4 ∨ j = 5 ∨ j = 6 by omega) with rfl|rfl|rfl|rfl|rfl|rfl|rfl <;> (obtain rfl := Option.some.inj hj; assumption)
  have hv2 := setRow_heap w5 gv _ ((encs (Value.int .u32) [va, va, vb, vc, vd, ve, vf, vg]).toArray) 125 _ hv
  have hf2 : Fr (fun k => k = gv) w5 (w5.setRow gv ((encs (Value.int .u32) [va, va, vb, vc, vd, ve, vf, vg]).toArray)) := ⟨rfl, rfl, rfl, by simp [World.setRow], fun k _ hk => setRow_other w5 gv k _ (fun e => hk e)⟩
  rw [show ((encs (Value.int .u32) [va, vb, vc, vd, ve, vf, vg, vh]).toArray.toList.take 1 ++ (encs (Value.int .u32) [va, vb, vc, vd, ve, vf, vg] ++ (encs (Value.int .u32) [va, vb, vc, vd, ve, vf, vg, vh]).toArray.toList.drop (1 + (encs (Value.int .u32) [va, vb, vc, vd, ve, vf, vg]).length))).toArray = (encs (Value.int .u32) [va, va, vb, vc, vd, ve, vf, vg]).toArray by simp [encs]]
  have hf3 := HF.out.trans hf2 (fun i h => .inl h)
  clear HF HV hv hf2
  generalize (w5.setRow gv ((encs (Value.int .u32) [va, va, vb, vc, vd, ve, vf, vg]).toArray)) = w6 at *
  have HV := Aside0.mk hv2
  have HF := Aside0.mk hf3
  obtain ⟨v0, v1, v2, v3, v4, v5, v6, v7⟩ := cells8 hv2
  have z4 := frozenV hv2 4
  have z0 := frozenV hv2 0
  clear hv2 hf3
  go_wp2
  refine hQ _ _ ⟨rfl, rfl⟩ rfl rfl rfl rfl rfl ((HF.out.setCell (.inl rfl) _).setCell (.inl rfl) _) ?_
  have b1 := heap_putV HV.out 4 (by simp) ((vd + T1) % 4294967296)
  have b2 := heap_putV b1 0 (by simp) ((T1 + T2) % 4294967296)
  rw [b2, ← hT1, ← hT2]
  rfl

set_option maxHeartbeats 8000000 in
set_option maxRecDepth 100000 in
theorem exit2 (u : Nat → Value) (gk gw gv : Nat) (w : World) (Q : Exit → Act → World → Prop) (hQ : ∀ a', Fm 187 a' → sl a' 0 = u 0 → sl a' 4 = .pointer (some ⟨gk, 0, none⟩) → sl a' 5 = .pointer (some ⟨gw, 0, none⟩) → sl a' 9 = .pointer (some ⟨gv, 0, none⟩) → sl a' 98 = .int .i64 64 → Q (.exit 2) a' w) :
    Code.wp Try.prog (bodyN Try.f72 1) Q ⟨#[u 0, u 1, u 2, u 3, .pointer (some ⟨gk, 0, none⟩), .pointer (some ⟨gw, 0, none⟩), u 6, u 7, u 8, .pointer (some ⟨gv, 0, none⟩), u 10, u 11, u 12, u 13, u 14, u 15, u 16, u 17, u 18, u 19, u 20, u 21, u 22, u 23, u 24, u 25, u 26, u 27, u 28, u 29, u 30, u 31, u 32, u 33, u 34, u 35, u 36, u 37, u 38, u 39, u 40, u 41, u 42, u 43, u 44, u 45, u 46, u 47, u 48, u 49, u 50, u 51, u 52, u 53, u 54, u 55, u 56, u 57, u 58, u 59, u 60, u 61, u 62, u 63, u 64, u 65, u 66, u 67, u 68, u 69, u 70, u 71, u 72, u 73, u 74, u 75, u 76, u 77, u 78, u 79, u 80, u 81, u 82, u 83, u 84, u 85, u 86, u 87, u 88, u 89, u 90, u 91, u 92, u 93, u 94, u 95, u 96, u 97, .int .i64 64, u 99, u 100, u 101, u 102, u 103, u 104, u 105, u 106, u 107, u 108, u 109, u 110, u 111, u 112, u 113, u 114, u 115, u 116, u 117, u 118, u 119, u 120, u 121, u 122, u 123, u 124, u 125, u 126, u 127, u 128, u 129, u 130, u 131, u 132, u 133, u 134, u 135, u 136, u 137, u 138, u 139, u 140, u 141, u 142, u 143, u 144, u 145, u 146, u 147, u 148, u 149, u 150, u 151, u 152, u 153, u 154, u 155, u 156, u 157, u 158, u 159, u 160, u 161, u 162, u 163, u 164, u 165, u 166, u 167, u 168, u 169, u 170, u 171, u 172, u 173, u 174, u 175, u 176, u 177, u 178, u 179, u 180, u 181, u 182, u 183, u 184, u 185, u 186], []⟩ w := by
  conv => arg 2; whnf
  go_wp2
  exact hQ _ ⟨rfl, rfl⟩ rfl rfl rfl rfl rfl
/-- The second loop's relation. -/
def J2 (sp : Value) (gk gw gv : Nat) (K W V : List Int) (w0 : World) (t : Nat) (a : Act) (w : World) : Prop :=
  Fm 187 a ∧ sl a 0 = sp ∧ sl a 4 = .pointer (some ⟨gk, 0, none⟩) ∧ sl a 5 = .pointer (some ⟨gw, 0, none⟩) ∧ sl a 9 = .pointer (some ⟨gv, 0, none⟩) ∧ sl a 98 = .int .i64 (t : Int) ∧
    Fr (fun k => k = gv) w0 w ∧ w.heap[gv]? = some (.cells (encs (Value.int .u32) (rnds K W V t)).toArray 125 (0, 0))
theorem loop2 (sp : Value) (gk gw gv : Nat) (K W V : List Int) (tk tw : TypeId) (w0 : World) (hV : V.length = 8) (hK : K.length = 64) (hW : W.length = 64) (hk : w0.heap[gk]? = some (.cells (encs (Value.int .u32) K).toArray tk (0, 0)))
    (hw : w0.heap[gw]? = some (.cells (encs (Value.int .u32) W).toArray tw (0, 0))) (hnk : gk ≠ gv) (hnw : gw ≠ gv)
    (Q : Exit → Act → World → Prop) (hQ : ∀ a' w', J2 sp gk gw gv K W V w0 64 a' w' → Q (.exit 2) a' w') (a : Act) (w : World) (h : J2 sp gk gw gv K W V w0 0 a w) : (Code.loop (bodyN Try.f72 1)).wp Try.prog Q a w := by
  refine wp_loop_up 64 (J2 sp gk gw gv K W V w0) h ?_
  rintro t a w ht ⟨hF, h0, h4, h5, h9, h98, hf, hv⟩
  have ha := fm187 hF
  rw [h4, h5, h9, h98] at ha
  by_cases h64 : t = 64
  · subst h64
    rw [ha]
    exact exit2 (sl a) gk gw gv w _ fun a' b0 b1 b2 b3 b4 b5 => hQ _ _ ⟨b0, b1.trans h0, b2, b3, b4, b5, hf, hv⟩
  · have e1 : ((t + 1 : Nat) : Int) = (t : Int) + 1 := by omega
    obtain ⟨va, vb, vc, vd, ve, vf, vg, vh, hx⟩ := eight ((rnds_len K W V t).trans hV)
    rw [hx] at hv
    have ck := cellV (hf.blk hk hnk) (t : Int) (by omega) (by omega)
    have cw := cellV (hf.blk hw hnw) (t : Int) (by omega) (by omega)
    rw [ha]
    refine round2 (sl a) gk gw gv t (by omega) (by omega) w0 w va vb vc vd ve vf vg vh (K.getD t 0) (W.getD t 0) hv ck cw hf _ ?_
    intro a' w' b0 b1 b2 b3 b4 b5 b6 b7
    refine ⟨by omega, b0, b1.trans h0, b2, b3, b4, by rw [b5, e1], b6, ?_⟩
    rw [b7, rnds, hx]
end Go.Proofs.Ytnabilhcmplhcaa.Sha

/-
  SHA's block, the third loop: the state's words are added to.
-/
set_option linter.unusedVariables false
set_option linter.unusedSimpArgs false
namespace Go.Proofs.Ytnabilhcmplhcaa.Sha
open Go.RowKit Go.Proofs.YtnabilhcmplhcaaW.PrintWords Go.Proofs.YtnabilhcmplhcaaW.PrintLast Go.Proofs.YtnabilhcmplhcaaW.PrintMore Go.Proofs.Ytnabilhcmplhcaa.Q Go.Proofs.Ytnabilhcmplhcaa.Fr

set_option maxHeartbeats 8000000 in
set_option maxRecDepth 100000 in
theorem round3 (u : Nat → Value) (gs gv : Nat) (t : Int) (ht0 : 0 ≤ t) (ht : t < 8) (w0 w : World) (S : List Int) (hS : S.length = 8) (tl : List Value) (ts : TypeId) (st vt : Int)
   (hs : w.heap[gs]? = some (.cells (encs (Value.int .u32) S ++ tl).toArray ts (0, 0))) (hst : S.getD t.toNat 0 = st)
   (hv : w.cell? ⟨gv, t.toNat, none⟩ = some (.int .u32 vt)) (hf : Fr (fun k => k = gs) w0 w)
   (Q : Exit → Act → World → Prop) (hQ : ∀ a' w', Fm 187 a' → sl a' 0 = .pointer (some ⟨gs, 0, none⟩) → sl a' 9 = .pointer (some ⟨gv, 0, none⟩) → sl a' 172 = .int .i64 (t + 1) →
      Fr (fun k => k = gs) w0 w' → w'.heap[gs]? = some (.cells (encs (Value.int .u32) (S.set t.toNat ((st + vt) % 4294967296)) ++ tl).toArray ts (0, 0)) → Q .normal a' w') :
    Code.wp Try.prog (bodyN Try.f72 2) Q ⟨#[.pointer (some ⟨gs, 0, none⟩), u 1, u 2, u 3, u 4, u 5, u 6, u 7, u 8, .pointer (some ⟨gv, 0, none⟩), u 10, u 11, u 12, u 13, u 14, u 15, u 16, u 17, u 18, u 19, u 20, u 21, u 22, u 23, u 24, u 25, u 26, u 27, u 28, u 29, u 30, u 31, u 32, u 33, u 34, u 35, u 36, u 37, u 38, u 39, u 40, u 41, u 42, u 43, u 44, u 45, u 46, u 47, u 48, u 49, u 50, u 51, u 52, u 53, u 54, u 55, u 56, u 57, u 58, u 59, u 60, u 61, u 62, u 63, u 64, u 65, u 66, u 67, u 68, u 69, u 70, u 71, u 72, u 73, u 74, u 75, u 76, u 77, u 78, u 79, u 80, u 81, u 82, u 83, u 84, u 85, u 86, u 87, u 88, u 89, u 90, u 91, u 92, u 93, u 94, u 95, u 96, u 97, u 98, u 99, u 100, u 101, u 102, u 103, u 104, u 105, u 106, u 107, u 108, u 109, u 110, u 111, u 112, u 113, u 114, u 115, u 116, u 117, u 118, u 119, u 120, u 121, u 122, u 123, u 124, u 125, u 126, u 127, u 128, u 129, u 130, u 131, u 132, u 133, u 134, u 135, u 136, u 137, u 138, u 139, u 140, u 141, u 142, u 143, u 144, u 145, u 146, u 147, u 148, u 149, u 150, u 151, u 152, u 153, u 154, u 155, u 156, u 157, u 158, u 159, u 160, u 161, u 162, u 163, u 164, u 165, u 166, u 167, u 168, u 169, u 170, u 171, .int .i64 t, u 173, u 174, u 175, u 176, u 177, u 178, u 179, u 180, u 181, u 182, u 183, u 184, u 185, u 186], []⟩ w := by
  conv => arg 2; whnf
  have c0 := decide_eq_true ht
  have hc := cellW hs t (by omega) (by omega)
  rw [hst] at hc
  go_wp2
  refine region_tail 10 (by kernel_rfl) (by kernel_rfl) ?_
  intro w3 e3
  have e4 : ∀ p, w3.cell? p = w.cell? p := fun p => by rw [e3]; simp
  rw [← e4] at hc hv
  have hs3 : w3.heap[gs]? = some (.cells (encs (Value.int .u32) S ++ tl).toArray ts (0, 0)) := by rw [e3]; exact hs
  have hf3 : Fr (fun k => k = gs) w0 w3 := by rw [e3]; exact hf.of_drew
  clear hs hf e3 e4
  have HS := Aside0.mk hs3
  have HF := Aside0.mk hf3
  clear hs3 hf3
  simp only [List.take_succ_cons, List.take_zero, List.drop_succ_cons, List.drop_zero]
  repeat still_step
  refine wpStill_nil ?_
  have fz := frozenV HS.out t.toNat
  go_wp2
  refine hQ _ _ ⟨rfl, rfl⟩ rfl rfl rfl (HF.out.setCell (.inl rfl) _) ?_
  exact heap_putW HS.out _ (by omega) _

set_option maxHeartbeats 8000000 in
set_option maxRecDepth 100000 in
theorem exit3 (u : Nat → Value) (w : World) (Q : Exit → Act → World → Prop) (hQ : ∀ a', Fm 187 a' → sl a' 0 = u 0 → sl a' 9 = u 9 → sl a' 172 = .int .i64 8 → Q (.exit 4) a' w) :
    Code.wp Try.prog (bodyN Try.f72 2) Q ⟨#[u 0, u 1, u 2, u 3, u 4, u 5, u 6, u 7, u 8, u 9, u 10, u 11, u 12, u 13, u 14, u 15, u 16, u 17, u 18, u 19, u 20, u 21, u 22, u 23, u 24, u 25, u 26, u 27, u 28, u 29, u 30, u 31, u 32, u 33, u 34, u 35, u 36, u 37, u 38, u 39, u 40, u 41, u 42, u 43, u 44, u 45, u 46, u 47, u 48, u 49, u 50, u 51, u 52, u 53, u 54, u 55, u 56, u 57, u 58, u 59, u 60, u 61, u 62, u 63, u 64, u 65, u 66, u 67, u 68, u 69, u 70, u 71, u 72, u 73, u 74, u 75, u 76, u 77, u 78, u 79, u 80, u 81, u 82, u 83, u 84, u 85, u 86, u 87, u 88, u 89, u 90, u 91, u 92, u 93, u 94, u 95, u 96, u 97, u 98, u 99, u 100, u 101, u 102, u 103, u 104, u 105, u 106, u 107, u 108, u 109, u 110, u 111, u 112, u 113, u 114, u 115, u 116, u 117, u 118, u 119, u 120, u 121, u 122, u 123, u 124, u 125, u 126, u 127, u 128, u 129, u 130, u 131, u 132, u 133, u 134, u 135, u 136, u 137, u 138, u 139, u 140, u 141, u 142, u 143, u 144, u 145, u 146, u 147, u 148, u 149, u 150, u 151, u 152, u 153, u 154, u 155, u 156, u 157, u 158, u 159, u 160, u 161, u 162, u 163, u 164, u 165, u 166, u 167, u 168, u 169, u 170, u 171, .int .i64 8, u 173, u 174, u 175, u 176, u 177, u 178, u 179, u 180, u 181, u 182, u 183, u 184, u 185, u 186], []⟩ w := by
  conv => arg 2; whnf
  go_wp2
  exact hQ _ ⟨rfl, rfl⟩ rfl rfl rfl
/-- The third loop's relation. -/
def J3 (gs gv : Nat) (S V : List Int) (tl : List Value) (ts : TypeId) (w0 : World) (t : Nat) (a : Act) (w : World) : Prop :=
  Fm 187 a ∧ sl a 0 = .pointer (some ⟨gs, 0, none⟩) ∧ sl a 9 = .pointer (some ⟨gv, 0, none⟩) ∧ sl a 172 = .int .i64 (t : Int) ∧
    Fr (fun k => k = gs) w0 w ∧ w.heap[gs]? = some (.cells (encs (Value.int .u32) (adds S V t) ++ tl).toArray ts (0, 0))
theorem loop3 (gs gv : Nat) (S V : List Int) (tl : List Value) (ts tv : TypeId) (w0 : World) (hS : S.length = 8) (hV : V.length = 8) (hv : w0.heap[gv]? = some (.cells (encs (Value.int .u32) V).toArray tv (0, 0))) (hn : gv ≠ gs)
    (Q : Exit → Act → World → Prop) (hQ : ∀ a' w', J3 gs gv S V tl ts w0 8 a' w' → Q (.exit 4) a' w') (a : Act) (w : World) (h : J3 gs gv S V tl ts w0 0 a w) : (Code.loop (bodyN Try.f72 2)).wp Try.prog Q a w := by
  refine wp_loop_up 8 (J3 gs gv S V tl ts w0) h ?_
  rintro t a w ht ⟨hF, h0, h9, h172, hf, hs⟩
  have ha := fm187 hF
  by_cases h64 : t = 8
  · subst h64
    rw [h172] at ha
    rw [ha]
    exact exit3 (sl a) w _ fun a' b0 b1 b2 b3 => hQ _ _ ⟨b0, b1.trans h0, b2.trans h9, b3, hf, hs⟩
  · have e1 : ((t + 1 : Nat) : Int) = (t : Int) + 1 := by omega
    rw [h0, h9, h172] at ha
    have cv := cellV (hf.blk hv hn) (t : Int) (by omega) (by omega)
    rw [ha]
    refine round3 (sl a) gs gv t (by omega) (by omega) w0 w _ ((adds_len S V t).trans hS) tl ts _ (V.getD t 0) hs rfl cv hf _ ?_
    intro a' w' b0 b1 b2 b3 b4 b5
    refine ⟨by omega, b0, b1, b2, by rw [b3, e1], b4, ?_⟩
    rw [b5, adds, Int.toNat_natCast]
end Go.Proofs.Ytnabilhcmplhcaa.Sha

/-
  SHA's block: what a block makes of the state.
-/
set_option linter.unusedVariables false
set_option linter.unusedSimpArgs false
namespace Go.Proofs.Ytnabilhcmplhcaa.Sha
open Go.RowKit Go.Proofs.YtnabilhcmplhcaaW.PrintWords Go.Proofs.YtnabilhcmplhcaaW.PrintLast Go.Proofs.YtnabilhcmplhcaaW.PrintMore Go.Proofs.Ytnabilhcmplhcaa.Q Go.Proofs.Ytnabilhcmplhcaa.Fr

def KT : Array Value := (encs (Value.int .u32) Ktab).toArray
def ZT : Array Value := (encs (Value.int .u32) (List.replicate 64 0)).toArray
def Z8 : Array Value := (encs (Value.int .u32) (List.replicate 8 0)).toArray
theorem rangeS {w : World} {g : Nat} {xs tl : List Value} {t : TypeId} (h : w.heap[g]? = some (.cells (xs ++ tl).toArray t (0, 0))) : w.rangeAt g 0 xs := fun j v hv => by
  have hj : j < xs.length := (List.getElem?_eq_some_iff.1 hv).1
  have hx : (xs ++ tl)[j]? = some v := by rw [List.getElem?_append_left hj]; exact hv
  simp [World.cell?, h, hx]
theorem KT_one : KT.all (·.oneCell') = true := by decide +kernel
theorem KT_size : KT.size = 64 := by decide +kernel
theorem ZT_size : ZT.size = 64 := by decide +kernel
theorem Z8_size : Z8.size = 8 := by decide +kernel

set_option maxHeartbeats 8000000 in
set_option maxRecDepth 100000 in
theorem block_calls (gs : Nat) (S : List Int) (hS : S.length = 8) (tl : List Value) (ts : TypeId) (ad : Addr) (c1 : Nat) (P : List Int) (w : World)
    (hs : w.heap[gs]? = some (.cells (encs (Value.int .u32) S ++ tl).toArray ts (0, 0))) (hp : ∀ i : Int, 0 ≤ i → i < 64 → w.cell? (ad.add i.toNat) = some (.int .u8 (P.getD i.toNat 0))) :
    Calls Try.prog 72 #[.pointer (some ⟨gs, 0, none⟩), .slice (some ad) 64 c1] w fun e w' => e = .returned (.tuple #[]) ∧ Fr (fun k => k = gs) w w' ∧ w'.heap[gs]? = some (.cells (encs (Value.int .u32) (compress S P) ++ tl).toArray ts (0, 0)) := by
  have HS := Aside0.mk hs
  have HP := Aside0.mk hp
  clear hs hp
  go_enter Try.func72, Try.ntmps72
  go_wp2_with (first | ((with_reducible refine gate_dst (N := 16) rfl ?_); refine wpList_build_abs (by rfl) 121 _ (by rfl) KT (by kernel_rfl) ?_) | ((with_reducible refine gate_dst (N := 4) rfl ?_); refine wpList_alloc_abs (by rfl) 121 (by rfl) (.agg ZT) (by kernel_rfl) ?_; intro w1 hb1 hs1 hg1) | ((with_reducible refine gate_store (p := 4) rfl ?_); refine wpList_store_abs (by rfl) 121 _ _ (by rfl) w.heap.size KT (by rfl) (by rfl) 121 ZT hg1 (by kernel_rfl) (by rw [ZT_size, KT_size]) KT_one ?_; intro w2 hf2 hs2 hg2) | ((with_reducible refine gate_dst (N := 5) rfl ?_); refine wpList_alloc_abs (by rfl) 121 (by rfl) (.agg ZT) (by kernel_rfl) ?_; intro w3 hb3 hs3 hg3))
  have eg2 : w2.heap.size = w.heap.size + 1 := hs2.trans hs1
  have F3 : Fr (fun _ => False) w w3 := (((Fr.of_below hb1 _).trans hf2 (fun i h => .inr (by omega))).trans (Fr.of_below hb3 (fun _ => False)) (fun i h => h.elim))
  have hp3 : ∀ i : Int, 0 ≤ i → i < 64 → w3.cell? (ad.add i.toNat) = some (.int .u8 (P.getD i.toNat 0)) := fun i i0 i1 => F3.cell (HP.out i i0 i1) (fun h => h)
  have hs3 : w3.heap[gs]? = some (.cells (encs (Value.int .u32) S ++ tl).toArray ts (0, 0)) := F3.blk HS.out (fun h => h)
  have lt1 : ad.block < w.heap.size := by have := World.block_lt_of_cell? w _ (HP.out 0 (by omega) (by omega)); rwa [addr_block] at this
  have lt2 : gs < w.heap.size := blk_lt HS.out
  have hk3 : w3.heap[w.heap.size]? = some (.cells KT 121 (0, 0)) := (Fr.of_below hb3 (fun _ => False)).blk hg2 (fun h => h)
  rw [eg2] at hg3
  clear HP HS hb1 hs1 hg1 hf2 hs2 hg2 hb3
  refine loop1 (.pointer (some ⟨gs, 0, none⟩)) ad c1 w.heap.size (w.heap.size + 1) P w3 hp3 (by omega) _ ?_ _ _ ⟨⟨rfl, rfl⟩, rfl, rfl, rfl, rfl, rfl, Fr.refl _ _, hg3⟩
  clear hp3 hg3
  rintro a' w4 ⟨hF, j0, j1, j4, j5, j17, jf, jw⟩
  rw [fm187 hF, j0, j1, j4, j5]
  have F4 : Fr (fun _ => False) w w4 := F3.trans jf (fun i h => .inr (by omega))
  have hs4 := jf.blk hs3 (fun h => by omega)
  have hk4 := jf.blk hk3 (fun h => by omega)
  clear hs3 hk3 F3 jf hF j0 j1 j4 j5 j17
  have HJ := Aside0.mk jw
  have HK := Aside0.mk hk4
  have HS := Aside0.mk hs4
  have HF := Aside0.mk F4
  clear jw hk4 hs4 F4
  go_wp2_with (first | ((with_reducible refine gate_dst (N := 97) rfl ?_); refine wpList_load_mid (by rfl) 125 _ (by rfl) gs 0 (by rfl) (encs (Value.int .u32) S) _ (rangeS HS.out) Try.underlying125 (by rfl) (by rw [encs_len, hS]; kernel_rfl) ?_) | ((with_reducible refine gate_dst (N := 9) rfl ?_); refine wpList_alloc_abs (by rfl) 125 (by rfl) (.agg Z8) (by kernel_rfl) ?_; intro w5 hb5 hs5 hg5) | ((with_reducible refine gate_store (p := 9) rfl ?_); refine wpList_store_abs (by rfl) 125 _ _ (by rfl) w4.heap.size (encs (Value.int .u32) S).toArray (by rfl) (by rfl) 125 Z8 hg5 (by simp only [List.size_toArray, encs_len, hS]; kernel_rfl) (by simp only [List.size_toArray, encs_len, hS, Z8_size]) (by simp [encs, Value.oneCell']) ?_; intro w6 hf6 hs6 hg6))
  have K4 := HK.out
  have lt4 : w.heap.size + 1 < w4.heap.size := blk_lt HJ.out
  have F5 := Fr.of_below hb5 (fun _ => False)
  have hk6 := hf6.blk (F5.blk HK.out (fun h => h)) (fun h => by omega)
  have hj6 := hf6.blk (F5.blk HJ.out (fun h => h)) (fun h => by omega)
  have hs6' := hf6.blk (F5.blk HS.out (fun h => h)) (fun h => by omega)
  have F6 : Fr (fun _ => False) w w6 := (HF.out.trans F5 (fun i h => h.elim)).trans hf6 (fun i h => .inr (by omega))
  have lt6 : w4.heap.size < w6.heap.size := blk_lt hg6
  clear HK HJ HS HF F5 K4 hf6 hs6 hb5 hs5 hg5
  refine loop2 (.pointer (some ⟨gs, 0, none⟩)) w.heap.size (w.heap.size + 1) w4.heap.size Ktab (sched P 64) S 121 121 w6 hS (by decide +kernel) (sched_len _ _) hk6 hj6 (by omega) (by omega) _ ?_ _ _ ⟨⟨rfl, rfl⟩, rfl, rfl, rfl, rfl, rfl, Fr.refl _ _, hg6⟩
  clear hk6 hj6 hg6
  rintro a' w7 ⟨hF, j0, j4, j5, j9, j98, jf, jv⟩
  rw [fm187 hF, j0, j9]
  have hs7 := jf.blk hs6' (fun h => by omega)
  have F7 : Fr (fun _ => False) w w7 := F6.trans jf (fun i h => .inr (by omega))
  clear hs6' F6 jf hF j0 j4 j5 j9 j98
  have HV := Aside0.mk jv
  have HS := Aside0.mk hs7
  have HF := Aside0.mk F7
  clear jv hs7 F7
  go_wp2
  refine loop3 gs w4.heap.size S (rnds Ktab (sched P 64) S 64) tl ts 125 w7 hS ((rnds_len _ _ _ _).trans hS) HV.out (by omega) _ ?_ _ _ ⟨⟨rfl, rfl⟩, rfl, rfl, rfl, Fr.refl _ _, HS.out⟩
  rintro a' w8 ⟨hF, j0, j9, j172, jf, js⟩
  rw [fm187 hF]
  have HR := Aside0.mk (show w8.heap[gs]? = some (.cells (encs (Value.int .u32) (compress S P) ++ tl).toArray ts (0, 0)) from js)
  have HF2 := Aside0.mk ((HF.out.mono (S' := fun k => k = gs) (fun _ h => h.elim)).trans jf (fun i h => .inl h))
  clear js jf hF j0 j9 j172 HS HV HF
  go_wp2
  refine bodyPost_end (results_none rfl _ _ _) rfl ?_
  exact ⟨rfl, HF2.out, HR.out⟩
end Go.Proofs.Ytnabilhcmplhcaa.Sha

/-
  Hashes: the plain words of the whole; an append to a row that may begin inside its block.
-/
set_option linter.unusedVariables false
set_option linter.unusedSimpArgs false
namespace Go.Proofs.Ytnabilhcmplhcaa.Sha
open Go.RowKit Go.Proofs.YtnabilhcmplhcaaW.PrintWords Go.Proofs.YtnabilhcmplhcaaW.PrintLast Go.Proofs.YtnabilhcmplhcaaW.PrintMore Go.Proofs.Ytnabilhcmplhcaa.Q Go.Proofs.Ytnabilhcmplhcaa.Fr Go.Proofs.Ytnabilhcmplhcaa.Oct

def S0 : List Int := [1779033703, 3144134277, 1013904242, 2773480762, 1359893119, 2600822924, 528734635, 1541459225]
/-- n blocks of m. -/
def run : Nat → List Int → List Int → List Int
  | 0, S, _ => S
  | n + 1, S, m => run n (compress S (m.take 64)) (m.drop 64)
theorem run_len (n : Nat) (S m : List Int) : (run n S m).length = S.length := by
  induction n generalizing S m with
  | zero => rfl
  | succ n ih => rw [run, ih, compress_len]
theorem run_succ (n : Nat) (S m : List Int) : run (n + 1) S m = compress (run n S m) ((m.drop (64 * n)).take 64) := by
  induction n generalizing S m with
  | zero => rfl
  | succ n ih =>
    rw [run, ih, run, List.drop_drop, show 64 + 64 * n = 64 * (n + 1) by omega]
def bytes4 (x : Int) : List Int := [x / 16777216 % 256, x / 65536 % 256, x / 256 % 256, x % 256]
def outB (S : List Int) : List Int := S.flatMap bytes4
/-- The number of zeros. -/
def zpad (n : Nat) : Nat := (119 - n % 64) % 64
def be8 (n : Int) : List Int := [n / 72057594037927936 % 256, n / 281474976710656 % 256, n / 1099511627776 % 256, n / 4294967296 % 256, n / 16777216 % 256, n / 65536 % 256, n / 256 % 256, n % 256]
/-- What stands behind a message of n bytes in all. -/
def tailB (n : Nat) : List Int := 128 :: (List.replicate (zpad n) 0 ++ be8 ((n : Int) * 8))
theorem tail_len (n : Nat) : (n + (tailB n).length) % 64 = 0 := by
  simp only [tailB, List.length_cons, List.length_append, List.length_replicate, be8, List.length_nil, zpad]
  omega
def padded (b : List Int) : List Int := b ++ tailB b.length
/-- The hash. -/
def sha (b : List Int) : List Int := outB (run ((padded b).length / 64) S0 (padded b))

theorem Bys_tail (n : Nat) : Bys (tailB n) := by
  intro x hx
  simp only [tailB, List.mem_cons, List.mem_append, List.mem_replicate, be8, List.not_mem_nil, or_false] at hx
  rcases hx with rfl | ⟨_, rfl⟩ | rfl | rfl | rfl | rfl | rfl | rfl | rfl | rfl <;> omega
theorem Bys_out (S : List Int) : Bys (outB S) := by
  intro x hx
  obtain ⟨y, _, hy⟩ := List.mem_flatMap.1 hx
  simp only [bytes4, List.mem_cons, List.not_mem_nil, or_false] at hy
  rcases hy with rfl | rfl | rfl | rfl <;> omega

/-! ### Rows of bytes -/
abbrev QB (w : World) (base : Nat) (v : Value) (xs : List Int) : Prop := QRow w base 5 1 v xs.length (encs (Value.int .u8) xs)
/-- The bytes can be read from there. -/
def Rd (w : World) (A : Option Addr) (ys : List Int) : Prop := ∀ (j : Nat) (u : Value), (encs (Value.int .u8) ys)[j]? = some u → ∃ ad, A = some ad ∧ w.cell? (ad.add j) = some u
theorem Rd.nil (w : World) (A : Option Addr) : Rd w A [] := fun j u h => by simp [encs] at h
theorem Rd.blk {w : World} {g : Nat} {ys : List Int} {t : TypeId} (h : w.heap[g]? = some (.cells (encs (Value.int .u8) ys).toArray t (0, 0))) : Rd w (some ⟨g, 0, none⟩) ys := fun j u hu => ⟨_, rfl, by
  rw [add_at, cell_of_row w g _ _ t (0, 0) h, Nat.zero_add]
  simpa using hu⟩
theorem Rd.of_C {w : World} {A : Option Addr} {ys : List Int} (h : Kd.C (Kd.int .u8) w A ys.length ys) : Rd w A ys := fun j u hu => by
  have hR := Kd.reads_of_C (enc := Value.int .u8) (d := (0 : Int)) (h1 := fun _ => rfl) h
  have hj : j < ys.length := by simpa [encs] using (List.getElem?_eq_some_iff.1 hu).1
  obtain ⟨ad, e, hc⟩ := hR.2.2 (by omega)
  refine ⟨ad, e, (hc j hj).trans ?_⟩
  rw [← hu]
  simp [encs, List.getD_eq_getElem?_getD, List.getElem?_eq_getElem hj]
theorem Rd.C {w : World} {A : Option Addr} {ys : List Int} (h : Rd w A ys) (hl : ys.length ≤ 9223372036854775807) : Kd.C (Kd.int .u8) w A ys.length ys := by
  refine Kd.C_of_reads (d := (0 : Int)) ⟨rfl, hl, fun hn => ?_⟩
  have hg : ∀ j, j < ys.length → (encs (Value.int .u8) ys)[j]? = some (.int .u8 (ys.getD j 0)) := fun j hj => by
    simp [encs, List.getD_eq_getElem?_getD, List.getElem?_eq_getElem hj]
  obtain ⟨ad, e, _⟩ := h 0 _ (hg 0 hn)
  refine ⟨ad, e, fun j hj => ?_⟩
  obtain ⟨ad', e', h'⟩ := h j _ (hg j hj)
  rw [e] at e'
  cases e'
  exact h'
/-- It can be read in another world in which its cells are the same. -/
theorem Rd.fr {S : Nat → Prop} {w w' : World} {A : Option Addr} {ys : List Int} (h : Rd w A ys) (hf : Fr S w w') (hS : ∀ ad, A = some ad → ¬ S ad.block) : Rd w' A ys := fun j u hu => by
  obtain ⟨ad, e, hc⟩ := h j u hu
  exact ⟨ad, e, hf.cell hc (by rw [addr_block]; exact hS ad e)⟩
theorem QB.rd {w : World} {base : Nat} {A : Option Addr} {n c : Nat} {xs : List Int} (h : QB w base (.slice A n c) xs) : Rd w A xs := fun j u hu => by
  have hj : j < xs.length := by simpa [encs] using (List.getElem?_eq_some_iff.1 hu).1
  obtain ⟨A', c', he, hl⟩ := q_slice h
  cases he
  obtain ⟨ad, e, hc⟩ := q_cells h (by omega)
  exact ⟨ad, e, hc j u hu⟩
theorem QB.slice {w : World} {base : Nat} {v : Value} {xs : List Int} (h : QB w base v xs) : ∃ A c, v = .slice A xs.length c ∧ xs.length ≤ c := q_slice h
theorem QB.fr {S : Nat → Prop} {w w' : World} {base : Nat} {v : Value} {xs : List Int} (h : QB w base v xs) (hf : Fr S w w') (hS : ∀ k, v.ownBlock = some k → ¬ S k) : QB w' base v xs := q_move h (fun k hk => hf.block k (q_lt h k hk) (hS k hk))
theorem QB.base {w : World} {base : Nat} {v : Value} {xs : List Int} (h : QB w base v xs) : ∀ k, v.ownBlock = some k → base ≤ k := fun k hk => (q_typed h k hk).1
theorem QB.nil (w : World) (base : Nat) : QB w base (.slice none 0 0) [] := ⟨rfl, .inl ⟨rfl, none, rfl, fun a h => by cases h⟩⟩
theorem QB.drop {w : World} {base : Nat} {A : Option Addr} {n c : Nat} {xs : List Int} (h : QB w base (.slice A n c) xs) (k : Nat) (hk : k ≤ xs.length) : QB w base (.slice (if c = k then A else A.map (·.add k)) (n - k) (c - k)) (xs.drop k) := by
  obtain ⟨A', c', he, hl⟩ := q_slice h
  cases he
  have := q_drop h hk
  rw [Nat.mul_one] at this
  show QRow w base 5 1 _ (xs.drop k).length (encs (Value.int .u8) (xs.drop k))
  rw [List.length_drop, show encs (Value.int .u8) (xs.drop k) = (encs (Value.int .u8) xs).drop k from List.map_drop]
  exact this
theorem Fr.of_grown {w w' : World} {row : Option Nat} (h : w.grownBy w' row) : Fr (fun k => some k = row) w w' := ⟨h.os, h.tape, h.output, h.size, fun k hk hn => h.block k hk hn⟩
section
variable {P : Program} {ops : Array Oper} {rest : List Oper} {o : Oper} {a : Act} {Q : Exit → Act → World → Prop} {w : World}
theorem run_appq (base : Nat) (ty : TypeId) (hi : (Try.prog.info? 5).map (fun i => (i.zero, i.size, i.bytes)) = some (some (.int .u8 0), 1, 1)) (v : Value) (xs : List Int) (hq : QB w base v xs) (A : Option Addr) (c : Nat) (ys : List Int) (hy : Rd w A ys) (hl : xs.length + ys.length ≤ 140737488355328) (hb : base ≤ w.heap.size) :
    ∃ v1 w1, (Builtin.append_ #[29, 29] ty #[v, .slice A ys.length c]).run Try.prog w = .ok v1 w1 ∧ QB w1 base v1 (xs ++ ys) ∧ w.grownBy w1 v.ownBlock ∧ (v1.ownBlock = v.ownBlock ∨ ∃ b, v1.ownBlock = some b ∧ w.heap.size ≤ b) := by
  obtain ⟨i0, hi0, h0, h1, h2⟩ := info_parts hi
  by_cases hm : ys = []
  · subst hm
    refine ⟨v, w, ?_, by rw [List.append_nil]; exact hq, World.grownBy.refl w _, .inl rfl⟩
    obtain ⟨A', c', rfl, hc'⟩ := q_slice hq
    cases A <;> cases A' <;> simp [Builtin.append_, run_underlying Try.underlying29, sizeOf, typeInfo, hi0, Builtin.lenOf, Builtin.firstCells, hc', storeCells, loadCells, loadCellsFrom, Result.andThen]
  · obtain ⟨y, ys', rfl⟩ := List.exists_cons_of_ne_nil hm
    obtain ⟨ad, hA, _⟩ := hy 0 (.int .u8 y) rfl
    subst hA
    obtain ⟨v1, w1, hr, hq1, hg, hat⟩ := q_append (P := Try.prog) w base 29 ty 5 i0 (.int .u8 0) 1 1 Try.underlying29 hi0 h0 h1 h2 rfl (by decide) v xs.length _ hq ad (y :: ys').length c (encs (Value.int .u8) (y :: ys')) (by rw [encs_len, Nat.mul_one])
      (fun j u hu => by obtain ⟨ad', e, h⟩ := hy j u hu; cases e; exact h) (by simp [encs, Value.oneCell']) (by simp) (by simp only [maxLen]; omega) (by omega) hb
    refine ⟨v1, w1, hr, ?_, hg, hat⟩
    show QRow w1 base 5 1 v1 (xs ++ y :: ys').length (encs (Value.int .u8) (xs ++ y :: ys'))
    rw [List.length_append, show encs (Value.int .u8) (xs ++ y :: ys') = encs (Value.int .u8) xs ++ encs (Value.int .u8) (y :: ys') from List.map_append]
    exact hq1
/-- append(v, ys...): the row's value and the world are letters. -/
theorem wpList_appq {P : Program} (hP : P = Try.prog) (hgd : o.guard = none) (base : Nat) (s x : Operand) (ho : o.op = .call { callee := .builtin .append, args := #[s, x], argTypes := #[29, 29] })
    (hi : (Try.prog.info? 5).map (fun i => (i.zero, i.size, i.bytes)) = some (some (.int .u8 0), 1, 1)) (v : Value) (xs : List Int) (hs : a.eval s = v) (hq : QB w base v xs) (A : Option Addr) (m c : Nat) (ys : List Int) (hx : a.eval x = .slice A m c) (hm : m = ys.length) (hy : Rd w A ys) (hl : xs.length + ys.length ≤ 140737488355328) (hb : base ≤ w.heap.size)
    (h : ∀ v1 w1, QB w1 base v1 (xs ++ ys) → Fr (fun k => some k = v.ownBlock) w w1 → (v1.ownBlock = v.ownBlock ∨ ∃ b, v1.ownBlock = some b ∧ w.heap.size ≤ b) → wpList P ops Q rest (a.put o.dst v1) w1) : wpList P ops Q (o :: rest) a w := by
  subst hP hm
  obtain ⟨v1, w1, hr, h1, h2, h3⟩ := run_appq (w := w) base o.type hi v xs hq A c ys hy hl hb
  refine wpList_plain hgd fun K hK => ?_
  unfold Oper.wp execOp
  simp only [ho, resolve, invoke, builtin, Sem.run_bind, Sem.run_pure, Result.andThen_ok, List.map_toArray, List.map_cons, List.map_nil, hs, hx, hr]
  exact hK _ _ (h v1 w1 h1 (Fr.of_grown h2) h3)
end

/-! ### Rows of bytes that begin at their block's head -/
abbrev OB (w : World) (base : Nat) (v : Value) (xs : List Int) : Prop := w.ownsRow base 5 1 v xs.length (encs (Value.int .u8) xs)
theorem OB.slice {w : World} {base : Nat} {v : Value} {xs : List Int} (h : OB w base v xs) : ∃ A c, v = .slice A xs.length c ∧ xs.length ≤ c := q_slice (q_of_own h)
theorem OB.fr {S : Nat → Prop} {w w' : World} {base : Nat} {v : Value} {xs : List Int} (h : OB w base v xs) (hf : Fr S w w') (hS : ∀ k, v.ownBlock = some k → ¬ S k) : OB w' base v xs := own_move h (fun k hk => hf.block k (q_lt (q_of_own h) k hk) (hS k hk))
theorem OB.base {w : World} {base : Nat} {v : Value} {xs : List Int} (h : OB w base v xs) : ∀ k, v.ownBlock = some k → base ≤ k := fun k hk => (q_typed (q_of_own h) k hk).1
theorem OB.nil (w : World) (base : Nat) : OB w base (.slice none 0 0) [] := ⟨rfl, .inl ⟨rfl, rfl⟩⟩
theorem OB.lower {w : World} {base base' : Nat} {v : Value} {xs : List Int} (h : OB w base v xs) (hb : base' ≤ base) : OB w base' v xs := by
  obtain ⟨h1, h2⟩ := h
  refine ⟨h1, ?_⟩
  rcases h2 with h2 | ⟨g, cap, cur, hv, hg, r⟩
  · exact .inl h2
  · exact .inr ⟨g, cap, cur, hv, Nat.le_trans hb hg, r⟩
section
variable {P : Program} {ops : Array Oper} {rest : List Oper} {o : Oper} {a : Act} {Q : Exit → Act → World → Prop} {w : World}
/-- append(v, ys...), ys not empty: the row's value and the world are letters. -/
theorem wpList_appo {P : Program} (hP : P = Try.prog) (hgd : o.guard = none) (base : Nat) (s x : Operand) (ho : o.op = .call { callee := .builtin .append, args := #[s, x], argTypes := #[29, 29] })
    (hi : (Try.prog.info? 5).map (fun i => (i.zero, i.size, i.bytes)) = some (some (.int .u8 0), 1, 1)) (v : Value) (xs : List Int) (hs : a.eval s = v) (hq : OB w base v xs) (A : Option Addr) (m c : Nat) (ys : List Int) (hx : a.eval x = .slice A m c) (hm : m = ys.length) (hy : Rd w A ys) (hne : ys ≠ []) (hl : xs.length + ys.length ≤ 140737488355328) (hb : base ≤ w.heap.size)
    (h : ∀ v1 w1, OB w1 base v1 (xs ++ ys) → Fr (fun k => some k = v.ownBlock) w w1 → (v1.ownBlock = v.ownBlock ∨ ∃ b, v1.ownBlock = some b ∧ w.heap.size ≤ b) → wpList P ops Q rest (a.put o.dst v1) w1) : wpList P ops Q (o :: rest) a w := by
  subst hP hm
  obtain ⟨i0, hi0, h0, h1, h2⟩ := info_parts hi
  obtain ⟨y, ys', rfl⟩ := List.exists_cons_of_ne_nil hne
  obtain ⟨ad, hA, _⟩ := hy 0 (.int .u8 y) rfl
  subst hA
  obtain ⟨v1, w1, hr, hq1, hg, _, hat⟩ := run_append_own_at (P := Try.prog) w base 29 o.type 5 i0 (.int .u8 0) 1 1 Try.underlying29 hi0 h0 h1 h2 rfl (by decide) v xs.length _ hq ad (y :: ys').length c (encs (Value.int .u8) (y :: ys')) (by rw [encs_len, Nat.mul_one])
    (fun j u hu => by obtain ⟨ad', e, h⟩ := hy j u hu; cases e; exact h) (by simp [encs, Value.oneCell']) (by simp only [maxLen]; omega) (by omega) hb
  have hq2 : OB w1 base v1 (xs ++ y :: ys') := by
    show w1.ownsRow base 5 1 v1 (xs ++ y :: ys').length (encs (Value.int .u8) (xs ++ y :: ys'))
    rw [List.length_append, show encs (Value.int .u8) (xs ++ y :: ys') = encs (Value.int .u8) xs ++ encs (Value.int .u8) (y :: ys') from List.map_append]
    exact hq1
  refine wpList_plain hgd fun K hK => ?_
  unfold Oper.wp execOp
  simp only [ho, resolve, invoke, builtin, Sem.run_bind, Sem.run_pure, Result.andThen_ok, List.map_toArray, List.map_cons, List.map_nil, hs, hx, hr]
  exact hK _ _ (h v1 w1 hq2 (Fr.of_grown hg) (hat.elim .inl (fun h => .inr ⟨_, h, Nat.le_refl _⟩)))
end
end Go.Proofs.Ytnabilhcmplhcaa.Sha

/-
  What the program's hash and the document's share.
-/
set_option linter.unusedVariables false
set_option linter.unusedSimpArgs false
namespace Go.Proofs.Ytnabilhcmplhcaa.Sha
open Go.RowKit Go.Proofs.YtnabilhcmplhcaaW.PrintWords Go.Proofs.YtnabilhcmplhcaaW.PrintLast Go.Proofs.YtnabilhcmplhcaaW.PrintMore Go.Proofs.Ytnabilhcmplhcaa.Q Go.Proofs.Ytnabilhcmplhcaa.Fr Go.Proofs.Ytnabilhcmplhcaa.Oct

noncomputable def bodyIn (f : Func) (n m : Nat) : Code := ((loopsIn (bodyN f n))[m]?).getD .skip
section
variable {P : Program} {ops : Array Oper} {rest : List Oper} {o : Oper} {a : Act} {Q : Exit → Act → World → Prop} {w : World}
theorem wpList_box_abs (hg : o.guard = none) (t : TypeId) (x : Operand) (ho : o.op = .box t x) (cells : Array Value) (hx : a.eval x = .agg cells)
    (hK : ∀ w1, Below w.heap.size w w1 → w1.heap.size = w.heap.size + 1 → w1.heap[w.heap.size]? = some (.cells cells t (0, 0)) → wpList P ops Q rest (a.put o.dst (.pointer (some ⟨w.heap.size, 0, none⟩))) w1) : wpList P ops Q (o :: rest) a w :=
  Great.wpList_boxTo hg t x ho _ rfl _ rfl cells (by rw [hx]; rfl) (hK _ (below_alloc (Below.refl _ _) _) (by simp) (heap_alloc_new w _))
end
theorem outB_len (S : List Int) : (outB S).length = 4 * S.length := by
  induction S with
  | nil => rfl
  | cons x S ih => rw [outB, List.flatMap_cons, List.length_append]; rw [outB] at ih; rw [ih, bytes4]; simp only [List.length_cons, List.length_nil]; omega
theorem outB_take (S : List Int) (t : Nat) (ht : t < S.length) : outB (S.take (t + 1)) = outB (S.take t) ++ bytes4 (S.getD t 0) := by
  rw [List.take_succ_eq_append_getElem ht, outB, List.flatMap_append, List.flatMap_cons, List.flatMap_nil, List.append_nil, List.getD_eq_getElem?_getD, List.getElem?_eq_getElem ht]
  rfl
end Go.Proofs.Ytnabilhcmplhcaa.Sha
end
