/-
  SHA's block: words as the machine reckons them; the frame written out; small laws.
-/
import Derived.Test.YtgnghgeljlaedaaFr
import Derived.Deep.QuietTactic
import Derived.BigQuiet
import Derived.StillTailTactics
import Derived.IntWalk
import Derived.Deep.LoopGhost
import Derived.Test.YtgnghgeljlaedaaQx1
set_option linter.unusedVariables false
set_option linter.unusedSimpArgs false
namespace Go.Proofs.Ytgnghgeljlaedaa.Sha
open Go.RowKit Go.Proofs.YtgnghgeljlaedaaW.PrintWords Go.Proofs.YtgnghgeljlaedaaW.PrintLast Go.Proofs.YtgnghgeljlaedaaW.PrintMore Go.Proofs.Ytgnghgeljlaedaa.Q Go.Proofs.Ytgnghgeljlaedaa.Fr

def rotr (x n : Int) : Int := Go.bits .or .u32 (IntKind.u32.wrap (x * 2 ^ (32 - n).toNat)) (x / 2 ^ n.toNat)
def turnable (n : Int) : Prop := n = 2 ∨ n = 6 ∨ n = 7 ∨ n = 11 ∨ n = 13 ∨ n = 17 ∨ n = 18 ∨ n = 19 ∨ n = 22 ∨ n = 25
theorem ror_f (x n : Int) (h : turnable n) : sha_ror.f x n = some (rotr x n) := by
  have e : ∀ m : Int, turnable m → Go.bits .and .u64 (IntKind.u64.wrap (wrap64 (-m))) 31 = 32 - m ∧ IntKind.u64.wrap (32 - (32 - m)) = m := by
    rintro m (rfl|rfl|rfl|rfl|rfl|rfl|rfl|rfl|rfl|rfl) <;> exact ⟨by decide +kernel, by decide +kernel⟩
  have b : 0 ≤ 32 - n ∧ 0 ≤ n ∧ (32 - n).toNat ≤ 32 ∧ n.toNat ≤ 32 := by unfold turnable at h; omega
  have e1 := (e n h).1
  have e2 := (e n h).2
  simp only [sha_ror.f, bits_RotateLeft32.f, e1, e2, if_pos b.1, if_pos b.2.1, Option.bind_some, rotr, shl, shr]
  rw [show min (32 - n).toNat IntKind.u32.bits = (32 - n).toNat from Nat.min_eq_left b.2.2.1, show min n.toNat IntKind.u32.bits = n.toNat from Nat.min_eq_left b.2.2.2]
/-- ror, met in a region that draws. -/
theorem rorq (x n : Int) (h : turnable n) (w : World) (k : Nat) :
    Calls Try.prog 47 #[.int .u32 x, .int .i64 n] (w.drewN k) fun e w' => e = .returned (.int .u32 (rotr x n)) ∧ ∃ m, w' = w.drewN m :=
  (sha_ror.calls x n _ _ (ror_f x n h)).mono fun e w' ⟨he, m, hm⟩ => ⟨he, k + m, hm.trans (World.drewN_drewN _ _ _)⟩

/-- ror leaves the world as it is. -/
theorem rot_same (x m : Int) (ji3 ji5 ji6 ji8 r : Int) (hji3 : Go.bits .and .u64 (IntKind.u64.wrap m) 31 = ji3) (c4 : 0 ≤ ji3) (hji5 : shl .u32 x ji3 = ji5) (hji6 : IntKind.u64.wrap (32 - ji3) = ji6) (c7 : 0 ≤ ji6)
    (hji8 : shr .u32 x ji6 = ji8) (hr : Go.bits .or .u32 ji5 ji8 = r) (w : World) : Calls Try.prog 51 #[.int .u32 x, .int .i64 m] w fun e w' => e = .returned (.int .u32 r) ∧ w' = w := by
  have c4b0 := eq_true c4
  have c4b1 : decide (0 ≤ (ji3)) = true := decide_eq_true c4
  have hji5_ : (IntKind.u32.wrap (x * 2 ^ min (ji3).toNat 32)) = ji5 := hji5
  have hji5z : (ji3) ≤ 32 → (IntKind.u32.wrap (x * 2 ^ (ji3).toNat)) = ji5 := shl_small hji5
  have c7b0 := eq_true c7
  have c7b1 : decide (0 ≤ (ji6)) = true := decide_eq_true c7
  have hji8_ : (x / 2 ^ min (ji6).toNat 32) = ji8 := hji8
  have hji8z : (ji6) ≤ 32 → (x / 2 ^ (ji6).toNat) = ji8 := shr_small hji8
  clear c4 c7
  go_enter Try.func51, Try.ntmps51
  go_wp2
  go_ret
  exact ⟨by first | rfl | (simp; done) | (simp only [← hr, ← hji3, ← hji5, ← hji6, ← hji8] <;> (first | rfl | simp)) | (simp [*]; done), rfl⟩
theorem ror_same (x n : Int) (h : turnable n) (w : World) : Calls Try.prog 47 #[.int .u32 x, .int .i64 n] w fun e w' => e = .returned (.int .u32 (rotr x n)) ∧ w' = w := by
  have e : ∀ m : Int, turnable m → Go.bits .and .u64 (IntKind.u64.wrap (wrap64 (-m))) 31 = 32 - m ∧ IntKind.u64.wrap (32 - (32 - m)) = m := by
    rintro m (rfl|rfl|rfl|rfl|rfl|rfl|rfl|rfl|rfl|rfl) <;> exact ⟨by decide +kernel, by decide +kernel⟩
  have b : 0 ≤ 32 - n ∧ 0 ≤ n ∧ (32 - n).toNat ≤ 32 ∧ n.toNat ≤ 32 := by unfold turnable at h; omega
  have e1 := (e n h).1
  have e2 := (e n h).2
  have hc := fun w => rot_same x (wrap64 (-n)) (32 - n) _ n _ _ e1 b.1 rfl e2 b.2.1 rfl rfl w
  have hr : Go.bits .or .u32 (shl .u32 x (32 - n)) (shr .u32 x n) = rotr x n := by
    simp only [rotr, shl, shr]
    rw [show min (32 - n).toNat IntKind.u32.bits = (32 - n).toNat from Nat.min_eq_left b.2.2.1, show min n.toNat IntKind.u32.bits = n.toNat from Nat.min_eq_left b.2.2.2]
  rw [hr] at hc
  clear e e1 e2 hr b h
  go_enter Try.func47, Try.ntmps47
  go_wp2_with (first | ((with_reducible refine gate_callee (f := 51) rfl ?_); refine goesL_ (some 8) rfl rfl Try.func51 (by kernel_rfl) rfl #[.int .u32 x, .int .i64 (wrap64 (-n))] rfl (by (try simp only [List.map_toArray, List.map_cons, List.map_nil]); first | done | rfl) ?_; (with_reducible refine (hc _).mono ?_); rintro e w' ⟨rfl, rfl⟩; refine ⟨_, rfl, ?_⟩))
  go_ret
  exact ⟨by first | rfl | (simp; done) | (simp [*]; done), rfl⟩
/-- The loops' bodies, in the order of the text. -/
def loopsIn : Code → List Code
  | .loop c => [c]
  | .seq a b => loopsIn a ++ loopsIn b
  | .block _ c => loopsIn c
  | .scope c => loopsIn c
  | .cond _ a b => loopsIn a ++ loopsIn b
  | _ => []
noncomputable def bodyN (f : Func) (n : Nat) : Code := (((f.body.map loopsIn).getD [])[n]?).getD .skip

theorem encs_len {α : Type} (e : α → Value) (l : List α) : (encs e l).length = l.length := by simp [encs]
theorem cellW {w : World} {g : Nat} {W : List Int} {t : TypeId} {tl : List Value} (h : w.heap[g]? = some (.cells (encs (Value.int .u32) W ++ tl).toArray t (0, 0))) (i : Int) (h0 : 0 ≤ i) (h1 : i < W.length) : w.cell? ⟨g, i.toNat, none⟩ = some (.int .u32 (W.getD i.toNat 0)) := by
  have hl : i.toNat < W.length := by omega
  have hx : (encs (Value.int .u32) W ++ tl)[i.toNat]? = some (.int .u32 (W.getD i.toNat 0)) := by
    rw [List.getElem?_append_left (by simpa [encs] using hl)]
    simp [encs, List.getElem?_eq_getElem hl, List.getD_eq_getElem?_getD]
  simp [World.cell?, h, hx]
theorem cellV {w : World} {g : Nat} {W : List Int} {t : TypeId} (h : w.heap[g]? = some (.cells (encs (Value.int .u32) W).toArray t (0, 0))) (i : Int) (h0 : 0 ≤ i) (h1 : i < W.length) : w.cell? ⟨g, i.toNat, none⟩ = some (.int .u32 (W.getD i.toNat 0)) :=
  cellW (tl := []) (by simpa using h) i h0 h1

/-- A region that draws; what reads stands ahead of the tail; the world is a letter. -/
theorem region_tail {P : Program} {id : Nat} {Q : Exit → Act → World → Prop} {a : Act} {w : World} {l : List Oper} (n : Nat) (hm : P.follows .mixedOrders = true) (hB : Region.lexTailB .any l.toArray n = true)
    (h : ∀ w', w' = w.drew → wpStill P l.toArray w' (fun a' => wpList P l.toArray Q (l.drop n) a' w') (l.take n) a) : (Code.region id l.toArray true).wp P Q a w := wp_region_still_tail n hm hB (h w.drew rfl)
/-- A loop of N rounds, told upward. -/
theorem wp_loop_up {P : Program} {Q : Exit → Act → World → Prop} {a : Act} {w : World} {c : Code} (N : Nat) (J : Nat → Act → World → Prop) (h0 : J 0 a w)
    (round : ∀ t a w, t ≤ N → J t a w → c.wp P (Exit.then (fun a' w' => t < N ∧ J (t + 1) a' w') Q) a w) : (Code.loop c).wp P Q a w := by
  refine wp_loop_ghost (fun n a w => n ≤ N ∧ J (N - n) a w) N ⟨Nat.le_refl _, by rw [Nat.sub_self]; exact h0⟩ ?_
  rintro n a w ⟨hn, hJ⟩
  refine Code.wp_mono ?_ (round (N - n) a w (by omega) hJ)
  intro e a' w' hq
  cases e with
  | normal => exact ⟨n - 1, by have := hq.1; omega, by omega, by have h2 := hq.2; rw [show N - (n - 1) = N - n + 1 by have := hq.1; omega]; exact h2⟩
  | _ => exact hq
theorem heap_putW {w : World} {g : Nat} {W : List Int} {t : TypeId} {tl : List Value} (h : w.heap[g]? = some (.cells (encs (Value.int .u32) W ++ tl).toArray t (0, 0))) (i : Nat) (hi : i < W.length) (v : Int) :
    (w.setCell ⟨g, i, none⟩ (.int .u32 v)).heap[g]? = some (.cells (encs (Value.int .u32) (W.set i v) ++ tl).toArray t (0, 0)) := by
  rw [setCell_eq_setRow w g i _ t (0, 0) _ h, setRow_heap w g _ _ t _ h]
  congr 2
  have : i < (encs (Value.int .u32) W).length := by rw [encs_len]; exact hi
  simp only [List.setIfInBounds_toArray]
  rw [List.set_append_left _ _ this]
  simp [encs]
theorem heap_putV {w : World} {g : Nat} {W : List Int} {t : TypeId} (h : w.heap[g]? = some (.cells (encs (Value.int .u32) W).toArray t (0, 0))) (i : Nat) (hi : i < W.length) (v : Int) :
    (w.setCell ⟨g, i, none⟩ (.int .u32 v)).heap[g]? = some (.cells (encs (Value.int .u32) (W.set i v)).toArray t (0, 0)) := by
  have := heap_putW (tl := []) (by simpa using h) i hi v
  simpa using this
theorem frozenV {w : World} {g : Nat} {cs : Array Value} {t : TypeId} (h : w.heap[g]? = some (.cells cs t (0, 0))) (i : Nat) : w.frozen? ⟨g, i, none⟩ = false := by simp [World.frozen?, h]
/-- The functions of the schedule. -/
def X3 (a b c : Int) : Int := Go.bits .xor .u32 (Go.bits .xor .u32 a b) c
def sig0 (x : Int) : Int := X3 (rotr x 7) (rotr x 18) (x / 8)
def sig1 (x : Int) : Int := X3 (rotr x 17) (rotr x 19) (x / 1024)
def sch (W : List Int) (t : Int) : Int := (sig1 (W.getD (t - 2).toNat 0) + W.getD (t - 7).toNat 0 + sig0 (W.getD (t - 15).toNat 0) + W.getD (t - 16).toNat 0) % 4294967296
/-- A word of four bytes. -/
def word4 (a b c d : Int) : Int := Go.bits .or .u32 (Go.bits .or .u32 (Go.bits .or .u32 (a % 4294967296 * 16777216 % 4294967296) (b % 4294967296 * 65536 % 4294967296)) (c % 4294967296 * 256 % 4294967296)) (d % 4294967296)
def wrd (P : List Int) (t : Int) : Int := word4 (P.getD (4 * t).toNat 0) (P.getD (4 * t + 1).toNat 0) (P.getD (4 * t + 2).toNat 0) (P.getD (4 * t + 3).toNat 0)
/-- The words of a block, as far as they are known behind t rounds. -/
def sched (P : List Int) : Nat → List Int
  | 0 => List.replicate 64 0
  | t + 1 => (sched P t).set t (if t < 16 then wrd P t else sch (sched P t) t)
theorem sched_len (P : List Int) (t : Nat) : (sched P t).length = 64 := by
  induction t with
  | zero => simp [sched]
  | succ t ih => simp [sched, ih]
theorem addr_block (p : Addr) (i : Nat) : (p.add i).block = p.block := by unfold Addr.add; split <;> rfl
/-- A round. -/
def T1f (e f g h k w : Int) : Int := IntKind.u32.wrap (IntKind.u32.wrap (IntKind.u32.wrap (IntKind.u32.wrap (h + Go.bits .xor .u32 (Go.bits .xor .u32 (rotr e 6) (rotr e 11)) (rotr e 25)) + Go.bits .xor .u32 (Go.bits .and .u32 e f) (Go.bits .and .u32 (Go.bits .xor .u32 IntKind.u32.max e) g)) + k) + w)
def T2f (a b c : Int) : Int := IntKind.u32.wrap (Go.bits .xor .u32 (Go.bits .xor .u32 (rotr a 2) (rotr a 13)) (rotr a 22) + Go.bits .xor .u32 (Go.bits .xor .u32 (Go.bits .and .u32 a b) (Go.bits .and .u32 a c)) (Go.bits .and .u32 b c))
def rnd (V : List Int) (k w : Int) : List Int :=
  match V with
  | [a, b, c, d, e, f, g, h] => [(T1f e f g h k w + T2f a b c) % 4294967296, a, b, c, (d + T1f e f g h k w) % 4294967296, e, f, g]
  | V => V
theorem rnd_len (V : List Int) (k w : Int) : (rnd V k w).length = V.length := by unfold rnd; split <;> rfl
def rnds (K W V : List Int) : Nat → List Int
  | 0 => V
  | t + 1 => rnd (rnds K W V t) (K.getD t 0) (W.getD t 0)
theorem rnds_len (K W V : List Int) (t : Nat) : (rnds K W V t).length = V.length := by
  induction t with
  | zero => rfl
  | succ t ih => rw [rnds, rnd_len, ih]
theorem eight {V : List Int} (h : V.length = 8) : ∃ a b c d e f g i, V = [a, b, c, d, e, f, g, i] := by
  match V, h with
  | [a, b, c, d, e, f, g, i], _ => exact ⟨a, b, c, d, e, f, g, i, rfl⟩
/-- The state's words, word by word added to. -/
def adds (S V : List Int) : Nat → List Int
  | 0 => S
  | t + 1 => (adds S V t).set t (((adds S V t).getD t 0 + V.getD t 0) % 4294967296)
theorem adds_len (S V : List Int) (t : Nat) : (adds S V t).length = S.length := by
  induction t with
  | zero => rfl
  | succ t ih => rw [adds, List.length_set, ih]
/-- The table of constants. -/
def Ktab : List Int := [1116352408, 1899447441, 3049323471, 3921009573, 961987163, 1508970993, 2453635748, 2870763221, 3624381080, 310598401, 607225278, 1426881987, 1925078388, 2162078206, 2614888103, 3248222580, 3835390401, 4022224774, 264347078, 604807628, 770255983, 1249150122, 1555081692, 1996064986, 2554220882, 2821834349, 2952996808, 3210313671, 3336571891, 3584528711, 113926993, 338241895, 666307205, 773529912, 1294757372, 1396182291, 1695183700, 1986661051, 2177026350, 2456956037, 2730485921, 2820302411, 3259730800, 3345764771, 3516065817, 3600352804, 4094571909, 275423344, 430227734, 506948616, 659060556, 883997877, 958139571, 1322822218, 1537002063, 1747873779, 1955562222, 2024104815, 2227730452, 2361852424, 2428436474, 2756734187, 3204031479, 3329325298]
def compress (S P : List Int) : List Int := adds S (rnds Ktab (sched P 64) S 64) 8
theorem compress_len (S P : List Int) : (compress S P).length = S.length := adds_len _ _ _
section
variable {P : Program} {ops : Array Oper} {rest : List Oper} {o : Oper} {a : Act} {Q : Exit → Act → World → Prop} {w : World}
theorem wpList_build_abs (hg : o.guard = none) (t : TypeId) (parts : Array (Nat × Operand)) (ho : o.op = .build t parts) (cells : Array Value)
    (hf : P.built t (parts.map fun (i, x) => (i, a.eval x)).toList = some cells)
    (h : wpList P ops Q rest (a.put o.dst (.agg cells)) w) : wpList P ops Q (o :: rest) a w :=
  wpList_build hg t parts ho (by rw [hf]; rfl) (by rw [hf]; exact h)
end
/-- A frame of n slots. -/
def Fm (n : Nat) (a : Act) : Prop := a.tmps.size = n ∧ a.defers = []
def sl (a : Act) (i : Nat) : Value := a.tmps.getD i undef
set_option maxRecDepth 100000 in
theorem fm187 {a : Act} (h : Fm 187 a) : a = ⟨#[sl a 0, sl a 1, sl a 2, sl a 3, sl a 4, sl a 5, sl a 6, sl a 7, sl a 8, sl a 9, sl a 10, sl a 11, sl a 12, sl a 13, sl a 14, sl a 15, sl a 16, sl a 17, sl a 18, sl a 19, sl a 20, sl a 21, sl a 22, sl a 23, sl a 24, sl a 25, sl a 26, sl a 27, sl a 28, sl a 29, sl a 30, sl a 31, sl a 32, sl a 33, sl a 34, sl a 35, sl a 36, sl a 37, sl a 38, sl a 39, sl a 40, sl a 41, sl a 42, sl a 43, sl a 44, sl a 45, sl a 46, sl a 47, sl a 48, sl a 49, sl a 50, sl a 51, sl a 52, sl a 53, sl a 54, sl a 55, sl a 56, sl a 57, sl a 58, sl a 59, sl a 60, sl a 61, sl a 62, sl a 63, sl a 64, sl a 65, sl a 66, sl a 67, sl a 68, sl a 69, sl a 70, sl a 71, sl a 72, sl a 73, sl a 74, sl a 75, sl a 76, sl a 77, sl a 78, sl a 79, sl a 80, sl a 81, sl a 82, sl a 83, sl a 84, sl a 85, sl a 86, sl a 87, sl a 88, sl a 89, sl a 90, sl a 91, sl a 92, sl a 93, sl a 94, sl a 95, sl a 96, sl a 97, sl a 98, sl a 99, sl a 100, sl a 101, sl a 102, sl a 103, sl a 104, sl a 105, sl a 106, sl a 107, sl a 108, sl a 109, sl a 110, sl a 111, sl a 112, sl a 113, sl a 114, sl a 115, sl a 116, sl a 117, sl a 118, sl a 119, sl a 120, sl a 121, sl a 122, sl a 123, sl a 124, sl a 125, sl a 126, sl a 127, sl a 128, sl a 129, sl a 130, sl a 131, sl a 132, sl a 133, sl a 134, sl a 135, sl a 136, sl a 137, sl a 138, sl a 139, sl a 140, sl a 141, sl a 142, sl a 143, sl a 144, sl a 145, sl a 146, sl a 147, sl a 148, sl a 149, sl a 150, sl a 151, sl a 152, sl a 153, sl a 154, sl a 155, sl a 156, sl a 157, sl a 158, sl a 159, sl a 160, sl a 161, sl a 162, sl a 163, sl a 164, sl a 165, sl a 166, sl a 167, sl a 168, sl a 169, sl a 170, sl a 171, sl a 172, sl a 173, sl a 174, sl a 175, sl a 176, sl a 177, sl a 178, sl a 179, sl a 180, sl a 181, sl a 182, sl a 183, sl a 184, sl a 185, sl a 186], []⟩ := by
  obtain ⟨T, D⟩ := a
  obtain ⟨h1, h2⟩ := h
  obtain rfl : D = [] := h2
  obtain ⟨l⟩ := T
  have h1 : l.length = 187 := h1
  congr 2
  refine List.ext_getElem? fun i => ?_
  by_cases hi : i < 187
  · have hx : ∀ j, j < 187 → l[j]? = some (sl ⟨⟨l⟩, []⟩ j) := fun j hj => by
      have hl : j < l.length := by omega
      simp [sl, Array.getD_eq_getD_getElem?, List.getElem?_eq_getElem hl]
    rw [hx i hi]
    have : ∀ (s : Nat → Value) (i : Nat), i < 187 → ((List.range 187).map s)[i]? = some (s i) := fun s i hi => by simp [hi]
    exact (this _ i hi).symm
  · have h2 : ∀ (s : Nat → Value), ((List.range 187).map s)[i]? = none := fun s => by simp; omega
    exact (List.getElem?_eq_none (by omega)).trans (h2 _).symm
set_option maxRecDepth 100000 in
theorem fm74 {a : Act} (h : Fm 74 a) : a = ⟨#[sl a 0, sl a 1, sl a 2, sl a 3, sl a 4, sl a 5, sl a 6, sl a 7, sl a 8, sl a 9, sl a 10, sl a 11, sl a 12, sl a 13, sl a 14, sl a 15, sl a 16, sl a 17, sl a 18, sl a 19, sl a 20, sl a 21, sl a 22, sl a 23, sl a 24, sl a 25, sl a 26, sl a 27, sl a 28, sl a 29, sl a 30, sl a 31, sl a 32, sl a 33, sl a 34, sl a 35, sl a 36, sl a 37, sl a 38, sl a 39, sl a 40, sl a 41, sl a 42, sl a 43, sl a 44, sl a 45, sl a 46, sl a 47, sl a 48, sl a 49, sl a 50, sl a 51, sl a 52, sl a 53, sl a 54, sl a 55, sl a 56, sl a 57, sl a 58, sl a 59, sl a 60, sl a 61, sl a 62, sl a 63, sl a 64, sl a 65, sl a 66, sl a 67, sl a 68, sl a 69, sl a 70, sl a 71, sl a 72, sl a 73], []⟩ := by
  obtain ⟨T, D⟩ := a
  obtain ⟨h1, h2⟩ := h
  obtain rfl : D = [] := h2
  obtain ⟨l⟩ := T
  have h1 : l.length = 74 := h1
  congr 2
  refine List.ext_getElem? fun i => ?_
  by_cases hi : i < 74
  · have hx : ∀ j, j < 74 → l[j]? = some (sl ⟨⟨l⟩, []⟩ j) := fun j hj => by
      have hl : j < l.length := by omega
      simp [sl, Array.getD_eq_getD_getElem?, List.getElem?_eq_getElem hl]
    rw [hx i hi]
    have : ∀ (s : Nat → Value) (i : Nat), i < 74 → ((List.range 74).map s)[i]? = some (s i) := fun s i hi => by simp [hi]
    exact (this _ i hi).symm
  · have h2 : ∀ (s : Nat → Value), ((List.range 74).map s)[i]? = none := fun s => by simp; omega
    exact (List.getElem?_eq_none (by omega)).trans (h2 _).symm
set_option maxRecDepth 100000 in
theorem fm113 {a : Act} (h : Fm 113 a) : a = ⟨#[sl a 0, sl a 1, sl a 2, sl a 3, sl a 4, sl a 5, sl a 6, sl a 7, sl a 8, sl a 9, sl a 10, sl a 11, sl a 12, sl a 13, sl a 14, sl a 15, sl a 16, sl a 17, sl a 18, sl a 19, sl a 20, sl a 21, sl a 22, sl a 23, sl a 24, sl a 25, sl a 26, sl a 27, sl a 28, sl a 29, sl a 30, sl a 31, sl a 32, sl a 33, sl a 34, sl a 35, sl a 36, sl a 37, sl a 38, sl a 39, sl a 40, sl a 41, sl a 42, sl a 43, sl a 44, sl a 45, sl a 46, sl a 47, sl a 48, sl a 49, sl a 50, sl a 51, sl a 52, sl a 53, sl a 54, sl a 55, sl a 56, sl a 57, sl a 58, sl a 59, sl a 60, sl a 61, sl a 62, sl a 63, sl a 64, sl a 65, sl a 66, sl a 67, sl a 68, sl a 69, sl a 70, sl a 71, sl a 72, sl a 73, sl a 74, sl a 75, sl a 76, sl a 77, sl a 78, sl a 79, sl a 80, sl a 81, sl a 82, sl a 83, sl a 84, sl a 85, sl a 86, sl a 87, sl a 88, sl a 89, sl a 90, sl a 91, sl a 92, sl a 93, sl a 94, sl a 95, sl a 96, sl a 97, sl a 98, sl a 99, sl a 100, sl a 101, sl a 102, sl a 103, sl a 104, sl a 105, sl a 106, sl a 107, sl a 108, sl a 109, sl a 110, sl a 111, sl a 112], []⟩ := by
  obtain ⟨T, D⟩ := a
  obtain ⟨h1, h2⟩ := h
  obtain rfl : D = [] := h2
  obtain ⟨l⟩ := T
  have h1 : l.length = 113 := h1
  congr 2
  refine List.ext_getElem? fun i => ?_
  by_cases hi : i < 113
  · have hx : ∀ j, j < 113 → l[j]? = some (sl ⟨⟨l⟩, []⟩ j) := fun j hj => by
      have hl : j < l.length := by omega
      simp [sl, Array.getD_eq_getD_getElem?, List.getElem?_eq_getElem hl]
    rw [hx i hi]
    have : ∀ (s : Nat → Value) (i : Nat), i < 113 → ((List.range 113).map s)[i]? = some (s i) := fun s i hi => by simp [hi]
    exact (this _ i hi).symm
  · have h2 : ∀ (s : Nat → Value), ((List.range 113).map s)[i]? = none := fun s => by simp; omega
    exact (List.getElem?_eq_none (by omega)).trans (h2 _).symm
set_option maxRecDepth 100000 in
theorem fm55 {a : Act} (h : Fm 55 a) : a = ⟨#[sl a 0, sl a 1, sl a 2, sl a 3, sl a 4, sl a 5, sl a 6, sl a 7, sl a 8, sl a 9, sl a 10, sl a 11, sl a 12, sl a 13, sl a 14, sl a 15, sl a 16, sl a 17, sl a 18, sl a 19, sl a 20, sl a 21, sl a 22, sl a 23, sl a 24, sl a 25, sl a 26, sl a 27, sl a 28, sl a 29, sl a 30, sl a 31, sl a 32, sl a 33, sl a 34, sl a 35, sl a 36, sl a 37, sl a 38, sl a 39, sl a 40, sl a 41, sl a 42, sl a 43, sl a 44, sl a 45, sl a 46, sl a 47, sl a 48, sl a 49, sl a 50, sl a 51, sl a 52, sl a 53, sl a 54], []⟩ := by
  obtain ⟨T, D⟩ := a
  obtain ⟨h1, h2⟩ := h
  obtain rfl : D = [] := h2
  obtain ⟨l⟩ := T
  have h1 : l.length = 55 := h1
  congr 2
  refine List.ext_getElem? fun i => ?_
  by_cases hi : i < 55
  · have hx : ∀ j, j < 55 → l[j]? = some (sl ⟨⟨l⟩, []⟩ j) := fun j hj => by
      have hl : j < l.length := by omega
      simp [sl, Array.getD_eq_getD_getElem?, List.getElem?_eq_getElem hl]
    rw [hx i hi]
    have : ∀ (s : Nat → Value) (i : Nat), i < 55 → ((List.range 55).map s)[i]? = some (s i) := fun s i hi => by simp [hi]
    exact (this _ i hi).symm
  · have h2 : ∀ (s : Nat → Value), ((List.range 55).map s)[i]? = none := fun s => by simp; omega
    exact (List.getElem?_eq_none (by omega)).trans (h2 _).symm
set_option maxRecDepth 100000 in
theorem fm72 {a : Act} (h : Fm 72 a) : a = ⟨#[sl a 0, sl a 1, sl a 2, sl a 3, sl a 4, sl a 5, sl a 6, sl a 7, sl a 8, sl a 9, sl a 10, sl a 11, sl a 12, sl a 13, sl a 14, sl a 15, sl a 16, sl a 17, sl a 18, sl a 19, sl a 20, sl a 21, sl a 22, sl a 23, sl a 24, sl a 25, sl a 26, sl a 27, sl a 28, sl a 29, sl a 30, sl a 31, sl a 32, sl a 33, sl a 34, sl a 35, sl a 36, sl a 37, sl a 38, sl a 39, sl a 40, sl a 41, sl a 42, sl a 43, sl a 44, sl a 45, sl a 46, sl a 47, sl a 48, sl a 49, sl a 50, sl a 51, sl a 52, sl a 53, sl a 54, sl a 55, sl a 56, sl a 57, sl a 58, sl a 59, sl a 60, sl a 61, sl a 62, sl a 63, sl a 64, sl a 65, sl a 66, sl a 67, sl a 68, sl a 69, sl a 70, sl a 71], []⟩ := by
  obtain ⟨T, D⟩ := a
  obtain ⟨h1, h2⟩ := h
  obtain rfl : D = [] := h2
  obtain ⟨l⟩ := T
  have h1 : l.length = 72 := h1
  congr 2
  refine List.ext_getElem? fun i => ?_
  by_cases hi : i < 72
  · have hx : ∀ j, j < 72 → l[j]? = some (sl ⟨⟨l⟩, []⟩ j) := fun j hj => by
      have hl : j < l.length := by omega
      simp [sl, Array.getD_eq_getD_getElem?, List.getElem?_eq_getElem hl]
    rw [hx i hi]
    have : ∀ (s : Nat → Value) (i : Nat), i < 72 → ((List.range 72).map s)[i]? = some (s i) := fun s i hi => by simp [hi]
    exact (this _ i hi).symm
  · have h2 : ∀ (s : Nat → Value), ((List.range 72).map s)[i]? = none := fun s => by simp; omega
    exact (List.getElem?_eq_none (by omega)).trans (h2 _).symm
set_option maxRecDepth 100000 in
theorem fm46 {a : Act} (h : Fm 46 a) : a = ⟨#[sl a 0, sl a 1, sl a 2, sl a 3, sl a 4, sl a 5, sl a 6, sl a 7, sl a 8, sl a 9, sl a 10, sl a 11, sl a 12, sl a 13, sl a 14, sl a 15, sl a 16, sl a 17, sl a 18, sl a 19, sl a 20, sl a 21, sl a 22, sl a 23, sl a 24, sl a 25, sl a 26, sl a 27, sl a 28, sl a 29, sl a 30, sl a 31, sl a 32, sl a 33, sl a 34, sl a 35, sl a 36, sl a 37, sl a 38, sl a 39, sl a 40, sl a 41, sl a 42, sl a 43, sl a 44, sl a 45], []⟩ := by
  obtain ⟨T, D⟩ := a
  obtain ⟨h1, h2⟩ := h
  obtain rfl : D = [] := h2
  obtain ⟨l⟩ := T
  have h1 : l.length = 46 := h1
  congr 2
  refine List.ext_getElem? fun i => ?_
  by_cases hi : i < 46
  · have hx : ∀ j, j < 46 → l[j]? = some (sl ⟨⟨l⟩, []⟩ j) := fun j hj => by
      have hl : j < l.length := by omega
      simp [sl, Array.getD_eq_getD_getElem?, List.getElem?_eq_getElem hl]
    rw [hx i hi]
    have : ∀ (s : Nat → Value) (i : Nat), i < 46 → ((List.range 46).map s)[i]? = some (s i) := fun s i hi => by simp [hi]
    exact (this _ i hi).symm
  · have h2 : ∀ (s : Nat → Value), ((List.range 46).map s)[i]? = none := fun s => by simp; omega
    exact (List.getElem?_eq_none (by omega)).trans (h2 _).symm
end Go.Proofs.Ytgnghgeljlaedaa.Sha
