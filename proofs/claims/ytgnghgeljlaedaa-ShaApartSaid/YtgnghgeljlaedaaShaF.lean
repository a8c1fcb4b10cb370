/-
  The document's words: the same as the program's.
-/
import Derived.Test.YtgnghgeljlaedaaShaA
import Derived.Test.YtgnghgeljlaedaaQx2
import Derived.Test.YtgnghgeljlaedaaQx3
set_option linter.unusedVariables false
set_option linter.unusedSimpArgs false
namespace Go.Proofs.Ytgnghgeljlaedaa.Sha
open Go.RowKit Go.Proofs.YtgnghgeljlaedaaW.PrintWords Go.Proofs.YtgnghgeljlaedaaW.PrintLast Go.Proofs.YtgnghgeljlaedaaW.PrintMore Go.Proofs.Ytgnghgeljlaedaa.Q Go.Proofs.Ytgnghgeljlaedaa.Fr

theorem or_comm32 (a b : Int) : Go.bits .or .u32 a b = Go.bits .or .u32 b a := by
  simp only [Go.bits, BitVec.or_comm]
theorem xor_comm32 (a b : Int) : Go.bits .xor .u32 a b = Go.bits .xor .u32 b a := by
  simp only [Go.bits, BitVec.xor_comm]
theorem turn_same (x n : Int) (h : turnable n) (w : World) : Calls Try.prog 46 #[.int .u32 x, .int .i64 n] w fun e w' => e = .returned (.int .u32 (rotr x n)) ∧ w' = w := by
  have e : ∀ m : Int, turnable m → IntKind.u64.wrap m = m ∧ IntKind.u64.wrap (wrap64 (32 - m)) = 32 - m := by
    rintro m (rfl|rfl|rfl|rfl|rfl|rfl|rfl|rfl|rfl|rfl) <;> exact ⟨by decide +kernel, by decide +kernel⟩
  have b : 0 ≤ 32 - n ∧ 0 ≤ n ∧ (32 - n).toNat ≤ 32 ∧ n.toNat ≤ 32 := by unfold turnable at h; omega
  have hji3 := (e n h).1
  have hji6 := (e n h).2
  clear e
  have c4b0 := eq_true b.2.1
  have c4b1 : decide (0 ≤ n) = true := decide_eq_true b.2.1
  have c7b0 := eq_true b.1
  have c7b1 : decide (0 ≤ 32 - n) = true := decide_eq_true b.1
  have m1 : min n.toNat 32 = n.toNat := Nat.min_eq_left b.2.2.2
  have m2 : min (32 - n).toNat 32 = (32 - n).toNat := Nat.min_eq_left b.2.2.1
  have hr : Go.bits .or .u32 (x / 2 ^ n.toNat) (IntKind.u32.wrap (x * 2 ^ (32 - n).toNat)) = rotr x n := or_comm32 _ _
  have HR := Aside0.mk hr
  clear hr
  obtain ⟨p, hp⟩ : ∃ p : Int, x / 2 ^ n.toNat = p := ⟨_, rfl⟩
  obtain ⟨q, hq⟩ : ∃ q : Int, IntKind.u32.wrap (x * 2 ^ (32 - n).toNat) = q := ⟨_, rfl⟩
  have HR2 := HR.out
  rw [hp, hq] at HR2
  clear HR
  clear h b
  go_enter Try.func46, Try.ntmps46
  go_wp2
  go_ret
  exact ⟨by simp [*], rfl⟩
theorem back32 (x : BitVec 32) : BitVec.ofInt 32 (IntKind.u32.wrap (x.toNat : Int)) = x := by
  have h : IntKind.u32.wrap (x.toNat : Int) = (x.toNat : Int) := by rw [IntKind.wrap_u32]; have := x.isLt; omega
  rw [h, BitVec.ofInt_natCast, BitVec.ofNat_toNat, BitVec.setWidth_eq]
theorem ofA (a b : Int) : BitVec.ofInt 32 (Go.bits .and .u32 a b) = BitVec.ofInt 32 a &&& BitVec.ofInt 32 b := back32 _
theorem ofO (a b : Int) : BitVec.ofInt 32 (Go.bits .or .u32 a b) = BitVec.ofInt 32 a ||| BitVec.ofInt 32 b := back32 _
theorem ofX (a b : Int) : BitVec.ofInt 32 (Go.bits .xor .u32 a b) = BitVec.ofInt 32 a ^^^ BitVec.ofInt 32 b := back32 _
theorem bO (a b : Int) : Go.bits .or .u32 a b = IntKind.u32.wrap ((BitVec.ofInt 32 a ||| BitVec.ofInt 32 b).toNat : Int) := rfl
theorem bX (a b : Int) : Go.bits .xor .u32 a b = IntKind.u32.wrap ((BitVec.ofInt 32 a ^^^ BitVec.ofInt 32 b).toNat : Int) := rfl
theorem ch_bv (E F G : BitVec 32) : E &&& F ||| (E ^^^ BitVec.allOnes 32) &&& G = E &&& F ^^^ (BitVec.allOnes 32 ^^^ E) &&& G := by
  apply BitVec.eq_of_getLsbD_eq
  intro i hi
  simp only [BitVec.getLsbD_or, BitVec.getLsbD_and, BitVec.getLsbD_xor, BitVec.getLsbD_allOnes, hi, decide_true]
  cases E.getLsbD i <;> cases F.getLsbD i <;> cases G.getLsbD i <;> rfl
theorem maj_bv (E F G : BitVec 32) : E &&& F ||| E &&& G ||| F &&& G = (E &&& F ^^^ E &&& G) ^^^ F &&& G := by
  apply BitVec.eq_of_getLsbD_eq
  intro i hi
  simp only [BitVec.getLsbD_or, BitVec.getLsbD_and, BitVec.getLsbD_xor]
  cases E.getLsbD i <;> cases F.getLsbD i <;> cases G.getLsbD i <;> rfl
theorem ch32 (e f g : Int) : Go.bits .or .u32 (Go.bits .and .u32 e f) (Go.bits .and .u32 (Go.bits .xor .u32 e 4294967295) g) = Go.bits .xor .u32 (Go.bits .and .u32 e f) (Go.bits .and .u32 (Go.bits .xor .u32 IntKind.u32.max e) g) := by
  have hm : BitVec.ofInt 32 IntKind.u32.max = BitVec.allOnes 32 := by decide +kernel
  have hn : BitVec.ofInt 32 4294967295 = BitVec.allOnes 32 := by decide +kernel
  rw [bO, bX (Go.bits .and .u32 e f), ofA, ofA, ofA, ofX, ofX, hm, hn, ch_bv]
theorem maj32 (a b c : Int) : Go.bits .or .u32 (Go.bits .or .u32 (Go.bits .and .u32 a b) (Go.bits .and .u32 a c)) (Go.bits .and .u32 b c) = Go.bits .xor .u32 (Go.bits .xor .u32 (Go.bits .and .u32 a b) (Go.bits .and .u32 a c)) (Go.bits .and .u32 b c) := by
  rw [bO, bX (Go.bits .xor .u32 _ _), ofO, ofX, ofA, ofA, ofA, maj_bv]
end Go.Proofs.Ytgnghgeljlaedaa.Sha
