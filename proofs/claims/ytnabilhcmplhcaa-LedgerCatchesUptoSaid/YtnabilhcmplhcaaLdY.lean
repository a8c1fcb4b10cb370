/-
  What the ledger's laws use beside the ledger: copies of requests, requests that are the same; unlike requests have unlike bytes.
-/
import Derived.Test.YtnabilhcmplhcaaLgM2
import Derived.Deep.RegionHeld3
import Derived.Test.YtnabilhcmplhcaaQx11
import Derived.Test.YtnabilhcmplhcaaQx13
import Derived.Test.YtnabilhcmplhcaaQx20
set_option linter.unusedVariables false
set_option linter.unusedSimpArgs false
namespace Go.Proofs.Ytnabilhcmplhcaa.Sha
open Go.RowKit Go.Proofs.YtnabilhcmplhcaaW.PrintWords Go.Proofs.YtnabilhcmplhcaaW.PrintLast Go.Proofs.YtnabilhcmplhcaaW.PrintMore Go.Proofs.Ytnabilhcmplhcaa.Q Go.Proofs.Ytnabilhcmplhcaa.Fr Go.Proofs.Ytnabilhcmplhcaa.Oct

/-- A piece of code, cut off by what it leaves. -/
theorem wp_cut {P : Program} {c : Code} {Q : Exit → Act → World → Prop} {a : Act} {w : World} (R : Act → World → Prop) (h : c.wp P (fun e a w => e = .normal ∧ R a w) a w) (k : ∀ a' w', R a' w' → Q .normal a' w') : c.wp P Q a w :=
  Code.wp_mono (fun e a w he => by
    obtain ⟨rfl, hR⟩ := he
    exact k _ _ hR) h
theorem i64_in' {n : Int} (h : (Lit.int .i64 n).wf = true) : -9223372036854775808 ≤ n ∧ n ≤ 9223372036854775807 := by
  simpa [Lit.wf, IntKind.min, IntKind.max, IntKind.signed, IntKind.bits] using h
theorem le8_inj {a b : Int} (ha : (Lit.int .i64 a).wf = true) (hb : (Lit.int .i64 b).wf = true) (h : le8 a = le8 b) : a = b := by
  have h1 := i64_in' ha
  have h2 := i64_in' hb
  simp only [le8, List.cons.injEq, shr, IntKind.bits] at h
  simp only [show min (Int.toNat 0) 64 = 0 from rfl, show min (Int.toNat 8) 64 = 8 from rfl, show min (Int.toNat 16) 64 = 16 from rfl, show min (Int.toNat 24) 64 = 24 from rfl, show min (Int.toNat 32) 64 = 32 from rfl, show min (Int.toNat 40) 64 = 40 from rfl, show min (Int.toNat 48) 64 = 48 from rfl, show min (Int.toNat 56) 64 = 56 from rfl, show (2 : Int) ^ 0 = 1 from rfl, show (2 : Int) ^ 8 = 256 from rfl, show (2 : Int) ^ 16 = 65536 from rfl, show (2 : Int) ^ 24 = 16777216 from rfl, show (2 : Int) ^ 32 = 4294967296 from rfl, show (2 : Int) ^ 40 = 1099511627776 from rfl, show (2 : Int) ^ 48 = 281474976710656 from rfl, show (2 : Int) ^ 56 = 72057594037927936 from rfl] at h
  omega
/-- Unlike requests have unlike bytes. -/
theorem bodyA_inj {c s c' s' : Int} {op sg op' sg' : List Int} (wc : (Lit.int .i64 c).wf = true) (ws : (Lit.int .i64 s).wf = true) (wc' : (Lit.int .i64 c').wf = true) (ws' : (Lit.int .i64 s').wf = true) (lo : op.length + sg.length ≤ 1048576) (lo' : op'.length + sg'.length ≤ 1048576) (h : bodyA c s op sg = bodyA c' s' op' sg') : c = c' ∧ s = s' ∧ op = op' ∧ sg = sg' := by
  unfold bodyA at h
  simp only [List.append_assoc] at h
  obtain ⟨h1, h⟩ := List.append_inj h rfl
  obtain ⟨h2, h⟩ := List.append_inj h rfl
  obtain ⟨h3, h⟩ := bytesA_inj (by omega) (by omega) h
  have h4 := (bytesA_inj (r := []) (t := []) (p := sg) (q := sg') (by omega) (by omega) (by rw [h])).1
  exact ⟨le8_inj wc wc' h1, le8_inj ws ws' h2, h3, h4⟩
theorem copyr_calls (c s : Int) (Ao : Option Addr) (co : Nat) (op : List Int) (As : Option Addr) (cs : Nat) (sg : List Int) (w : World) (ho : Rd w Ao op) (hco : op.length ≤ co) (hg : Rd w As sg) (hcs : sg.length ≤ cs) (lo : op.length + sg.length ≤ 1048576) :
    Calls Try.prog 13 #[.agg #[.int .i64 c, .int .i64 s, .slice Ao op.length co, .slice As sg.length cs]] w fun e w' => ∃ B1 d1 B2 d2, e = .returned (.agg #[.int .i64 c, .int .i64 s, .slice B1 op.length d1, .slice B2 sg.length d2]) ∧ op.length ≤ d1 ∧ sg.length ≤ d2 ∧ Rd w' B1 op ∧ Rd w' B2 sg ∧ Below w.heap.size w w' := by
  refine (catenaryref05_CopyReq.calls c s Ao co op As cs sg c s op sg w (ho.C (by omega)) hco (hg.C (by omega)) hcs (by unfold catenaryref05_CopyReq.f; simp only [Option.bind_some, List.length_nil, List.nil_append, Nat.zero_add]; rw [if_pos (by omega), if_pos (by omega)])).mono ?_
  rintro e w' ⟨v2, v3, rfl, hR2, hR3, hb⟩
  have hO2 : OB w' w.heap.size v2 op := Kd.own_of_R hR2
  have hO3 : OB w' w.heap.size v3 sg := Kd.own_of_R hR3
  obtain ⟨B1, d1, rfl, hd1⟩ := hO2.slice
  obtain ⟨B2, d2, rfl, hd2⟩ := hO3.slice
  exact ⟨B1, d1, B2, d2, rfl, hd1, hd2, QB.rd (q_of_own hO2), QB.rd (q_of_own hO3), hb⟩
def sameR (c s : Int) (op sg : List Int) (c' s' : Int) (op' sg' : List Int) : Bool := decide (c = c' ∧ s = s' ∧ op = op' ∧ sg = sg')
theorem samer_calls (c s : Int) (Ao : Option Addr) (co : Nat) (op : List Int) (As : Option Addr) (cs : Nat) (sg : List Int) (c' s' : Int) (Ao' : Option Addr) (co' : Nat) (op' : List Int) (As' : Option Addr) (cs' : Nat) (sg' : List Int) (w : World) (ho : Rd w Ao op) (hco : op.length ≤ co) (hg : Rd w As sg) (hcs : sg.length ≤ cs) (lo : op.length + sg.length ≤ 1048576) (ho' : Rd w Ao' op') (hco' : op'.length ≤ co') (hg' : Rd w As' sg') (hcs' : sg'.length ≤ cs') (lo' : op'.length + sg'.length ≤ 1048576) (b1 : Bys op) (b2 : Bys sg) (b3 : Bys op') (b4 : Bys sg') :
    Calls Try.prog 18 #[.agg #[.int .i64 c, .int .i64 s, .slice Ao op.length co, .slice As sg.length cs], .agg #[.int .i64 c', .int .i64 s', .slice Ao' op'.length co', .slice As' sg'.length cs']] w fun e w' => e = .returned (.bool (sameR c s op sg c' s' op' sg')) ∧ Below w.heap.size w w' := by
  refine catenaryref05_SameReq.calls c s Ao co op As cs sg c' s' Ao' co' op' As' cs' sg' _ w (ho.C (by omega)) hco (hg.C (by omega)) hcs (ho'.C (by omega)) hco' (hg'.C (by omega)) hcs' ?_
  unfold catenaryref05_SameReq.f catenaryref01_Same.f sameR
  rw [same_iff b1 b3, same_iff b2 b4]
  by_cases h1 : c = c'
  · by_cases h2 : s = s'
    · by_cases h3 : op = op'
      · simp [h1, h2, h3]
      · simp [h1, h2, h3]
    · simp [h1, h2]
  · simp [h1]
end Go.Proofs.Ytnabilhcmplhcaa.Sha
