/-
  No cell of these rows narrows 'for every input' (looked for: loops, veiled, ifaces, maps, wideKeys, modest, calm, conditions, laid).
  DERIVED. THE GIVEN ROWS OF THIS SEAT. 5 by the template 'for every input the law returns true; each argument reads behind the call as it read before'; 0 by the template 'total and deterministic' (their statements: YtnabilhcmplhcaaTotals.lean).
  GIVEN WITH THE SEED: the statements are not yours to turn. If you find one false, say at which input.
  Laid BY PROGRAM, IN A SANDBOX (cutbox-rows.mjs): the forced cells as the released guide's own fill.sh prints them over the translation d42ac0bf0cc2d8d9… (all of the seat's roots in one cut). By AI agents, Wed Nov 11 2026. No macro, syntax, notation, axiom, sorry.
-/
import Derived.Test.YtnabilhcmplhcaaChecked
import GoSem.Claim
import GoSem.ClaimJoined
import GoSem.ClaimMapViews
import Derived.JoinedTies
import Derived.KernelRfl
namespace Go.Proofs.Ytnabilhcmplhcaa
/- THE CELL 'sum', in the pinned program and in every row, IS THE sha256 OF THE DUMP (.gsa) THAT YtnabilhcmplhcaaProg.lean LOADS. Nothing in Lean hashes anything: it is a label: what it is worth is what the hold of that sum in a sandbox is worth. -/
noncomputable def Try.pinned : Pinned := { name := "ytnabilhcmplhcaa", sum := "d42ac0bf0cc2d8d92eb818b71fcb07960ab3a55edfd0200e9fbc909d40cf6e4d", checked := Try.checked }
namespace Rows
def none {H : Type} : Left H := { results := [], args := [] }

/-- 'catenarylaw15.LedgerRuns': WHATEVER THE INPUT: true; the input reads as it did. -/
def ledgerRunsSpec : ChangeSpec := { name := "ledgerRuns", fn := fun _ => fun
  | [d] => { results := [.lit (.bool true)], args := [d] }
  | _ => none }
def ledgerRunsRow : OpenClaim := { program := "ytnabilhcmplhcaa", sum := "d42ac0bf0cc2d8d92eb818b71fcb07960ab3a55edfd0200e9fbc909d40cf6e4d", func := "catenary/catenarylaw15.LedgerRuns", spec := "ledgerRuns", inPlace := ["internal/bytealg.Compare"], unfollowed := true, recurses := true, plainKeys := false, apart := false }
def LedgerRunsSaid : Prop := ledgerRunsRow.holds Try.pinned (OpenSpec.ofChange ledgerRunsSpec)

/-- ITS FALSE NEIGHBOUR: 'it returns false'. Refute it at one input. -/
def ledgerRunsWrong : ChangeSpec := { name := "ledgerRuns", fn := fun _ => fun
  | [d] => { results := [.lit (.bool false)], args := [d] }
  | _ => none }
def LedgerRunsWrongFalsely : Prop := ledgerRunsRow.holds Try.pinned (OpenSpec.ofChange ledgerRunsWrong)

/-- 'catenarylaw15.LedgerCuts': WHATEVER THE INPUT: true; the input reads as it did. -/
def ledgerCutsSpec : ChangeSpec := { name := "ledgerCuts", fn := fun _ => fun
  | [d1, d2, d3] => { results := [.lit (.bool true)], args := [d1, d2, d3] }
  | _ => none }
def ledgerCutsRow : OpenClaim := { program := "ytnabilhcmplhcaa", sum := "d42ac0bf0cc2d8d92eb818b71fcb07960ab3a55edfd0200e9fbc909d40cf6e4d", func := "catenary/catenarylaw15.LedgerCuts", spec := "ledgerCuts", inPlace := ["internal/bytealg.Compare"], unfollowed := true, recurses := true, plainKeys := false, apart := false }
def LedgerCutsSaid : Prop := ledgerCutsRow.holds Try.pinned (OpenSpec.ofChange ledgerCutsSpec)

/-- ITS FALSE NEIGHBOUR: 'it returns false'. Refute it at one input. -/
def ledgerCutsWrong : ChangeSpec := { name := "ledgerCuts", fn := fun _ => fun
  | [d1, d2, d3] => { results := [.lit (.bool false)], args := [d1, d2, d3] }
  | _ => none }
def LedgerCutsWrongFalsely : Prop := ledgerCutsRow.holds Try.pinned (OpenSpec.ofChange ledgerCutsWrong)

/-- 'catenarylaw15.LedgerNames': WHATEVER THE INPUT: true; the input reads as it did. -/
def ledgerNamesSpec : ChangeSpec := { name := "ledgerNames", fn := fun _ => fun
  | [] => { results := [.lit (.bool true)], args := [] }
  | _ => none }
def ledgerNamesRow : OpenClaim := { program := "ytnabilhcmplhcaa", sum := "d42ac0bf0cc2d8d92eb818b71fcb07960ab3a55edfd0200e9fbc909d40cf6e4d", func := "catenary/catenarylaw15.LedgerNames", spec := "ledgerNames", inPlace := ["internal/bytealg.Compare"], plainKeys := false, apart := false }
def LedgerNamesSaid : Prop := ledgerNamesRow.holds Try.pinned (OpenSpec.ofChange ledgerNamesSpec)

/-- ITS FALSE NEIGHBOUR: 'it returns false'. Refute it at one input. -/
def ledgerNamesWrong : ChangeSpec := { name := "ledgerNames", fn := fun _ => fun
  | [] => { results := [.lit (.bool false)], args := [] }
  | _ => none }
def LedgerNamesWrongFalsely : Prop := ledgerNamesRow.holds Try.pinned (OpenSpec.ofChange ledgerNamesWrong)

/-- 'catenarylaw15.LedgerCatches': WHATEVER THE INPUT: true; the input reads as it did. -/
def ledgerCatchesSpec : ChangeSpec := { name := "ledgerCatches", fn := fun _ => fun
  | [d1, d2, d3] => { results := [.lit (.bool true)], args := [d1, d2, d3] }
  | _ => none }
def ledgerCatchesRow : OpenClaim := { program := "ytnabilhcmplhcaa", sum := "d42ac0bf0cc2d8d92eb818b71fcb07960ab3a55edfd0200e9fbc909d40cf6e4d", func := "catenary/catenarylaw15.LedgerCatches", spec := "ledgerCatches", inPlace := ["internal/bytealg.Compare"], plainKeys := false, apart := false }
def LedgerCatchesSaid : Prop := ledgerCatchesRow.holds Try.pinned (OpenSpec.ofChange ledgerCatchesSpec)

/-- ITS FALSE NEIGHBOUR: 'it returns false'. Refute it at one input. -/
def ledgerCatchesWrong : ChangeSpec := { name := "ledgerCatches", fn := fun _ => fun
  | [d1, d2, d3] => { results := [.lit (.bool false)], args := [d1, d2, d3] }
  | _ => none }
def LedgerCatchesWrongFalsely : Prop := ledgerCatchesRow.holds Try.pinned (OpenSpec.ofChange ledgerCatchesWrong)

/-- 'catenarylaw15.LedgerForged': WHATEVER THE INPUT: true; the input reads as it did. -/
def ledgerForgedSpec : ChangeSpec := { name := "ledgerForged", fn := fun _ => fun
  | [d1, d2, d3] => { results := [.lit (.bool true)], args := [d1, d2, d3] }
  | _ => none }
def ledgerForgedRow : OpenClaim := { program := "ytnabilhcmplhcaa", sum := "d42ac0bf0cc2d8d92eb818b71fcb07960ab3a55edfd0200e9fbc909d40cf6e4d", func := "catenary/catenarylaw15.LedgerForged", spec := "ledgerForged", inPlace := ["internal/bytealg.Compare"], plainKeys := false, apart := false }
def LedgerForgedSaid : Prop := ledgerForgedRow.holds Try.pinned (OpenSpec.ofChange ledgerForgedSpec)

/-- ITS FALSE NEIGHBOUR: 'it returns false'. Refute it at one input. -/
def ledgerForgedWrong : ChangeSpec := { name := "ledgerForged", fn := fun _ => fun
  | [d1, d2, d3] => { results := [.lit (.bool false)], args := [d1, d2, d3] }
  | _ => none }
def LedgerForgedWrongFalsely : Prop := ledgerForgedRow.holds Try.pinned (OpenSpec.ofChange ledgerForgedWrong)

/- THE SECOND FORM. 'bulk': how many values and letters a reading holds, each counted each time it is reached (what is shared counts as often as it is met; a slice's spare places count too). A statement '..UptoSaid' is the law's where the arguments, and the package variables that the reading takes, are together of bulk at most 1048576: NARROWER than '..Said'. Prove '..Said' where nothing that the law and all that it calls make is longer than what came in: it says more and counts as full. Else prove '..UptoSaid'. A law counts once. -/
mutual
def uptoBulk {H : Type} : DataW H → Nat
  | .lit (.string bytes) => bytes.length + 1
  | .lit _ => 1
  | .nil => 1
  | .ptr d => uptoBulk d + 1
  | .slice elems spare => uptoBulkAll elems + uptoBulkAll spare + 1
  | .agg parts => uptoBulkAll parts + 1
  | .iface _ d => uptoBulk d + 1
  | .map entries => uptoBulkEntries entries + 1
  | .held _ => 1
def uptoBulkAll {H : Type} : List (DataW H) → Nat
  | [] => 0
  | d :: r => uptoBulk d + uptoBulkAll r
def uptoBulkEntries {H : Type} : List (Lit × DataW H) → Nat
  | [] => 0
  | x :: r => uptoBulkEntry x + uptoBulkEntries r
def uptoBulkEntry {H : Type} : Lit × DataW H → Nat
  | (.string bytes, d) => bytes.length + uptoBulk d + 1
  | (_, d) => uptoBulk d + 1
 end
def uptoSmall : (H : Type) → List (DataW H) → Bool := fun _ ds => decide (uptoBulkAll ds ≤ 1048576)
def OpenSpec.upto (s : _root_.Go.ChangeSpec) : _root_.Go.OpenSpec := { _root_.Go.OpenSpec.ofChange s with cond := some uptoSmall }

/-- 'catenarylaw15.LedgerRuns', WHERE WHAT IT READS IS OF BULK AT MOST 1048576: true; the input reads as it did. -/
def ledgerRunsUptoRow : OpenClaim := { program := "ytnabilhcmplhcaa", sum := "d42ac0bf0cc2d8d92eb818b71fcb07960ab3a55edfd0200e9fbc909d40cf6e4d", func := "catenary/catenarylaw15.LedgerRuns", spec := "ledgerRuns", inPlace := ["internal/bytealg.Compare"], unfollowed := true, recurses := true, plainKeys := false, apart := false, narrowed := true }
def LedgerRunsUptoSaid : Prop := ledgerRunsUptoRow.holds Try.pinned (OpenSpec.upto ledgerRunsSpec)

/-- 'catenarylaw15.LedgerCuts', WHERE WHAT IT READS IS OF BULK AT MOST 1048576: true; the input reads as it did. -/
def ledgerCutsUptoRow : OpenClaim := { program := "ytnabilhcmplhcaa", sum := "d42ac0bf0cc2d8d92eb818b71fcb07960ab3a55edfd0200e9fbc909d40cf6e4d", func := "catenary/catenarylaw15.LedgerCuts", spec := "ledgerCuts", inPlace := ["internal/bytealg.Compare"], unfollowed := true, recurses := true, plainKeys := false, apart := false, narrowed := true }
def LedgerCutsUptoSaid : Prop := ledgerCutsUptoRow.holds Try.pinned (OpenSpec.upto ledgerCutsSpec)

/-- 'catenarylaw15.LedgerNames', WHERE WHAT IT READS IS OF BULK AT MOST 1048576: true; the input reads as it did. -/
def ledgerNamesUptoRow : OpenClaim := { program := "ytnabilhcmplhcaa", sum := "d42ac0bf0cc2d8d92eb818b71fcb07960ab3a55edfd0200e9fbc909d40cf6e4d", func := "catenary/catenarylaw15.LedgerNames", spec := "ledgerNames", inPlace := ["internal/bytealg.Compare"], plainKeys := false, apart := false, narrowed := true }
def LedgerNamesUptoSaid : Prop := ledgerNamesUptoRow.holds Try.pinned (OpenSpec.upto ledgerNamesSpec)

/-- 'catenarylaw15.LedgerCatches', WHERE WHAT IT READS IS OF BULK AT MOST 1048576: true; the input reads as it did. -/
def ledgerCatchesUptoRow : OpenClaim := { program := "ytnabilhcmplhcaa", sum := "d42ac0bf0cc2d8d92eb818b71fcb07960ab3a55edfd0200e9fbc909d40cf6e4d", func := "catenary/catenarylaw15.LedgerCatches", spec := "ledgerCatches", inPlace := ["internal/bytealg.Compare"], plainKeys := false, apart := false, narrowed := true }
def LedgerCatchesUptoSaid : Prop := ledgerCatchesUptoRow.holds Try.pinned (OpenSpec.upto ledgerCatchesSpec)

/-- 'catenarylaw15.LedgerForged', WHERE WHAT IT READS IS OF BULK AT MOST 1048576: true; the input reads as it did. -/
def ledgerForgedUptoRow : OpenClaim := { program := "ytnabilhcmplhcaa", sum := "d42ac0bf0cc2d8d92eb818b71fcb07960ab3a55edfd0200e9fbc909d40cf6e4d", func := "catenary/catenarylaw15.LedgerForged", spec := "ledgerForged", inPlace := ["internal/bytealg.Compare"], plainKeys := false, apart := false, narrowed := true }
def LedgerForgedUptoSaid : Prop := ledgerForgedUptoRow.holds Try.pinned (OpenSpec.upto ledgerForgedSpec)

end Rows
end Go.Proofs.Ytnabilhcmplhcaa
