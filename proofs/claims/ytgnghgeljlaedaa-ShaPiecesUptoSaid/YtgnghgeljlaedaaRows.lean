/-
  No cell of these rows narrows 'for every input' (looked for: loops, veiled, ifaces, maps, wideKeys, modest, calm, conditions, laid).
  DERIVED. THE GIVEN ROWS OF THIS SEAT. 9 by the template 'for every input the law returns true; each argument reads behind the call as it read before'; 0 by the template 'total and deterministic' (their statements: YtgnghgeljlaedaaTotals.lean).
  GIVEN WITH THE SEED: the statements are not yours to turn. If you find one false, say at which input.
  Laid BY PROGRAM, IN A SANDBOX (cutbox-rows.mjs): the forced cells as the released guide's own fill.sh prints them over the translation 252cce05a8c841c8… (all of the seat's roots in one cut). By AI agents, Wed Nov 11 2026. No macro, syntax, notation, axiom, sorry.
-/
import Derived.Test.YtgnghgeljlaedaaChecked
import GoSem.Claim
import GoSem.ClaimJoined
import GoSem.ClaimMapViews
import Derived.JoinedTies
import Derived.KernelRfl
namespace Go.Proofs.Ytgnghgeljlaedaa
/- THE CELL 'sum', in the pinned program and in every row, IS THE sha256 OF THE DUMP (.gsa) THAT YtgnghgeljlaedaaProg.lean LOADS. Nothing in Lean hashes anything: it is a label: what it is worth is what the hold of that sum in a sandbox is worth. -/
noncomputable def Try.pinned : Pinned := { name := "ytgnghgeljlaedaa", sum := "252cce05a8c841c8115e2e17a6a25124142069a6ef22e486d08a94668a057f57", checked := Try.checked }
namespace Rows
def none {H : Type} : Left H := { results := [], args := [] }

/-- 'catenarylaw02.ShaKnown': WHATEVER THE INPUT: true; the input reads as it did. -/
def shaKnownSpec : ChangeSpec := { name := "shaKnown", fn := fun _ => fun
  | [] => { results := [.lit (.bool true)], args := [] }
  | _ => none }
def shaKnownRow : OpenClaim := { program := "ytgnghgeljlaedaa", sum := "252cce05a8c841c8115e2e17a6a25124142069a6ef22e486d08a94668a057f57", func := "catenary/catenarylaw02.ShaKnown", spec := "shaKnown", apart := false }
def ShaKnownSaid : Prop := shaKnownRow.holds Try.pinned (OpenSpec.ofChange shaKnownSpec)

/-- ITS FALSE NEIGHBOUR: 'it returns false'. Refute it at one input. -/
def shaKnownWrong : ChangeSpec := { name := "shaKnown", fn := fun _ => fun
  | [] => { results := [.lit (.bool false)], args := [] }
  | _ => none }
def ShaKnownWrongFalsely : Prop := shaKnownRow.holds Try.pinned (OpenSpec.ofChange shaKnownWrong)

/-- 'catenarylaw02.ShaSums': WHATEVER THE INPUT: true; the input reads as it did. -/
def shaSumsSpec : ChangeSpec := { name := "shaSums", fn := fun _ => fun
  | [d] => { results := [.lit (.bool true)], args := [d] }
  | _ => none }
def shaSumsRow : OpenClaim := { program := "ytgnghgeljlaedaa", sum := "252cce05a8c841c8115e2e17a6a25124142069a6ef22e486d08a94668a057f57", func := "catenary/catenarylaw02.ShaSums", spec := "shaSums", apart := false }
def ShaSumsSaid : Prop := shaSumsRow.holds Try.pinned (OpenSpec.ofChange shaSumsSpec)

/-- ITS FALSE NEIGHBOUR: 'it returns false'. Refute it at one input. -/
def shaSumsWrong : ChangeSpec := { name := "shaSums", fn := fun _ => fun
  | [d] => { results := [.lit (.bool false)], args := [d] }
  | _ => none }
def ShaSumsWrongFalsely : Prop := shaSumsRow.holds Try.pinned (OpenSpec.ofChange shaSumsWrong)

/-- 'catenarylaw02.ShaPieces': WHATEVER THE INPUT: true; the input reads as it did. -/
def shaPiecesSpec : ChangeSpec := { name := "shaPieces", fn := fun _ => fun
  | [d1, d2] => { results := [.lit (.bool true)], args := [d1, d2] }
  | _ => none }
def shaPiecesRow : OpenClaim := { program := "ytgnghgeljlaedaa", sum := "252cce05a8c841c8115e2e17a6a25124142069a6ef22e486d08a94668a057f57", func := "catenary/catenarylaw02.ShaPieces", spec := "shaPieces", apart := false }
def ShaPiecesSaid : Prop := shaPiecesRow.holds Try.pinned (OpenSpec.ofChange shaPiecesSpec)

/-- ITS FALSE NEIGHBOUR: 'it returns false'. Refute it at one input. -/
def shaPiecesWrong : ChangeSpec := { name := "shaPieces", fn := fun _ => fun
  | [d1, d2] => { results := [.lit (.bool false)], args := [d1, d2] }
  | _ => none }
def ShaPiecesWrongFalsely : Prop := shaPiecesRow.holds Try.pinned (OpenSpec.ofChange shaPiecesWrong)

/-- 'catenarylaw02.ShaApart': WHATEVER THE INPUT: true; the input reads as it did. -/
def shaApartSpec : ChangeSpec := { name := "shaApart", fn := fun _ => fun
  | [d1, d2] => { results := [.lit (.bool true)], args := [d1, d2] }
  | _ => none }
def shaApartRow : OpenClaim := { program := "ytgnghgeljlaedaa", sum := "252cce05a8c841c8115e2e17a6a25124142069a6ef22e486d08a94668a057f57", func := "catenary/catenarylaw02.ShaApart", spec := "shaApart", apart := false }
def ShaApartSaid : Prop := shaApartRow.holds Try.pinned (OpenSpec.ofChange shaApartSpec)

/-- ITS FALSE NEIGHBOUR: 'it returns false'. Refute it at one input. -/
def shaApartWrong : ChangeSpec := { name := "shaApart", fn := fun _ => fun
  | [d1, d2] => { results := [.lit (.bool false)], args := [d1, d2] }
  | _ => none }
def ShaApartWrongFalsely : Prop := shaApartRow.holds Try.pinned (OpenSpec.ofChange shaApartWrong)

/-- 'catenarylaw03.KeyNames': WHATEVER THE INPUT: true; the input reads as it did. -/
def keyNamesSpec : ChangeSpec := { name := "keyNames", fn := fun _ => fun
  | [] => { results := [.lit (.bool true)], args := [] }
  | _ => none }
def keyNamesRow : OpenClaim := { program := "ytgnghgeljlaedaa", sum := "252cce05a8c841c8115e2e17a6a25124142069a6ef22e486d08a94668a057f57", func := "catenary/catenarylaw03.KeyNames", spec := "keyNames", apart := false }
def KeyNamesSaid : Prop := keyNamesRow.holds Try.pinned (OpenSpec.ofChange keyNamesSpec)

/-- ITS FALSE NEIGHBOUR: 'it returns false'. Refute it at one input. -/
def keyNamesWrong : ChangeSpec := { name := "keyNames", fn := fun _ => fun
  | [] => { results := [.lit (.bool false)], args := [] }
  | _ => none }
def KeyNamesWrongFalsely : Prop := keyNamesRow.holds Try.pinned (OpenSpec.ofChange keyNamesWrong)

/-- 'catenarylaw03.KeySigns': WHATEVER THE INPUT: true; the input reads as it did. -/
def keySignsSpec : ChangeSpec := { name := "keySigns", fn := fun _ => fun
  | [d1, d2, d3] => { results := [.lit (.bool true)], args := [d1, d2, d3] }
  | _ => none }
def keySignsRow : OpenClaim := { program := "ytgnghgeljlaedaa", sum := "252cce05a8c841c8115e2e17a6a25124142069a6ef22e486d08a94668a057f57", func := "catenary/catenarylaw03.KeySigns", spec := "keySigns", recurses := true, apart := false }
def KeySignsSaid : Prop := keySignsRow.holds Try.pinned (OpenSpec.ofChange keySignsSpec)

/-- ITS FALSE NEIGHBOUR: 'it returns false'. Refute it at one input. -/
def keySignsWrong : ChangeSpec := { name := "keySigns", fn := fun _ => fun
  | [d1, d2, d3] => { results := [.lit (.bool false)], args := [d1, d2, d3] }
  | _ => none }
def KeySignsWrongFalsely : Prop := keySignsRow.holds Try.pinned (OpenSpec.ofChange keySignsWrong)

/-- 'catenarylaw03.KeyVerifies': WHATEVER THE INPUT: true; the input reads as it did. -/
def keyVerifiesSpec : ChangeSpec := { name := "keyVerifies", fn := fun _ => fun
  | [d1, d2, d3] => { results := [.lit (.bool true)], args := [d1, d2, d3] }
  | _ => none }
def keyVerifiesRow : OpenClaim := { program := "ytgnghgeljlaedaa", sum := "252cce05a8c841c8115e2e17a6a25124142069a6ef22e486d08a94668a057f57", func := "catenary/catenarylaw03.KeyVerifies", spec := "keyVerifies", recurses := true, apart := false }
def KeyVerifiesSaid : Prop := keyVerifiesRow.holds Try.pinned (OpenSpec.ofChange keyVerifiesSpec)

/-- ITS FALSE NEIGHBOUR: 'it returns false'. Refute it at one input. -/
def keyVerifiesWrong : ChangeSpec := { name := "keyVerifies", fn := fun _ => fun
  | [d1, d2, d3] => { results := [.lit (.bool false)], args := [d1, d2, d3] }
  | _ => none }
def KeyVerifiesWrongFalsely : Prop := keyVerifiesRow.holds Try.pinned (OpenSpec.ofChange keyVerifiesWrong)

/-- 'catenarylaw03.KeyUnlike': WHATEVER THE INPUT: true; the input reads as it did. -/
def keyUnlikeSpec : ChangeSpec := { name := "keyUnlike", fn := fun _ => fun
  | [d1, d2, d3] => { results := [.lit (.bool true)], args := [d1, d2, d3] }
  | _ => none }
def keyUnlikeRow : OpenClaim := { program := "ytgnghgeljlaedaa", sum := "252cce05a8c841c8115e2e17a6a25124142069a6ef22e486d08a94668a057f57", func := "catenary/catenarylaw03.KeyUnlike", spec := "keyUnlike", apart := false }
def KeyUnlikeSaid : Prop := keyUnlikeRow.holds Try.pinned (OpenSpec.ofChange keyUnlikeSpec)

/-- ITS FALSE NEIGHBOUR: 'it returns false'. Refute it at one input. -/
def keyUnlikeWrong : ChangeSpec := { name := "keyUnlike", fn := fun _ => fun
  | [d1, d2, d3] => { results := [.lit (.bool false)], args := [d1, d2, d3] }
  | _ => none }
def KeyUnlikeWrongFalsely : Prop := keyUnlikeRow.holds Try.pinned (OpenSpec.ofChange keyUnlikeWrong)

/-- 'catenarylaw03.KeyDigests': WHATEVER THE INPUT: true; the input reads as it did. -/
def keyDigestsSpec : ChangeSpec := { name := "keyDigests", fn := fun _ => fun
  | [d1, d2, d3] => { results := [.lit (.bool true)], args := [d1, d2, d3] }
  | _ => none }
def keyDigestsRow : OpenClaim := { program := "ytgnghgeljlaedaa", sum := "252cce05a8c841c8115e2e17a6a25124142069a6ef22e486d08a94668a057f57", func := "catenary/catenarylaw03.KeyDigests", spec := "keyDigests", recurses := true, apart := false }
def KeyDigestsSaid : Prop := keyDigestsRow.holds Try.pinned (OpenSpec.ofChange keyDigestsSpec)

/-- ITS FALSE NEIGHBOUR: 'it returns false'. Refute it at one input. -/
def keyDigestsWrong : ChangeSpec := { name := "keyDigests", fn := fun _ => fun
  | [d1, d2, d3] => { results := [.lit (.bool false)], args := [d1, d2, d3] }
  | _ => none }
def KeyDigestsWrongFalsely : Prop := keyDigestsRow.holds Try.pinned (OpenSpec.ofChange keyDigestsWrong)

/- THE SECOND FORM. 'bulk': how many values and letters a reading holds, each counted each time it is reached (what is shared counts as often as it is met; a slice's spare places count too). A statement '..UptoSaid' is the law's where the arguments, and the package variables that the reading takes, are together of bulk at most 1048576: NARROWER than '..Said'. Prove '..Said' where nothing that the law and all that it calls make is longer than what came in: it says more and counts as full. Else prove '..UptoSaid'. A law counts once. -/
mutual
def uptoBulk {H : Type} : DataW H → Nat
  | .lit (.string bytes) => bytes.length + 1
  | .lit _ => 1
  | .nil => 1
  | .ptr d => uptoBulk d + 1
  | .slice elems spare => uptoBulkAll elems + uptoBulkAll spare + 1
  | .agg parts => uptoBulkAll parts + 1
  | .iface _ d => uptoBulk d + 1
  | .map entries => uptoBulkEntries entries + 1
  | .held _ => 1
def uptoBulkAll {H : Type} : List (DataW H) → Nat
  | [] => 0
  | d :: r => uptoBulk d + uptoBulkAll r
def uptoBulkEntries {H : Type} : List (Lit × DataW H) → Nat
  | [] => 0
  | x :: r => uptoBulkEntry x + uptoBulkEntries r
def uptoBulkEntry {H : Type} : Lit × DataW H → Nat
  | (.string bytes, d) => bytes.length + uptoBulk d + 1
  | (_, d) => uptoBulk d + 1
 end
def uptoSmall : (H : Type) → List (DataW H) → Bool := fun _ ds => decide (uptoBulkAll ds ≤ 1048576)
def OpenSpec.upto (s : _root_.Go.ChangeSpec) : _root_.Go.OpenSpec := { _root_.Go.OpenSpec.ofChange s with cond := some uptoSmall }

/-- 'catenarylaw02.ShaKnown', WHERE WHAT IT READS IS OF BULK AT MOST 1048576: true; the input reads as it did. -/
def shaKnownUptoRow : OpenClaim := { program := "ytgnghgeljlaedaa", sum := "252cce05a8c841c8115e2e17a6a25124142069a6ef22e486d08a94668a057f57", func := "catenary/catenarylaw02.ShaKnown", spec := "shaKnown", apart := false, narrowed := true }
def ShaKnownUptoSaid : Prop := shaKnownUptoRow.holds Try.pinned (OpenSpec.upto shaKnownSpec)

/-- 'catenarylaw02.ShaSums', WHERE WHAT IT READS IS OF BULK AT MOST 1048576: true; the input reads as it did. -/
def shaSumsUptoRow : OpenClaim := { program := "ytgnghgeljlaedaa", sum := "252cce05a8c841c8115e2e17a6a25124142069a6ef22e486d08a94668a057f57", func := "catenary/catenarylaw02.ShaSums", spec := "shaSums", apart := false, narrowed := true }
def ShaSumsUptoSaid : Prop := shaSumsUptoRow.holds Try.pinned (OpenSpec.upto shaSumsSpec)

/-- 'catenarylaw02.ShaPieces', WHERE WHAT IT READS IS OF BULK AT MOST 1048576: true; the input reads as it did. -/
def shaPiecesUptoRow : OpenClaim := { program := "ytgnghgeljlaedaa", sum := "252cce05a8c841c8115e2e17a6a25124142069a6ef22e486d08a94668a057f57", func := "catenary/catenarylaw02.ShaPieces", spec := "shaPieces", apart := false, narrowed := true }
def ShaPiecesUptoSaid : Prop := shaPiecesUptoRow.holds Try.pinned (OpenSpec.upto shaPiecesSpec)

/-- 'catenarylaw02.ShaApart', WHERE WHAT IT READS IS OF BULK AT MOST 1048576: true; the input reads as it did. -/
def shaApartUptoRow : OpenClaim := { program := "ytgnghgeljlaedaa", sum := "252cce05a8c841c8115e2e17a6a25124142069a6ef22e486d08a94668a057f57", func := "catenary/catenarylaw02.ShaApart", spec := "shaApart", apart := false, narrowed := true }
def ShaApartUptoSaid : Prop := shaApartUptoRow.holds Try.pinned (OpenSpec.upto shaApartSpec)

/-- 'catenarylaw03.KeyNames', WHERE WHAT IT READS IS OF BULK AT MOST 1048576: true; the input reads as it did. -/
def keyNamesUptoRow : OpenClaim := { program := "ytgnghgeljlaedaa", sum := "252cce05a8c841c8115e2e17a6a25124142069a6ef22e486d08a94668a057f57", func := "catenary/catenarylaw03.KeyNames", spec := "keyNames", apart := false, narrowed := true }
def KeyNamesUptoSaid : Prop := keyNamesUptoRow.holds Try.pinned (OpenSpec.upto keyNamesSpec)

/-- 'catenarylaw03.KeySigns', WHERE WHAT IT READS IS OF BULK AT MOST 1048576: true; the input reads as it did. -/
def keySignsUptoRow : OpenClaim := { program := "ytgnghgeljlaedaa", sum := "252cce05a8c841c8115e2e17a6a25124142069a6ef22e486d08a94668a057f57", func := "catenary/catenarylaw03.KeySigns", spec := "keySigns", recurses := true, apart := false, narrowed := true }
def KeySignsUptoSaid : Prop := keySignsUptoRow.holds Try.pinned (OpenSpec.upto keySignsSpec)

/-- 'catenarylaw03.KeyVerifies', WHERE WHAT IT READS IS OF BULK AT MOST 1048576: true; the input reads as it did. -/
def keyVerifiesUptoRow : OpenClaim := { program := "ytgnghgeljlaedaa", sum := "252cce05a8c841c8115e2e17a6a25124142069a6ef22e486d08a94668a057f57", func := "catenary/catenarylaw03.KeyVerifies", spec := "keyVerifies", recurses := true, apart := false, narrowed := true }
def KeyVerifiesUptoSaid : Prop := keyVerifiesUptoRow.holds Try.pinned (OpenSpec.upto keyVerifiesSpec)

/-- 'catenarylaw03.KeyUnlike', WHERE WHAT IT READS IS OF BULK AT MOST 1048576: true; the input reads as it did. -/
def keyUnlikeUptoRow : OpenClaim := { program := "ytgnghgeljlaedaa", sum := "252cce05a8c841c8115e2e17a6a25124142069a6ef22e486d08a94668a057f57", func := "catenary/catenarylaw03.KeyUnlike", spec := "keyUnlike", apart := false, narrowed := true }
def KeyUnlikeUptoSaid : Prop := keyUnlikeUptoRow.holds Try.pinned (OpenSpec.upto keyUnlikeSpec)

/-- 'catenarylaw03.KeyDigests', WHERE WHAT IT READS IS OF BULK AT MOST 1048576: true; the input reads as it did. -/
def keyDigestsUptoRow : OpenClaim := { program := "ytgnghgeljlaedaa", sum := "252cce05a8c841c8115e2e17a6a25124142069a6ef22e486d08a94668a057f57", func := "catenary/catenarylaw03.KeyDigests", spec := "keyDigests", recurses := true, apart := false, narrowed := true }
def KeyDigestsUptoSaid : Prop := keyDigestsUptoRow.holds Try.pinned (OpenSpec.upto keyDigestsSpec)

end Rows
end Go.Proofs.Ytgnghgeljlaedaa
