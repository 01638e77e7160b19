/-
  No cell of these rows narrows 'for every input' (looked for: loops, veiled, ifaces, maps, wideKeys, modest, calm, conditions, laid).
  DERIVED. THE GIVEN ROWS OF THIS SEAT. 5 by the template 'for every input the law returns true; each argument reads behind the call as it read before'; 0 by the template 'total and deterministic' (their statements: YtjofajjhhjpkiaaTotals.lean).
  GIVEN WITH THE SEED: the statements are not yours to turn. If you find one false, say at which input.
  Laid BY PROGRAM, IN A SANDBOX (cutbox-rows.mjs): the forced cells as the released guide's own fill.sh prints them over the translation b23d66ab60c38690… (all of the seat's roots in one cut). By AI agents, Wed Nov 11 2026. No macro, syntax, notation, axiom, sorry.
-/
import Derived.Test.YtjofajjhhjpkiaaChecked
import GoSem.Claim
import GoSem.ClaimJoined
import GoSem.ClaimMapViews
import Derived.JoinedTies
import Derived.KernelRfl
namespace Go.Proofs.Ytjofajjhhjpkiaa
/- THE CELL 'sum', in the pinned program and in every row, IS THE sha256 OF THE DUMP (.gsa) THAT YtjofajjhhjpkiaaProg.lean LOADS. Nothing in Lean hashes anything: it is a label: what it is worth is what the hold of that sum in a sandbox is worth. -/
noncomputable def Try.pinned : Pinned := { name := "ytjofajjhhjpkiaa", sum := "b23d66ab60c386909efb5b1a9c60e29823ee37a630e04c636786f8fd853ac427", checked := Try.checked }
namespace Rows
def none {H : Type} : Left H := { results := [], args := [] }

/-- 'blazonlaw10.LamportOpens': WHATEVER THE INPUT: true; the input reads as it did. -/
def lamportOpensSpec : ChangeSpec := { name := "lamportOpens", fn := fun _ => fun
  | [d1, d2, d3] => { results := [.lit (.bool true)], args := [d1, d2, d3] }
  | _ => none }
def lamportOpensRow : OpenClaim := { program := "ytjofajjhhjpkiaa", sum := "b23d66ab60c386909efb5b1a9c60e29823ee37a630e04c636786f8fd853ac427", func := "blazon/blazonlaw10.LamportOpens", spec := "lamportOpens", unfollowed := true, recurses := true, apart := false }
def LamportOpensSaid : Prop := lamportOpensRow.holds Try.pinned (OpenSpec.ofChange lamportOpensSpec)

/-- ITS FALSE NEIGHBOUR: 'it returns false'. Refute it at one input. -/
def lamportOpensWrong : ChangeSpec := { name := "lamportOpens", fn := fun _ => fun
  | [d1, d2, d3] => { results := [.lit (.bool false)], args := [d1, d2, d3] }
  | _ => none }
def LamportOpensWrongFalsely : Prop := lamportOpensRow.holds Try.pinned (OpenSpec.ofChange lamportOpensWrong)

/-- 'blazonlaw10.LamportForged': WHATEVER THE INPUT: true; the input reads as it did. -/
def lamportForgedSpec : ChangeSpec := { name := "lamportForged", fn := fun _ => fun
  | [d1, d2, d3, d4, d5] => { results := [.lit (.bool true)], args := [d1, d2, d3, d4, d5] }
  | _ => none }
def lamportForgedRow : OpenClaim := { program := "ytjofajjhhjpkiaa", sum := "b23d66ab60c386909efb5b1a9c60e29823ee37a630e04c636786f8fd853ac427", func := "blazon/blazonlaw10.LamportForged", spec := "lamportForged", unfollowed := true, recurses := true, apart := false }
def LamportForgedSaid : Prop := lamportForgedRow.holds Try.pinned (OpenSpec.ofChange lamportForgedSpec)

/-- ITS FALSE NEIGHBOUR: 'it returns false'. Refute it at one input. -/
def lamportForgedWrong : ChangeSpec := { name := "lamportForged", fn := fun _ => fun
  | [d1, d2, d3, d4, d5] => { results := [.lit (.bool false)], args := [d1, d2, d3, d4, d5] }
  | _ => none }
def LamportForgedWrongFalsely : Prop := lamportForgedRow.holds Try.pinned (OpenSpec.ofChange lamportForgedWrong)

/-- 'blazonlaw10.LamportKeys': WHATEVER THE INPUT: true; the input reads as it did. -/
def lamportKeysSpec : ChangeSpec := { name := "lamportKeys", fn := fun _ => fun
  | [d1, d2] => { results := [.lit (.bool true)], args := [d1, d2] }
  | _ => none }
def lamportKeysRow : OpenClaim := { program := "ytjofajjhhjpkiaa", sum := "b23d66ab60c386909efb5b1a9c60e29823ee37a630e04c636786f8fd853ac427", func := "blazon/blazonlaw10.LamportKeys", spec := "lamportKeys", unfollowed := true, recurses := true, apart := false }
def LamportKeysSaid : Prop := lamportKeysRow.holds Try.pinned (OpenSpec.ofChange lamportKeysSpec)

/-- ITS FALSE NEIGHBOUR: 'it returns false'. Refute it at one input. -/
def lamportKeysWrong : ChangeSpec := { name := "lamportKeys", fn := fun _ => fun
  | [d1, d2] => { results := [.lit (.bool false)], args := [d1, d2] }
  | _ => none }
def LamportKeysWrongFalsely : Prop := lamportKeysRow.holds Try.pinned (OpenSpec.ofChange lamportKeysWrong)

/-- 'blazonlaw10.LamportSigns': WHATEVER THE INPUT: true; the input reads as it did. -/
def lamportSignsSpec : ChangeSpec := { name := "lamportSigns", fn := fun _ => fun
  | [d1, d2, d3] => { results := [.lit (.bool true)], args := [d1, d2, d3] }
  | _ => none }
def lamportSignsRow : OpenClaim := { program := "ytjofajjhhjpkiaa", sum := "b23d66ab60c386909efb5b1a9c60e29823ee37a630e04c636786f8fd853ac427", func := "blazon/blazonlaw10.LamportSigns", spec := "lamportSigns", unfollowed := true, recurses := true, apart := false }
def LamportSignsSaid : Prop := lamportSignsRow.holds Try.pinned (OpenSpec.ofChange lamportSignsSpec)

/-- ITS FALSE NEIGHBOUR: 'it returns false'. Refute it at one input. -/
def lamportSignsWrong : ChangeSpec := { name := "lamportSigns", fn := fun _ => fun
  | [d1, d2, d3] => { results := [.lit (.bool false)], args := [d1, d2, d3] }
  | _ => none }
def LamportSignsWrongFalsely : Prop := lamportSignsRow.holds Try.pinned (OpenSpec.ofChange lamportSignsWrong)

/-- 'blazonlaw10.LamportTurned': WHATEVER THE INPUT: true; the input reads as it did. -/
def lamportTurnedSpec : ChangeSpec := { name := "lamportTurned", fn := fun _ => fun
  | [d1, d2, d3, d4, d5] => { results := [.lit (.bool true)], args := [d1, d2, d3, d4, d5] }
  | _ => none }
def lamportTurnedRow : OpenClaim := { program := "ytjofajjhhjpkiaa", sum := "b23d66ab60c386909efb5b1a9c60e29823ee37a630e04c636786f8fd853ac427", func := "blazon/blazonlaw10.LamportTurned", spec := "lamportTurned", unfollowed := true, recurses := true, apart := false }
def LamportTurnedSaid : Prop := lamportTurnedRow.holds Try.pinned (OpenSpec.ofChange lamportTurnedSpec)

/-- ITS FALSE NEIGHBOUR: 'it returns false'. Refute it at one input. -/
def lamportTurnedWrong : ChangeSpec := { name := "lamportTurned", fn := fun _ => fun
  | [d1, d2, d3, d4, d5] => { results := [.lit (.bool false)], args := [d1, d2, d3, d4, d5] }
  | _ => none }
def LamportTurnedWrongFalsely : Prop := lamportTurnedRow.holds Try.pinned (OpenSpec.ofChange lamportTurnedWrong)

/- THE SECOND FORM. 'bulk': how many values and letters a reading holds, each counted each time it is reached (what is shared counts as often as it is met; a slice's spare places count too). A statement '..UptoSaid' is the law's where the arguments, and the package variables that the reading takes, are together of bulk at most 1048576: NARROWER than '..Said'. Prove '..Said' where nothing that the law and all that it calls make is longer than what came in: it says more and counts as full. Else prove '..UptoSaid'. A law counts once. -/
mutual
def uptoBulk {H : Type} : DataW H → Nat
  | .lit (.string bytes) => bytes.length + 1
  | .lit _ => 1
  | .nil => 1
  | .ptr d => uptoBulk d + 1
  | .slice elems spare => uptoBulkAll elems + uptoBulkAll spare + 1
  | .agg parts => uptoBulkAll parts + 1
  | .iface _ d => uptoBulk d + 1
  | .map entries => uptoBulkEntries entries + 1
  | .held _ => 1
def uptoBulkAll {H : Type} : List (DataW H) → Nat
  | [] => 0
  | d :: r => uptoBulk d + uptoBulkAll r
def uptoBulkEntries {H : Type} : List (Lit × DataW H) → Nat
  | [] => 0
  | x :: r => uptoBulkEntry x + uptoBulkEntries r
def uptoBulkEntry {H : Type} : Lit × DataW H → Nat
  | (.string bytes, d) => bytes.length + uptoBulk d + 1
  | (_, d) => uptoBulk d + 1
 end
def uptoSmall : (H : Type) → List (DataW H) → Bool := fun _ ds => decide (uptoBulkAll ds ≤ 1048576)
def OpenSpec.upto (s : _root_.Go.ChangeSpec) : _root_.Go.OpenSpec := { _root_.Go.OpenSpec.ofChange s with cond := some uptoSmall }

/-- 'blazonlaw10.LamportOpens', WHERE WHAT IT READS IS OF BULK AT MOST 1048576: true; the input reads as it did. -/
def lamportOpensUptoRow : OpenClaim := { program := "ytjofajjhhjpkiaa", sum := "b23d66ab60c386909efb5b1a9c60e29823ee37a630e04c636786f8fd853ac427", func := "blazon/blazonlaw10.LamportOpens", spec := "lamportOpens", unfollowed := true, recurses := true, apart := false, narrowed := true }
def LamportOpensUptoSaid : Prop := lamportOpensUptoRow.holds Try.pinned (OpenSpec.upto lamportOpensSpec)

/-- 'blazonlaw10.LamportForged', WHERE WHAT IT READS IS OF BULK AT MOST 1048576: true; the input reads as it did. -/
def lamportForgedUptoRow : OpenClaim := { program := "ytjofajjhhjpkiaa", sum := "b23d66ab60c386909efb5b1a9c60e29823ee37a630e04c636786f8fd853ac427", func := "blazon/blazonlaw10.LamportForged", spec := "lamportForged", unfollowed := true, recurses := true, apart := false, narrowed := true }
def LamportForgedUptoSaid : Prop := lamportForgedUptoRow.holds Try.pinned (OpenSpec.upto lamportForgedSpec)

/-- 'blazonlaw10.LamportKeys', WHERE WHAT IT READS IS OF BULK AT MOST 1048576: true; the input reads as it did. -/
def lamportKeysUptoRow : OpenClaim := { program := "ytjofajjhhjpkiaa", sum := "b23d66ab60c386909efb5b1a9c60e29823ee37a630e04c636786f8fd853ac427", func := "blazon/blazonlaw10.LamportKeys", spec := "lamportKeys", unfollowed := true, recurses := true, apart := false, narrowed := true }
def LamportKeysUptoSaid : Prop := lamportKeysUptoRow.holds Try.pinned (OpenSpec.upto lamportKeysSpec)

/-- 'blazonlaw10.LamportSigns', WHERE WHAT IT READS IS OF BULK AT MOST 1048576: true; the input reads as it did. -/
def lamportSignsUptoRow : OpenClaim := { program := "ytjofajjhhjpkiaa", sum := "b23d66ab60c386909efb5b1a9c60e29823ee37a630e04c636786f8fd853ac427", func := "blazon/blazonlaw10.LamportSigns", spec := "lamportSigns", unfollowed := true, recurses := true, apart := false, narrowed := true }
def LamportSignsUptoSaid : Prop := lamportSignsUptoRow.holds Try.pinned (OpenSpec.upto lamportSignsSpec)

/-- 'blazonlaw10.LamportTurned', WHERE WHAT IT READS IS OF BULK AT MOST 1048576: true; the input reads as it did. -/
def lamportTurnedUptoRow : OpenClaim := { program := "ytjofajjhhjpkiaa", sum := "b23d66ab60c386909efb5b1a9c60e29823ee37a630e04c636786f8fd853ac427", func := "blazon/blazonlaw10.LamportTurned", spec := "lamportTurned", unfollowed := true, recurses := true, apart := false, narrowed := true }
def LamportTurnedUptoSaid : Prop := lamportTurnedUptoRow.holds Try.pinned (OpenSpec.upto lamportTurnedSpec)

end Rows
end Go.Proofs.Ytjofajjhhjpkiaa
