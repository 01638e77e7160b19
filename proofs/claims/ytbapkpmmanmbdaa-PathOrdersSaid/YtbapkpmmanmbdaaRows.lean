/-
  No cell of these rows narrows 'for every input' (looked for: loops, veiled, ifaces, maps, wideKeys, modest, calm, conditions, laid).
  DERIVED. THE GIVEN ROWS OF THIS SEAT. 4 by the template 'for every input the law returns true; each argument reads behind the call as it read before'; 0 by the template 'total and deterministic' (their statements: YtbapkpmmanmbdaaTotals.lean).
  GIVEN WITH THE SEED: the statements are not yours to turn. If you find one false, say at which input.
  Laid BY PROGRAM, IN A SANDBOX (cutbox-rows.mjs): the forced cells as the released guide's own fill.sh prints them over the translation 9f3ead3f6ad58d99… (all of the seat's roots in one cut). By AI agents, Wed Nov 11 2026. No macro, syntax, notation, axiom, sorry.
-/
import Derived.Test.YtbapkpmmanmbdaaChecked
import GoSem.Claim
import GoSem.ClaimJoined
import GoSem.ClaimMapViews
import Derived.JoinedTies
import Derived.KernelRfl
namespace Go.Proofs.Ytbapkpmmanmbdaa
/- THE CELL 'sum', in the pinned program and in every row, IS THE sha256 OF THE DUMP (.gsa) THAT YtbapkpmmanmbdaaProg.lean LOADS. Nothing in Lean hashes anything: it is a label: what it is worth is what the hold of that sum in a sandbox is worth. -/
noncomputable def Try.pinned : Pinned := { name := "ytbapkpmmanmbdaa", sum := "9f3ead3f6ad58d990d94f8ad413d14828183e52035281a14455c7fcb76927260", checked := Try.checked }
namespace Rows
def none {H : Type} : Left H := { results := [], args := [] }

/-- 'blazonlaw06.PathBits': WHATEVER THE INPUT: true; the input reads as it did. -/
def pathBitsSpec : ChangeSpec := { name := "pathBits", fn := fun _ => fun
  | [d1, d2, d3] => { results := [.lit (.bool true)], args := [d1, d2, d3] }
  | _ => none }
def pathBitsRow : OpenClaim := { program := "ytbapkpmmanmbdaa", sum := "9f3ead3f6ad58d990d94f8ad413d14828183e52035281a14455c7fcb76927260", func := "blazon/blazonlaw06.PathBits", spec := "pathBits", unfollowed := true, recurses := true, apart := false }
def PathBitsSaid : Prop := pathBitsRow.holds Try.pinned (OpenSpec.ofChange pathBitsSpec)

/-- ITS FALSE NEIGHBOUR: 'it returns false'. Refute it at one input. -/
def pathBitsWrong : ChangeSpec := { name := "pathBits", fn := fun _ => fun
  | [d1, d2, d3] => { results := [.lit (.bool false)], args := [d1, d2, d3] }
  | _ => none }
def PathBitsWrongFalsely : Prop := pathBitsRow.holds Try.pinned (OpenSpec.ofChange pathBitsWrong)

/-- 'blazonlaw06.PathGoes': WHATEVER THE INPUT: true; the input reads as it did. -/
def pathGoesSpec : ChangeSpec := { name := "pathGoes", fn := fun _ => fun
  | [d1, d2] => { results := [.lit (.bool true)], args := [d1, d2] }
  | _ => none }
def pathGoesRow : OpenClaim := { program := "ytbapkpmmanmbdaa", sum := "9f3ead3f6ad58d990d94f8ad413d14828183e52035281a14455c7fcb76927260", func := "blazon/blazonlaw06.PathGoes", spec := "pathGoes", unfollowed := true, recurses := true, apart := false }
def PathGoesSaid : Prop := pathGoesRow.holds Try.pinned (OpenSpec.ofChange pathGoesSpec)

/-- ITS FALSE NEIGHBOUR: 'it returns false'. Refute it at one input. -/
def pathGoesWrong : ChangeSpec := { name := "pathGoes", fn := fun _ => fun
  | [d1, d2] => { results := [.lit (.bool false)], args := [d1, d2] }
  | _ => none }
def PathGoesWrongFalsely : Prop := pathGoesRow.holds Try.pinned (OpenSpec.ofChange pathGoesWrong)

/-- 'blazonlaw06.PathOrders': WHATEVER THE INPUT: true; the input reads as it did. -/
def pathOrdersSpec : ChangeSpec := { name := "pathOrders", fn := fun _ => fun
  | [d1, d2, d3] => { results := [.lit (.bool true)], args := [d1, d2, d3] }
  | _ => none }
def pathOrdersRow : OpenClaim := { program := "ytbapkpmmanmbdaa", sum := "9f3ead3f6ad58d990d94f8ad413d14828183e52035281a14455c7fcb76927260", func := "blazon/blazonlaw06.PathOrders", spec := "pathOrders", unfollowed := true, recurses := true, apart := false }
def PathOrdersSaid : Prop := pathOrdersRow.holds Try.pinned (OpenSpec.ofChange pathOrdersSpec)

/-- ITS FALSE NEIGHBOUR: 'it returns false'. Refute it at one input. -/
def pathOrdersWrong : ChangeSpec := { name := "pathOrders", fn := fun _ => fun
  | [d1, d2, d3] => { results := [.lit (.bool false)], args := [d1, d2, d3] }
  | _ => none }
def PathOrdersWrongFalsely : Prop := pathOrdersRow.holds Try.pinned (OpenSpec.ofChange pathOrdersWrong)

/-- 'blazonlaw06.PathCommon': WHATEVER THE INPUT: true; the input reads as it did. -/
def pathCommonSpec : ChangeSpec := { name := "pathCommon", fn := fun _ => fun
  | [d1, d2, d3] => { results := [.lit (.bool true)], args := [d1, d2, d3] }
  | _ => none }
def pathCommonRow : OpenClaim := { program := "ytbapkpmmanmbdaa", sum := "9f3ead3f6ad58d990d94f8ad413d14828183e52035281a14455c7fcb76927260", func := "blazon/blazonlaw06.PathCommon", spec := "pathCommon", unfollowed := true, recurses := true, apart := false }
def PathCommonSaid : Prop := pathCommonRow.holds Try.pinned (OpenSpec.ofChange pathCommonSpec)

/-- ITS FALSE NEIGHBOUR: 'it returns false'. Refute it at one input. -/
def pathCommonWrong : ChangeSpec := { name := "pathCommon", fn := fun _ => fun
  | [d1, d2, d3] => { results := [.lit (.bool false)], args := [d1, d2, d3] }
  | _ => none }
def PathCommonWrongFalsely : Prop := pathCommonRow.holds Try.pinned (OpenSpec.ofChange pathCommonWrong)

/- THE SECOND FORM. 'bulk': how many values and letters a reading holds, each counted each time it is reached (what is shared counts as often as it is met; a slice's spare places count too). A statement '..UptoSaid' is the law's where the arguments, and the package variables that the reading takes, are together of bulk at most 1048576: NARROWER than '..Said'. Prove '..Said' where nothing that the law and all that it calls make is longer than what came in: it says more and counts as full. Else prove '..UptoSaid'. A law counts once. -/
mutual
def uptoBulk {H : Type} : DataW H → Nat
  | .lit (.string bytes) => bytes.length + 1
  | .lit _ => 1
  | .nil => 1
  | .ptr d => uptoBulk d + 1
  | .slice elems spare => uptoBulkAll elems + uptoBulkAll spare + 1
  | .agg parts => uptoBulkAll parts + 1
  | .iface _ d => uptoBulk d + 1
  | .map entries => uptoBulkEntries entries + 1
  | .held _ => 1
def uptoBulkAll {H : Type} : List (DataW H) → Nat
  | [] => 0
  | d :: r => uptoBulk d + uptoBulkAll r
def uptoBulkEntries {H : Type} : List (Lit × DataW H) → Nat
  | [] => 0
  | x :: r => uptoBulkEntry x + uptoBulkEntries r
def uptoBulkEntry {H : Type} : Lit × DataW H → Nat
  | (.string bytes, d) => bytes.length + uptoBulk d + 1
  | (_, d) => uptoBulk d + 1
 end
def uptoSmall : (H : Type) → List (DataW H) → Bool := fun _ ds => decide (uptoBulkAll ds ≤ 1048576)
def OpenSpec.upto (s : _root_.Go.ChangeSpec) : _root_.Go.OpenSpec := { _root_.Go.OpenSpec.ofChange s with cond := some uptoSmall }

/-- 'blazonlaw06.PathBits', WHERE WHAT IT READS IS OF BULK AT MOST 1048576: true; the input reads as it did. -/
def pathBitsUptoRow : OpenClaim := { program := "ytbapkpmmanmbdaa", sum := "9f3ead3f6ad58d990d94f8ad413d14828183e52035281a14455c7fcb76927260", func := "blazon/blazonlaw06.PathBits", spec := "pathBits", unfollowed := true, recurses := true, apart := false, narrowed := true }
def PathBitsUptoSaid : Prop := pathBitsUptoRow.holds Try.pinned (OpenSpec.upto pathBitsSpec)

/-- 'blazonlaw06.PathGoes', WHERE WHAT IT READS IS OF BULK AT MOST 1048576: true; the input reads as it did. -/
def pathGoesUptoRow : OpenClaim := { program := "ytbapkpmmanmbdaa", sum := "9f3ead3f6ad58d990d94f8ad413d14828183e52035281a14455c7fcb76927260", func := "blazon/blazonlaw06.PathGoes", spec := "pathGoes", unfollowed := true, recurses := true, apart := false, narrowed := true }
def PathGoesUptoSaid : Prop := pathGoesUptoRow.holds Try.pinned (OpenSpec.upto pathGoesSpec)

/-- 'blazonlaw06.PathOrders', WHERE WHAT IT READS IS OF BULK AT MOST 1048576: true; the input reads as it did. -/
def pathOrdersUptoRow : OpenClaim := { program := "ytbapkpmmanmbdaa", sum := "9f3ead3f6ad58d990d94f8ad413d14828183e52035281a14455c7fcb76927260", func := "blazon/blazonlaw06.PathOrders", spec := "pathOrders", unfollowed := true, recurses := true, apart := false, narrowed := true }
def PathOrdersUptoSaid : Prop := pathOrdersUptoRow.holds Try.pinned (OpenSpec.upto pathOrdersSpec)

/-- 'blazonlaw06.PathCommon', WHERE WHAT IT READS IS OF BULK AT MOST 1048576: true; the input reads as it did. -/
def pathCommonUptoRow : OpenClaim := { program := "ytbapkpmmanmbdaa", sum := "9f3ead3f6ad58d990d94f8ad413d14828183e52035281a14455c7fcb76927260", func := "blazon/blazonlaw06.PathCommon", spec := "pathCommon", unfollowed := true, recurses := true, apart := false, narrowed := true }
def PathCommonUptoSaid : Prop := pathCommonUptoRow.holds Try.pinned (OpenSpec.upto pathCommonSpec)

end Rows
end Go.Proofs.Ytbapkpmmanmbdaa
