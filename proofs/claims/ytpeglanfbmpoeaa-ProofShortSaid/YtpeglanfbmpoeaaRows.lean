/-
  No cell of these rows narrows 'for every input' (looked for: loops, veiled, ifaces, maps, wideKeys, modest, calm, conditions, laid).
  DERIVED. THE GIVEN ROWS OF THIS SEAT. 5 by the template 'for every input the law returns true; each argument reads behind the call as it read before'; 0 by the template 'total and deterministic' (their statements: YtpeglanfbmpoeaaTotals.lean).
  GIVEN WITH THE SEED: the statements are not yours to turn. If you find one false, say at which input.
  Laid BY PROGRAM, IN A SANDBOX (cutbox-rows.mjs): the forced cells as the released guide's own fill.sh prints them over the translation 2d299db1f7eee708… (all of the seat's roots in one cut). By AI agents, Wed Nov 11 2026. No macro, syntax, notation, axiom, sorry.
-/
import Derived.Test.YtpeglanfbmpoeaaChecked
import GoSem.Claim
import GoSem.ClaimJoined
import GoSem.ClaimMapViews
import Derived.JoinedTies
import Derived.KernelRfl
namespace Go.Proofs.Ytpeglanfbmpoeaa
/- THE CELL 'sum', in the pinned program and in every row, IS THE sha256 OF THE DUMP (.gsa) THAT YtpeglanfbmpoeaaProg.lean LOADS. Nothing in Lean hashes anything: it is a label: what it is worth is what the hold of that sum in a sandbox is worth. -/
noncomputable def Try.pinned : Pinned := { name := "ytpeglanfbmpoeaa", sum := "2d299db1f7eee708e58e5a0c68f3d86786835223b1dada98fab6071fa364dd0e", checked := Try.checked }
namespace Rows
def none {H : Type} : Left H := { results := [], args := [] }

/-- 'blazonlaw08.ProofHashed': WHATEVER THE INPUT: true; the input reads as it did. -/
def proofHashedSpec : ChangeSpec := { name := "proofHashed", fn := fun _ => fun
  | [d1, d2] => { results := [.lit (.bool true)], args := [d1, d2] }
  | _ => none }
def proofHashedRow : OpenClaim := { program := "ytpeglanfbmpoeaa", sum := "2d299db1f7eee708e58e5a0c68f3d86786835223b1dada98fab6071fa364dd0e", func := "blazon/blazonlaw08.ProofHashed", spec := "proofHashed", unfollowed := true, recurses := true, apart := false }
def ProofHashedSaid : Prop := proofHashedRow.holds Try.pinned (OpenSpec.ofChange proofHashedSpec)

/-- ITS FALSE NEIGHBOUR: 'it returns false'. Refute it at one input. -/
def proofHashedWrong : ChangeSpec := { name := "proofHashed", fn := fun _ => fun
  | [d1, d2] => { results := [.lit (.bool false)], args := [d1, d2] }
  | _ => none }
def ProofHashedWrongFalsely : Prop := proofHashedRow.holds Try.pinned (OpenSpec.ofChange proofHashedWrong)

/-- 'blazonlaw08.ProofChecks': WHATEVER THE INPUT: true; the input reads as it did. -/
def proofChecksSpec : ChangeSpec := { name := "proofChecks", fn := fun _ => fun
  | [d1, d2, d3, d4] => { results := [.lit (.bool true)], args := [d1, d2, d3, d4] }
  | _ => none }
def proofChecksRow : OpenClaim := { program := "ytpeglanfbmpoeaa", sum := "2d299db1f7eee708e58e5a0c68f3d86786835223b1dada98fab6071fa364dd0e", func := "blazon/blazonlaw08.ProofChecks", spec := "proofChecks", unfollowed := true, recurses := true, apart := false }
def ProofChecksSaid : Prop := proofChecksRow.holds Try.pinned (OpenSpec.ofChange proofChecksSpec)

/-- ITS FALSE NEIGHBOUR: 'it returns false'. Refute it at one input. -/
def proofChecksWrong : ChangeSpec := { name := "proofChecks", fn := fun _ => fun
  | [d1, d2, d3, d4] => { results := [.lit (.bool false)], args := [d1, d2, d3, d4] }
  | _ => none }
def ProofChecksWrongFalsely : Prop := proofChecksRow.holds Try.pinned (OpenSpec.ofChange proofChecksWrong)

/-- 'blazonlaw08.ProofTrees': WHATEVER THE INPUT: true; the input reads as it did. -/
def proofTreesSpec : ChangeSpec := { name := "proofTrees", fn := fun _ => fun
  | [d1, d2, d3] => { results := [.lit (.bool true)], args := [d1, d2, d3] }
  | _ => none }
def proofTreesRow : OpenClaim := { program := "ytpeglanfbmpoeaa", sum := "2d299db1f7eee708e58e5a0c68f3d86786835223b1dada98fab6071fa364dd0e", func := "blazon/blazonlaw08.ProofTrees", spec := "proofTrees", unfollowed := true, recurses := true, apart := false }
def ProofTreesSaid : Prop := proofTreesRow.holds Try.pinned (OpenSpec.ofChange proofTreesSpec)

/-- ITS FALSE NEIGHBOUR: 'it returns false'. Refute it at one input. -/
def proofTreesWrong : ChangeSpec := { name := "proofTrees", fn := fun _ => fun
  | [d1, d2, d3] => { results := [.lit (.bool false)], args := [d1, d2, d3] }
  | _ => none }
def ProofTreesWrongFalsely : Prop := proofTreesRow.holds Try.pinned (OpenSpec.ofChange proofTreesWrong)

/-- 'blazonlaw08.ProofTurned': WHATEVER THE INPUT: true; the input reads as it did. -/
def proofTurnedSpec : ChangeSpec := { name := "proofTurned", fn := fun _ => fun
  | [d1, d2, d3, d4] => { results := [.lit (.bool true)], args := [d1, d2, d3, d4] }
  | _ => none }
def proofTurnedRow : OpenClaim := { program := "ytpeglanfbmpoeaa", sum := "2d299db1f7eee708e58e5a0c68f3d86786835223b1dada98fab6071fa364dd0e", func := "blazon/blazonlaw08.ProofTurned", spec := "proofTurned", unfollowed := true, recurses := true, apart := false }
def ProofTurnedSaid : Prop := proofTurnedRow.holds Try.pinned (OpenSpec.ofChange proofTurnedSpec)

/-- ITS FALSE NEIGHBOUR: 'it returns false'. Refute it at one input. -/
def proofTurnedWrong : ChangeSpec := { name := "proofTurned", fn := fun _ => fun
  | [d1, d2, d3, d4] => { results := [.lit (.bool false)], args := [d1, d2, d3, d4] }
  | _ => none }
def ProofTurnedWrongFalsely : Prop := proofTurnedRow.holds Try.pinned (OpenSpec.ofChange proofTurnedWrong)

/-- 'blazonlaw08.ProofShort': WHATEVER THE INPUT: true; the input reads as it did. -/
def proofShortSpec : ChangeSpec := { name := "proofShort", fn := fun _ => fun
  | [d1, d2, d3, d4] => { results := [.lit (.bool true)], args := [d1, d2, d3, d4] }
  | _ => none }
def proofShortRow : OpenClaim := { program := "ytpeglanfbmpoeaa", sum := "2d299db1f7eee708e58e5a0c68f3d86786835223b1dada98fab6071fa364dd0e", func := "blazon/blazonlaw08.ProofShort", spec := "proofShort", unfollowed := true, recurses := true, apart := false }
def ProofShortSaid : Prop := proofShortRow.holds Try.pinned (OpenSpec.ofChange proofShortSpec)

/-- ITS FALSE NEIGHBOUR: 'it returns false'. Refute it at one input. -/
def proofShortWrong : ChangeSpec := { name := "proofShort", fn := fun _ => fun
  | [d1, d2, d3, d4] => { results := [.lit (.bool false)], args := [d1, d2, d3, d4] }
  | _ => none }
def ProofShortWrongFalsely : Prop := proofShortRow.holds Try.pinned (OpenSpec.ofChange proofShortWrong)

/- THE SECOND FORM. 'bulk': how many values and letters a reading holds, each counted each time it is reached (what is shared counts as often as it is met; a slice's spare places count too). A statement '..UptoSaid' is the law's where the arguments, and the package variables that the reading takes, are together of bulk at most 1048576: NARROWER than '..Said'. Prove '..Said' where nothing that the law and all that it calls make is longer than what came in: it says more and counts as full. Else prove '..UptoSaid'. A law counts once. -/
mutual
def uptoBulk {H : Type} : DataW H → Nat
  | .lit (.string bytes) => bytes.length + 1
  | .lit _ => 1
  | .nil => 1
  | .ptr d => uptoBulk d + 1
  | .slice elems spare => uptoBulkAll elems + uptoBulkAll spare + 1
  | .agg parts => uptoBulkAll parts + 1
  | .iface _ d => uptoBulk d + 1
  | .map entries => uptoBulkEntries entries + 1
  | .held _ => 1
def uptoBulkAll {H : Type} : List (DataW H) → Nat
  | [] => 0
  | d :: r => uptoBulk d + uptoBulkAll r
def uptoBulkEntries {H : Type} : List (Lit × DataW H) → Nat
  | [] => 0
  | x :: r => uptoBulkEntry x + uptoBulkEntries r
def uptoBulkEntry {H : Type} : Lit × DataW H → Nat
  | (.string bytes, d) => bytes.length + uptoBulk d + 1
  | (_, d) => uptoBulk d + 1
 end
def uptoSmall : (H : Type) → List (DataW H) → Bool := fun _ ds => decide (uptoBulkAll ds ≤ 1048576)
def OpenSpec.upto (s : _root_.Go.ChangeSpec) : _root_.Go.OpenSpec := { _root_.Go.OpenSpec.ofChange s with cond := some uptoSmall }

/-- 'blazonlaw08.ProofHashed', WHERE WHAT IT READS IS OF BULK AT MOST 1048576: true; the input reads as it did. -/
def proofHashedUptoRow : OpenClaim := { program := "ytpeglanfbmpoeaa", sum := "2d299db1f7eee708e58e5a0c68f3d86786835223b1dada98fab6071fa364dd0e", func := "blazon/blazonlaw08.ProofHashed", spec := "proofHashed", unfollowed := true, recurses := true, apart := false, narrowed := true }
def ProofHashedUptoSaid : Prop := proofHashedUptoRow.holds Try.pinned (OpenSpec.upto proofHashedSpec)

/-- 'blazonlaw08.ProofChecks', WHERE WHAT IT READS IS OF BULK AT MOST 1048576: true; the input reads as it did. -/
def proofChecksUptoRow : OpenClaim := { program := "ytpeglanfbmpoeaa", sum := "2d299db1f7eee708e58e5a0c68f3d86786835223b1dada98fab6071fa364dd0e", func := "blazon/blazonlaw08.ProofChecks", spec := "proofChecks", unfollowed := true, recurses := true, apart := false, narrowed := true }
def ProofChecksUptoSaid : Prop := proofChecksUptoRow.holds Try.pinned (OpenSpec.upto proofChecksSpec)

/-- 'blazonlaw08.ProofTrees', WHERE WHAT IT READS IS OF BULK AT MOST 1048576: true; the input reads as it did. -/
def proofTreesUptoRow : OpenClaim := { program := "ytpeglanfbmpoeaa", sum := "2d299db1f7eee708e58e5a0c68f3d86786835223b1dada98fab6071fa364dd0e", func := "blazon/blazonlaw08.ProofTrees", spec := "proofTrees", unfollowed := true, recurses := true, apart := false, narrowed := true }
def ProofTreesUptoSaid : Prop := proofTreesUptoRow.holds Try.pinned (OpenSpec.upto proofTreesSpec)

/-- 'blazonlaw08.ProofTurned', WHERE WHAT IT READS IS OF BULK AT MOST 1048576: true; the input reads as it did. -/
def proofTurnedUptoRow : OpenClaim := { program := "ytpeglanfbmpoeaa", sum := "2d299db1f7eee708e58e5a0c68f3d86786835223b1dada98fab6071fa364dd0e", func := "blazon/blazonlaw08.ProofTurned", spec := "proofTurned", unfollowed := true, recurses := true, apart := false, narrowed := true }
def ProofTurnedUptoSaid : Prop := proofTurnedUptoRow.holds Try.pinned (OpenSpec.upto proofTurnedSpec)

/-- 'blazonlaw08.ProofShort', WHERE WHAT IT READS IS OF BULK AT MOST 1048576: true; the input reads as it did. -/
def proofShortUptoRow : OpenClaim := { program := "ytpeglanfbmpoeaa", sum := "2d299db1f7eee708e58e5a0c68f3d86786835223b1dada98fab6071fa364dd0e", func := "blazon/blazonlaw08.ProofShort", spec := "proofShort", unfollowed := true, recurses := true, apart := false, narrowed := true }
def ProofShortUptoSaid : Prop := proofShortUptoRow.holds Try.pinned (OpenSpec.upto proofShortSpec)

end Rows
end Go.Proofs.Ytpeglanfbmpoeaa
