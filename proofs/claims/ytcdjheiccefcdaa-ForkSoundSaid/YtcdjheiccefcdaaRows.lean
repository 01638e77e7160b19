/-
  No cell of these rows narrows 'for every input' (looked for: loops, veiled, ifaces, maps, wideKeys, modest, calm, conditions, laid).
  DERIVED. THE GIVEN ROWS OF THIS SEAT. 6 by the template 'for every input the law returns true; each argument reads behind the call as it read before'; 0 by the template 'total and deterministic' (their statements: YtcdjheiccefcdaaTotals.lean).
  GIVEN WITH THE SEED: the statements are not yours to turn. If you find one false, say at which input.
  Laid BY PROGRAM, IN A SANDBOX (cutbox-rows.mjs): the forced cells as the released guide's own fill.sh prints them over the translation 710f869a8dc77219… (all of the seat's roots in one cut). By AI agents, Wed Nov 11 2026. No macro, syntax, notation, axiom, sorry.
-/
import Derived.Test.YtcdjheiccefcdaaChecked
import GoSem.Claim
import GoSem.ClaimJoined
import GoSem.ClaimMapViews
import Derived.JoinedTies
import Derived.KernelRfl
namespace Go.Proofs.Ytcdjheiccefcdaa
/- THE CELL 'sum', in the pinned program and in every row, IS THE sha256 OF THE DUMP (.gsa) THAT YtcdjheiccefcdaaProg.lean LOADS. Nothing in Lean hashes anything: it is a label: what it is worth is what the hold of that sum in a sandbox is worth. -/
noncomputable def Try.pinned : Pinned := { name := "ytcdjheiccefcdaa", sum := "710f869a8dc77219cdfa2bd0509e567520e1011f0489a0ac93e5e5684602e31a", checked := Try.checked }
namespace Rows
def none {H : Type} : Left H := { results := [], args := [] }

/-- 'blazonlaw12.ForkChecks': WHATEVER THE INPUT: true; the input reads as it did. -/
def forkChecksSpec : ChangeSpec := { name := "forkChecks", fn := fun _ => fun
  | [d1, d2] => { results := [.lit (.bool true)], args := [d1, d2] }
  | _ => none }
def forkChecksRow : OpenClaim := { program := "ytcdjheiccefcdaa", sum := "710f869a8dc77219cdfa2bd0509e567520e1011f0489a0ac93e5e5684602e31a", func := "blazon/blazonlaw12.ForkChecks", spec := "forkChecks", unfollowed := true, recurses := true, apart := false }
def ForkChecksSaid : Prop := forkChecksRow.holds Try.pinned (OpenSpec.ofChange forkChecksSpec)

/-- ITS FALSE NEIGHBOUR: 'it returns false'. Refute it at one input. -/
def forkChecksWrong : ChangeSpec := { name := "forkChecks", fn := fun _ => fun
  | [d1, d2] => { results := [.lit (.bool false)], args := [d1, d2] }
  | _ => none }
def ForkChecksWrongFalsely : Prop := forkChecksRow.holds Try.pinned (OpenSpec.ofChange forkChecksWrong)

/-- 'blazonlaw12.ForkBack': WHATEVER THE INPUT: true; the input reads as it did. -/
def forkBackSpec : ChangeSpec := { name := "forkBack", fn := fun _ => fun
  | [d] => { results := [.lit (.bool true)], args := [d] }
  | _ => none }
def forkBackRow : OpenClaim := { program := "ytcdjheiccefcdaa", sum := "710f869a8dc77219cdfa2bd0509e567520e1011f0489a0ac93e5e5684602e31a", func := "blazon/blazonlaw12.ForkBack", spec := "forkBack", unfollowed := true, recurses := true, apart := false }
def ForkBackSaid : Prop := forkBackRow.holds Try.pinned (OpenSpec.ofChange forkBackSpec)

/-- ITS FALSE NEIGHBOUR: 'it returns false'. Refute it at one input. -/
def forkBackWrong : ChangeSpec := { name := "forkBack", fn := fun _ => fun
  | [d] => { results := [.lit (.bool false)], args := [d] }
  | _ => none }
def ForkBackWrongFalsely : Prop := forkBackRow.holds Try.pinned (OpenSpec.ofChange forkBackWrong)

/-- 'blazonlaw12.ForkSound': WHATEVER THE INPUT: true; the input reads as it did. -/
def forkSoundSpec : ChangeSpec := { name := "forkSound", fn := fun _ => fun
  | [d1, d2, d3] => { results := [.lit (.bool true)], args := [d1, d2, d3] }
  | _ => none }
def forkSoundRow : OpenClaim := { program := "ytcdjheiccefcdaa", sum := "710f869a8dc77219cdfa2bd0509e567520e1011f0489a0ac93e5e5684602e31a", func := "blazon/blazonlaw12.ForkSound", spec := "forkSound", unfollowed := true, recurses := true, apart := false }
def ForkSoundSaid : Prop := forkSoundRow.holds Try.pinned (OpenSpec.ofChange forkSoundSpec)

/-- ITS FALSE NEIGHBOUR: 'it returns false'. Refute it at one input. -/
def forkSoundWrong : ChangeSpec := { name := "forkSound", fn := fun _ => fun
  | [d1, d2, d3] => { results := [.lit (.bool false)], args := [d1, d2, d3] }
  | _ => none }
def ForkSoundWrongFalsely : Prop := forkSoundRow.holds Try.pinned (OpenSpec.ofChange forkSoundWrong)

/-- 'blazonlaw12.ForkTurned': WHATEVER THE INPUT: true; the input reads as it did. -/
def forkTurnedSpec : ChangeSpec := { name := "forkTurned", fn := fun _ => fun
  | [d1, d2] => { results := [.lit (.bool true)], args := [d1, d2] }
  | _ => none }
def forkTurnedRow : OpenClaim := { program := "ytcdjheiccefcdaa", sum := "710f869a8dc77219cdfa2bd0509e567520e1011f0489a0ac93e5e5684602e31a", func := "blazon/blazonlaw12.ForkTurned", spec := "forkTurned", unfollowed := true, recurses := true, apart := false }
def ForkTurnedSaid : Prop := forkTurnedRow.holds Try.pinned (OpenSpec.ofChange forkTurnedSpec)

/-- ITS FALSE NEIGHBOUR: 'it returns false'. Refute it at one input. -/
def forkTurnedWrong : ChangeSpec := { name := "forkTurned", fn := fun _ => fun
  | [d1, d2] => { results := [.lit (.bool false)], args := [d1, d2] }
  | _ => none }
def ForkTurnedWrongFalsely : Prop := forkTurnedRow.holds Try.pinned (OpenSpec.ofChange forkTurnedWrong)

/-- 'blazonlaw12.ForkReads': WHATEVER THE INPUT: true; the input reads as it did. -/
def forkReadsSpec : ChangeSpec := { name := "forkReads", fn := fun _ => fun
  | [d1, d2] => { results := [.lit (.bool true)], args := [d1, d2] }
  | _ => none }
def forkReadsRow : OpenClaim := { program := "ytcdjheiccefcdaa", sum := "710f869a8dc77219cdfa2bd0509e567520e1011f0489a0ac93e5e5684602e31a", func := "blazon/blazonlaw12.ForkReads", spec := "forkReads", unfollowed := true, recurses := true, apart := false }
def ForkReadsSaid : Prop := forkReadsRow.holds Try.pinned (OpenSpec.ofChange forkReadsSpec)

/-- ITS FALSE NEIGHBOUR: 'it returns false'. Refute it at one input. -/
def forkReadsWrong : ChangeSpec := { name := "forkReads", fn := fun _ => fun
  | [d1, d2] => { results := [.lit (.bool false)], args := [d1, d2] }
  | _ => none }
def ForkReadsWrongFalsely : Prop := forkReadsRow.holds Try.pinned (OpenSpec.ofChange forkReadsWrong)

/-- 'blazonlaw12.ForkFinds': WHATEVER THE INPUT: true; the input reads as it did. -/
def forkFindsSpec : ChangeSpec := { name := "forkFinds", fn := fun _ => fun
  | [d1, d2, d3] => { results := [.lit (.bool true)], args := [d1, d2, d3] }
  | _ => none }
def forkFindsRow : OpenClaim := { program := "ytcdjheiccefcdaa", sum := "710f869a8dc77219cdfa2bd0509e567520e1011f0489a0ac93e5e5684602e31a", func := "blazon/blazonlaw12.ForkFinds", spec := "forkFinds", unfollowed := true, recurses := true, apart := false }
def ForkFindsSaid : Prop := forkFindsRow.holds Try.pinned (OpenSpec.ofChange forkFindsSpec)

/-- ITS FALSE NEIGHBOUR: 'it returns false'. Refute it at one input. -/
def forkFindsWrong : ChangeSpec := { name := "forkFinds", fn := fun _ => fun
  | [d1, d2, d3] => { results := [.lit (.bool false)], args := [d1, d2, d3] }
  | _ => none }
def ForkFindsWrongFalsely : Prop := forkFindsRow.holds Try.pinned (OpenSpec.ofChange forkFindsWrong)

/- THE SECOND FORM. 'bulk': how many values and letters a reading holds, each counted each time it is reached (what is shared counts as often as it is met; a slice's spare places count too). A statement '..UptoSaid' is the law's where the arguments, and the package variables that the reading takes, are together of bulk at most 1048576: NARROWER than '..Said'. Prove '..Said' where nothing that the law and all that it calls make is longer than what came in: it says more and counts as full. Else prove '..UptoSaid'. A law counts once. -/
mutual
def uptoBulk {H : Type} : DataW H → Nat
  | .lit (.string bytes) => bytes.length + 1
  | .lit _ => 1
  | .nil => 1
  | .ptr d => uptoBulk d + 1
  | .slice elems spare => uptoBulkAll elems + uptoBulkAll spare + 1
  | .agg parts => uptoBulkAll parts + 1
  | .iface _ d => uptoBulk d + 1
  | .map entries => uptoBulkEntries entries + 1
  | .held _ => 1
def uptoBulkAll {H : Type} : List (DataW H) → Nat
  | [] => 0
  | d :: r => uptoBulk d + uptoBulkAll r
def uptoBulkEntries {H : Type} : List (Lit × DataW H) → Nat
  | [] => 0
  | x :: r => uptoBulkEntry x + uptoBulkEntries r
def uptoBulkEntry {H : Type} : Lit × DataW H → Nat
  | (.string bytes, d) => bytes.length + uptoBulk d + 1
  | (_, d) => uptoBulk d + 1
 end
def uptoSmall : (H : Type) → List (DataW H) → Bool := fun _ ds => decide (uptoBulkAll ds ≤ 1048576)
def OpenSpec.upto (s : _root_.Go.ChangeSpec) : _root_.Go.OpenSpec := { _root_.Go.OpenSpec.ofChange s with cond := some uptoSmall }

/-- 'blazonlaw12.ForkChecks', WHERE WHAT IT READS IS OF BULK AT MOST 1048576: true; the input reads as it did. -/
def forkChecksUptoRow : OpenClaim := { program := "ytcdjheiccefcdaa", sum := "710f869a8dc77219cdfa2bd0509e567520e1011f0489a0ac93e5e5684602e31a", func := "blazon/blazonlaw12.ForkChecks", spec := "forkChecks", unfollowed := true, recurses := true, apart := false, narrowed := true }
def ForkChecksUptoSaid : Prop := forkChecksUptoRow.holds Try.pinned (OpenSpec.upto forkChecksSpec)

/-- 'blazonlaw12.ForkBack', WHERE WHAT IT READS IS OF BULK AT MOST 1048576: true; the input reads as it did. -/
def forkBackUptoRow : OpenClaim := { program := "ytcdjheiccefcdaa", sum := "710f869a8dc77219cdfa2bd0509e567520e1011f0489a0ac93e5e5684602e31a", func := "blazon/blazonlaw12.ForkBack", spec := "forkBack", unfollowed := true, recurses := true, apart := false, narrowed := true }
def ForkBackUptoSaid : Prop := forkBackUptoRow.holds Try.pinned (OpenSpec.upto forkBackSpec)

/-- 'blazonlaw12.ForkSound', WHERE WHAT IT READS IS OF BULK AT MOST 1048576: true; the input reads as it did. -/
def forkSoundUptoRow : OpenClaim := { program := "ytcdjheiccefcdaa", sum := "710f869a8dc77219cdfa2bd0509e567520e1011f0489a0ac93e5e5684602e31a", func := "blazon/blazonlaw12.ForkSound", spec := "forkSound", unfollowed := true, recurses := true, apart := false, narrowed := true }
def ForkSoundUptoSaid : Prop := forkSoundUptoRow.holds Try.pinned (OpenSpec.upto forkSoundSpec)

/-- 'blazonlaw12.ForkTurned', WHERE WHAT IT READS IS OF BULK AT MOST 1048576: true; the input reads as it did. -/
def forkTurnedUptoRow : OpenClaim := { program := "ytcdjheiccefcdaa", sum := "710f869a8dc77219cdfa2bd0509e567520e1011f0489a0ac93e5e5684602e31a", func := "blazon/blazonlaw12.ForkTurned", spec := "forkTurned", unfollowed := true, recurses := true, apart := false, narrowed := true }
def ForkTurnedUptoSaid : Prop := forkTurnedUptoRow.holds Try.pinned (OpenSpec.upto forkTurnedSpec)

/-- 'blazonlaw12.ForkReads', WHERE WHAT IT READS IS OF BULK AT MOST 1048576: true; the input reads as it did. -/
def forkReadsUptoRow : OpenClaim := { program := "ytcdjheiccefcdaa", sum := "710f869a8dc77219cdfa2bd0509e567520e1011f0489a0ac93e5e5684602e31a", func := "blazon/blazonlaw12.ForkReads", spec := "forkReads", unfollowed := true, recurses := true, apart := false, narrowed := true }
def ForkReadsUptoSaid : Prop := forkReadsUptoRow.holds Try.pinned (OpenSpec.upto forkReadsSpec)

/-- 'blazonlaw12.ForkFinds', WHERE WHAT IT READS IS OF BULK AT MOST 1048576: true; the input reads as it did. -/
def forkFindsUptoRow : OpenClaim := { program := "ytcdjheiccefcdaa", sum := "710f869a8dc77219cdfa2bd0509e567520e1011f0489a0ac93e5e5684602e31a", func := "blazon/blazonlaw12.ForkFinds", spec := "forkFinds", unfollowed := true, recurses := true, apart := false, narrowed := true }
def ForkFindsUptoSaid : Prop := forkFindsUptoRow.holds Try.pinned (OpenSpec.upto forkFindsSpec)

end Rows
end Go.Proofs.Ytcdjheiccefcdaa
