/-
  No cell of these rows narrows 'for every input' (looked for: loops, veiled, ifaces, maps, wideKeys, modest, calm, conditions, laid).
  DERIVED. THE GIVEN ROWS OF THIS SEAT. 6 by the template 'for every input the law returns true; each argument reads behind the call as it read before'; 0 by the template 'total and deterministic' (their statements: YtlkibgkkmmoalaaTotals.lean).
  GIVEN WITH THE SEED: the statements are not yours to turn. If you find one false, say at which input.
  Laid BY PROGRAM, IN A SANDBOX (cutbox-rows.mjs): the forced cells as the released guide's own fill.sh prints them over the translation 5b873c7b9dac4078… (all of the seat's roots in one cut). By AI agents, Wed Nov 11 2026. No macro, syntax, notation, axiom, sorry.
-/
import Derived.Test.YtlkibgkkmmoalaaChecked
import GoSem.Claim
import GoSem.ClaimJoined
import GoSem.ClaimMapViews
import Derived.JoinedTies
import Derived.KernelRfl
namespace Go.Proofs.Ytlkibgkkmmoalaa
/- THE CELL 'sum', in the pinned program and in every row, IS THE sha256 OF THE DUMP (.gsa) THAT YtlkibgkkmmoalaaProg.lean LOADS. Nothing in Lean hashes anything: it is a label: what it is worth is what the hold of that sum in a sandbox is worth. -/
noncomputable def Try.pinned : Pinned := { name := "ytlkibgkkmmoalaa", sum := "5b873c7b9dac4078a06a21d5c29322517757778bac47b62941e0b4ce54ae901e", checked := Try.checked }
namespace Rows
def none {H : Type} : Left H := { results := [], args := [] }

/-- 'blazonlaw11.ChainFollows': WHATEVER THE INPUT: true; the input reads as it did. -/
def chainFollowsSpec : ChangeSpec := { name := "chainFollows", fn := fun _ => fun
  | [d1, d2] => { results := [.lit (.bool true)], args := [d1, d2] }
  | _ => none }
def chainFollowsRow : OpenClaim := { program := "ytlkibgkkmmoalaa", sum := "5b873c7b9dac4078a06a21d5c29322517757778bac47b62941e0b4ce54ae901e", func := "blazon/blazonlaw11.ChainFollows", spec := "chainFollows", unfollowed := true, recurses := true, apart := false }
def ChainFollowsSaid : Prop := chainFollowsRow.holds Try.pinned (OpenSpec.ofChange chainFollowsSpec)

/-- ITS FALSE NEIGHBOUR: 'it returns false'. Refute it at one input. -/
def chainFollowsWrong : ChangeSpec := { name := "chainFollows", fn := fun _ => fun
  | [d1, d2] => { results := [.lit (.bool false)], args := [d1, d2] }
  | _ => none }
def ChainFollowsWrongFalsely : Prop := chainFollowsRow.holds Try.pinned (OpenSpec.ofChange chainFollowsWrong)

/-- 'blazonlaw11.ChainWalks': WHATEVER THE INPUT: true; the input reads as it did. -/
def chainWalksSpec : ChangeSpec := { name := "chainWalks", fn := fun _ => fun
  | [d1, d2] => { results := [.lit (.bool true)], args := [d1, d2] }
  | _ => none }
def chainWalksRow : OpenClaim := { program := "ytlkibgkkmmoalaa", sum := "5b873c7b9dac4078a06a21d5c29322517757778bac47b62941e0b4ce54ae901e", func := "blazon/blazonlaw11.ChainWalks", spec := "chainWalks", unfollowed := true, recurses := true, apart := false }
def ChainWalksSaid : Prop := chainWalksRow.holds Try.pinned (OpenSpec.ofChange chainWalksSpec)

/-- ITS FALSE NEIGHBOUR: 'it returns false'. Refute it at one input. -/
def chainWalksWrong : ChangeSpec := { name := "chainWalks", fn := fun _ => fun
  | [d1, d2] => { results := [.lit (.bool false)], args := [d1, d2] }
  | _ => none }
def ChainWalksWrongFalsely : Prop := chainWalksRow.holds Try.pinned (OpenSpec.ofChange chainWalksWrong)

/-- 'blazonlaw11.ChainOne': WHATEVER THE INPUT: true; the input reads as it did. -/
def chainOneSpec : ChangeSpec := { name := "chainOne", fn := fun _ => fun
  | [d1, d2, d3] => { results := [.lit (.bool true)], args := [d1, d2, d3] }
  | _ => none }
def chainOneRow : OpenClaim := { program := "ytlkibgkkmmoalaa", sum := "5b873c7b9dac4078a06a21d5c29322517757778bac47b62941e0b4ce54ae901e", func := "blazon/blazonlaw11.ChainOne", spec := "chainOne", unfollowed := true, recurses := true, apart := false }
def ChainOneSaid : Prop := chainOneRow.holds Try.pinned (OpenSpec.ofChange chainOneSpec)

/-- ITS FALSE NEIGHBOUR: 'it returns false'. Refute it at one input. -/
def chainOneWrong : ChangeSpec := { name := "chainOne", fn := fun _ => fun
  | [d1, d2, d3] => { results := [.lit (.bool false)], args := [d1, d2, d3] }
  | _ => none }
def ChainOneWrongFalsely : Prop := chainOneRow.holds Try.pinned (OpenSpec.ofChange chainOneWrong)

/-- 'blazonlaw11.ChainPieces': WHATEVER THE INPUT: true; the input reads as it did. -/
def chainPiecesSpec : ChangeSpec := { name := "chainPieces", fn := fun _ => fun
  | [d1, d2, d3] => { results := [.lit (.bool true)], args := [d1, d2, d3] }
  | _ => none }
def chainPiecesRow : OpenClaim := { program := "ytlkibgkkmmoalaa", sum := "5b873c7b9dac4078a06a21d5c29322517757778bac47b62941e0b4ce54ae901e", func := "blazon/blazonlaw11.ChainPieces", spec := "chainPieces", unfollowed := true, recurses := true, apart := false }
def ChainPiecesSaid : Prop := chainPiecesRow.holds Try.pinned (OpenSpec.ofChange chainPiecesSpec)

/-- ITS FALSE NEIGHBOUR: 'it returns false'. Refute it at one input. -/
def chainPiecesWrong : ChangeSpec := { name := "chainPieces", fn := fun _ => fun
  | [d1, d2, d3] => { results := [.lit (.bool false)], args := [d1, d2, d3] }
  | _ => none }
def ChainPiecesWrongFalsely : Prop := chainPiecesRow.holds Try.pinned (OpenSpec.ofChange chainPiecesWrong)

/-- 'blazonlaw11.ChainSeals': WHATEVER THE INPUT: true; the input reads as it did. -/
def chainSealsSpec : ChangeSpec := { name := "chainSeals", fn := fun _ => fun
  | [d1, d2, d3] => { results := [.lit (.bool true)], args := [d1, d2, d3] }
  | _ => none }
def chainSealsRow : OpenClaim := { program := "ytlkibgkkmmoalaa", sum := "5b873c7b9dac4078a06a21d5c29322517757778bac47b62941e0b4ce54ae901e", func := "blazon/blazonlaw11.ChainSeals", spec := "chainSeals", unfollowed := true, recurses := true, apart := false }
def ChainSealsSaid : Prop := chainSealsRow.holds Try.pinned (OpenSpec.ofChange chainSealsSpec)

/-- ITS FALSE NEIGHBOUR: 'it returns false'. Refute it at one input. -/
def chainSealsWrong : ChangeSpec := { name := "chainSeals", fn := fun _ => fun
  | [d1, d2, d3] => { results := [.lit (.bool false)], args := [d1, d2, d3] }
  | _ => none }
def ChainSealsWrongFalsely : Prop := chainSealsRow.holds Try.pinned (OpenSpec.ofChange chainSealsWrong)

/-- 'blazonlaw11.ChainHonest': WHATEVER THE INPUT: true; the input reads as it did. -/
def chainHonestSpec : ChangeSpec := { name := "chainHonest", fn := fun _ => fun
  | [d1, d2] => { results := [.lit (.bool true)], args := [d1, d2] }
  | _ => none }
def chainHonestRow : OpenClaim := { program := "ytlkibgkkmmoalaa", sum := "5b873c7b9dac4078a06a21d5c29322517757778bac47b62941e0b4ce54ae901e", func := "blazon/blazonlaw11.ChainHonest", spec := "chainHonest", unfollowed := true, recurses := true, apart := false }
def ChainHonestSaid : Prop := chainHonestRow.holds Try.pinned (OpenSpec.ofChange chainHonestSpec)

/-- ITS FALSE NEIGHBOUR: 'it returns false'. Refute it at one input. -/
def chainHonestWrong : ChangeSpec := { name := "chainHonest", fn := fun _ => fun
  | [d1, d2] => { results := [.lit (.bool false)], args := [d1, d2] }
  | _ => none }
def ChainHonestWrongFalsely : Prop := chainHonestRow.holds Try.pinned (OpenSpec.ofChange chainHonestWrong)

/- THE SECOND FORM. 'bulk': how many values and letters a reading holds, each counted each time it is reached (what is shared counts as often as it is met; a slice's spare places count too). A statement '..UptoSaid' is the law's where the arguments, and the package variables that the reading takes, are together of bulk at most 1048576: NARROWER than '..Said'. Prove '..Said' where nothing that the law and all that it calls make is longer than what came in: it says more and counts as full. Else prove '..UptoSaid'. A law counts once. -/
mutual
def uptoBulk {H : Type} : DataW H → Nat
  | .lit (.string bytes) => bytes.length + 1
  | .lit _ => 1
  | .nil => 1
  | .ptr d => uptoBulk d + 1
  | .slice elems spare => uptoBulkAll elems + uptoBulkAll spare + 1
  | .agg parts => uptoBulkAll parts + 1
  | .iface _ d => uptoBulk d + 1
  | .map entries => uptoBulkEntries entries + 1
  | .held _ => 1
def uptoBulkAll {H : Type} : List (DataW H) → Nat
  | [] => 0
  | d :: r => uptoBulk d + uptoBulkAll r
def uptoBulkEntries {H : Type} : List (Lit × DataW H) → Nat
  | [] => 0
  | x :: r => uptoBulkEntry x + uptoBulkEntries r
def uptoBulkEntry {H : Type} : Lit × DataW H → Nat
  | (.string bytes, d) => bytes.length + uptoBulk d + 1
  | (_, d) => uptoBulk d + 1
 end
def uptoSmall : (H : Type) → List (DataW H) → Bool := fun _ ds => decide (uptoBulkAll ds ≤ 1048576)
def OpenSpec.upto (s : _root_.Go.ChangeSpec) : _root_.Go.OpenSpec := { _root_.Go.OpenSpec.ofChange s with cond := some uptoSmall }

/-- 'blazonlaw11.ChainFollows', WHERE WHAT IT READS IS OF BULK AT MOST 1048576: true; the input reads as it did. -/
def chainFollowsUptoRow : OpenClaim := { program := "ytlkibgkkmmoalaa", sum := "5b873c7b9dac4078a06a21d5c29322517757778bac47b62941e0b4ce54ae901e", func := "blazon/blazonlaw11.ChainFollows", spec := "chainFollows", unfollowed := true, recurses := true, apart := false, narrowed := true }
def ChainFollowsUptoSaid : Prop := chainFollowsUptoRow.holds Try.pinned (OpenSpec.upto chainFollowsSpec)

/-- 'blazonlaw11.ChainWalks', WHERE WHAT IT READS IS OF BULK AT MOST 1048576: true; the input reads as it did. -/
def chainWalksUptoRow : OpenClaim := { program := "ytlkibgkkmmoalaa", sum := "5b873c7b9dac4078a06a21d5c29322517757778bac47b62941e0b4ce54ae901e", func := "blazon/blazonlaw11.ChainWalks", spec := "chainWalks", unfollowed := true, recurses := true, apart := false, narrowed := true }
def ChainWalksUptoSaid : Prop := chainWalksUptoRow.holds Try.pinned (OpenSpec.upto chainWalksSpec)

/-- 'blazonlaw11.ChainOne', WHERE WHAT IT READS IS OF BULK AT MOST 1048576: true; the input reads as it did. -/
def chainOneUptoRow : OpenClaim := { program := "ytlkibgkkmmoalaa", sum := "5b873c7b9dac4078a06a21d5c29322517757778bac47b62941e0b4ce54ae901e", func := "blazon/blazonlaw11.ChainOne", spec := "chainOne", unfollowed := true, recurses := true, apart := false, narrowed := true }
def ChainOneUptoSaid : Prop := chainOneUptoRow.holds Try.pinned (OpenSpec.upto chainOneSpec)

/-- 'blazonlaw11.ChainPieces', WHERE WHAT IT READS IS OF BULK AT MOST 1048576: true; the input reads as it did. -/
def chainPiecesUptoRow : OpenClaim := { program := "ytlkibgkkmmoalaa", sum := "5b873c7b9dac4078a06a21d5c29322517757778bac47b62941e0b4ce54ae901e", func := "blazon/blazonlaw11.ChainPieces", spec := "chainPieces", unfollowed := true, recurses := true, apart := false, narrowed := true }
def ChainPiecesUptoSaid : Prop := chainPiecesUptoRow.holds Try.pinned (OpenSpec.upto chainPiecesSpec)

/-- 'blazonlaw11.ChainSeals', WHERE WHAT IT READS IS OF BULK AT MOST 1048576: true; the input reads as it did. -/
def chainSealsUptoRow : OpenClaim := { program := "ytlkibgkkmmoalaa", sum := "5b873c7b9dac4078a06a21d5c29322517757778bac47b62941e0b4ce54ae901e", func := "blazon/blazonlaw11.ChainSeals", spec := "chainSeals", unfollowed := true, recurses := true, apart := false, narrowed := true }
def ChainSealsUptoSaid : Prop := chainSealsUptoRow.holds Try.pinned (OpenSpec.upto chainSealsSpec)

/-- 'blazonlaw11.ChainHonest', WHERE WHAT IT READS IS OF BULK AT MOST 1048576: true; the input reads as it did. -/
def chainHonestUptoRow : OpenClaim := { program := "ytlkibgkkmmoalaa", sum := "5b873c7b9dac4078a06a21d5c29322517757778bac47b62941e0b4ce54ae901e", func := "blazon/blazonlaw11.ChainHonest", spec := "chainHonest", unfollowed := true, recurses := true, apart := false, narrowed := true }
def ChainHonestUptoSaid : Prop := chainHonestUptoRow.holds Try.pinned (OpenSpec.upto chainHonestSpec)

end Rows
end Go.Proofs.Ytlkibgkkmmoalaa
