/-
  No cell of these rows narrows 'for every input' (looked for: loops, veiled, ifaces, maps, wideKeys, modest, calm, conditions, laid).
  DERIVED. THE GIVEN ROWS OF THIS SEAT. 5 by the template 'for every input the law returns true; each argument reads behind the call as it read before'; 0 by the template 'total and deterministic' (their statements: YtdceegllpcepnaaTotals.lean).
  GIVEN WITH THE SEED: the statements are not yours to turn. If you find one false, say at which input.
  Laid BY PROGRAM, IN A SANDBOX (cutbox-rows.mjs): the forced cells as the released guide's own fill.sh prints them over the translation 48aa94c42c38c490… (all of the seat's roots in one cut). By AI agents, Wed Nov 11 2026. No macro, syntax, notation, axiom, sorry.
-/
import Derived.Test.YtdceegllpcepnaaChecked
import GoSem.Claim
import GoSem.ClaimJoined
import GoSem.ClaimMapViews
import Derived.JoinedTies
import Derived.KernelRfl
namespace Go.Proofs.Ytdceegllpcepnaa
/- THE CELL 'sum', in the pinned program and in every row, IS THE sha256 OF THE DUMP (.gsa) THAT YtdceegllpcepnaaProg.lean LOADS. Nothing in Lean hashes anything: it is a label: what it is worth is what the hold of that sum in a sandbox is worth. -/
noncomputable def Try.pinned : Pinned := { name := "ytdceegllpcepnaa", sum := "48aa94c42c38c49002635bbbf3fb62f5686d7476b9d6af4fdce12911b94a2c0c", checked := Try.checked }
namespace Rows
def none {H : Type} : Left H := { results := [], args := [] }

/-- 'blazonlaw09.ClashPairs': WHATEVER THE INPUT: true; the input reads as it did. -/
def clashPairsSpec : ChangeSpec := { name := "clashPairs", fn := fun _ => fun
  | [d1, d2] => { results := [.lit (.bool true)], args := [d1, d2] }
  | _ => none }
def clashPairsRow : OpenClaim := { program := "ytdceegllpcepnaa", sum := "48aa94c42c38c49002635bbbf3fb62f5686d7476b9d6af4fdce12911b94a2c0c", func := "blazon/blazonlaw09.ClashPairs", spec := "clashPairs", unfollowed := true, recurses := true, apart := false }
def ClashPairsSaid : Prop := clashPairsRow.holds Try.pinned (OpenSpec.ofChange clashPairsSpec)

/-- ITS FALSE NEIGHBOUR: 'it returns false'. Refute it at one input. -/
def clashPairsWrong : ChangeSpec := { name := "clashPairs", fn := fun _ => fun
  | [d1, d2] => { results := [.lit (.bool false)], args := [d1, d2] }
  | _ => none }
def ClashPairsWrongFalsely : Prop := clashPairsRow.holds Try.pinned (OpenSpec.ofChange clashPairsWrong)

/-- 'blazonlaw09.ClashWays': WHATEVER THE INPUT: true; the input reads as it did. -/
def clashWaysSpec : ChangeSpec := { name := "clashWays", fn := fun _ => fun
  | [d1, d2, d3] => { results := [.lit (.bool true)], args := [d1, d2, d3] }
  | _ => none }
def clashWaysRow : OpenClaim := { program := "ytdceegllpcepnaa", sum := "48aa94c42c38c49002635bbbf3fb62f5686d7476b9d6af4fdce12911b94a2c0c", func := "blazon/blazonlaw09.ClashWays", spec := "clashWays", unfollowed := true, recurses := true, apart := false }
def ClashWaysSaid : Prop := clashWaysRow.holds Try.pinned (OpenSpec.ofChange clashWaysSpec)

/-- ITS FALSE NEIGHBOUR: 'it returns false'. Refute it at one input. -/
def clashWaysWrong : ChangeSpec := { name := "clashWays", fn := fun _ => fun
  | [d1, d2, d3] => { results := [.lit (.bool false)], args := [d1, d2, d3] }
  | _ => none }
def ClashWaysWrongFalsely : Prop := clashWaysRow.holds Try.pinned (OpenSpec.ofChange clashWaysWrong)

/-- 'blazonlaw09.ClashBinds': WHATEVER THE INPUT: true; the input reads as it did. -/
def clashBindsSpec : ChangeSpec := { name := "clashBinds", fn := fun _ => fun
  | [d1, d2, d3, d4, d5] => { results := [.lit (.bool true)], args := [d1, d2, d3, d4, d5] }
  | _ => none }
def clashBindsRow : OpenClaim := { program := "ytdceegllpcepnaa", sum := "48aa94c42c38c49002635bbbf3fb62f5686d7476b9d6af4fdce12911b94a2c0c", func := "blazon/blazonlaw09.ClashBinds", spec := "clashBinds", unfollowed := true, recurses := true, apart := false }
def ClashBindsSaid : Prop := clashBindsRow.holds Try.pinned (OpenSpec.ofChange clashBindsSpec)

/-- ITS FALSE NEIGHBOUR: 'it returns false'. Refute it at one input. -/
def clashBindsWrong : ChangeSpec := { name := "clashBinds", fn := fun _ => fun
  | [d1, d2, d3, d4, d5] => { results := [.lit (.bool false)], args := [d1, d2, d3, d4, d5] }
  | _ => none }
def ClashBindsWrongFalsely : Prop := clashBindsRow.holds Try.pinned (OpenSpec.ofChange clashBindsWrong)

/-- 'blazonlaw09.ClashTrees': WHATEVER THE INPUT: true; the input reads as it did. -/
def clashTreesSpec : ChangeSpec := { name := "clashTrees", fn := fun _ => fun
  | [d1, d2, d3, d4] => { results := [.lit (.bool true)], args := [d1, d2, d3, d4] }
  | _ => none }
def clashTreesRow : OpenClaim := { program := "ytdceegllpcepnaa", sum := "48aa94c42c38c49002635bbbf3fb62f5686d7476b9d6af4fdce12911b94a2c0c", func := "blazon/blazonlaw09.ClashTrees", spec := "clashTrees", unfollowed := true, recurses := true, apart := false }
def ClashTreesSaid : Prop := clashTreesRow.holds Try.pinned (OpenSpec.ofChange clashTreesSpec)

/-- ITS FALSE NEIGHBOUR: 'it returns false'. Refute it at one input. -/
def clashTreesWrong : ChangeSpec := { name := "clashTrees", fn := fun _ => fun
  | [d1, d2, d3, d4] => { results := [.lit (.bool false)], args := [d1, d2, d3, d4] }
  | _ => none }
def ClashTreesWrongFalsely : Prop := clashTreesRow.holds Try.pinned (OpenSpec.ofChange clashTreesWrong)

/-- 'blazonlaw09.ClashRoots': WHATEVER THE INPUT: true; the input reads as it did. -/
def clashRootsSpec : ChangeSpec := { name := "clashRoots", fn := fun _ => fun
  | [d1, d2, d3, d4, d5] => { results := [.lit (.bool true)], args := [d1, d2, d3, d4, d5] }
  | _ => none }
def clashRootsRow : OpenClaim := { program := "ytdceegllpcepnaa", sum := "48aa94c42c38c49002635bbbf3fb62f5686d7476b9d6af4fdce12911b94a2c0c", func := "blazon/blazonlaw09.ClashRoots", spec := "clashRoots", unfollowed := true, recurses := true, apart := false }
def ClashRootsSaid : Prop := clashRootsRow.holds Try.pinned (OpenSpec.ofChange clashRootsSpec)

/-- ITS FALSE NEIGHBOUR: 'it returns false'. Refute it at one input. -/
def clashRootsWrong : ChangeSpec := { name := "clashRoots", fn := fun _ => fun
  | [d1, d2, d3, d4, d5] => { results := [.lit (.bool false)], args := [d1, d2, d3, d4, d5] }
  | _ => none }
def ClashRootsWrongFalsely : Prop := clashRootsRow.holds Try.pinned (OpenSpec.ofChange clashRootsWrong)

/- THE SECOND FORM. 'bulk': how many values and letters a reading holds, each counted each time it is reached (what is shared counts as often as it is met; a slice's spare places count too). A statement '..UptoSaid' is the law's where the arguments, and the package variables that the reading takes, are together of bulk at most 1048576: NARROWER than '..Said'. Prove '..Said' where nothing that the law and all that it calls make is longer than what came in: it says more and counts as full. Else prove '..UptoSaid'. A law counts once. -/
mutual
def uptoBulk {H : Type} : DataW H → Nat
  | .lit (.string bytes) => bytes.length + 1
  | .lit _ => 1
  | .nil => 1
  | .ptr d => uptoBulk d + 1
  | .slice elems spare => uptoBulkAll elems + uptoBulkAll spare + 1
  | .agg parts => uptoBulkAll parts + 1
  | .iface _ d => uptoBulk d + 1
  | .map entries => uptoBulkEntries entries + 1
  | .held _ => 1
def uptoBulkAll {H : Type} : List (DataW H) → Nat
  | [] => 0
  | d :: r => uptoBulk d + uptoBulkAll r
def uptoBulkEntries {H : Type} : List (Lit × DataW H) → Nat
  | [] => 0
  | x :: r => uptoBulkEntry x + uptoBulkEntries r
def uptoBulkEntry {H : Type} : Lit × DataW H → Nat
  | (.string bytes, d) => bytes.length + uptoBulk d + 1
  | (_, d) => uptoBulk d + 1
 end
def uptoSmall : (H : Type) → List (DataW H) → Bool := fun _ ds => decide (uptoBulkAll ds ≤ 1048576)
def OpenSpec.upto (s : _root_.Go.ChangeSpec) : _root_.Go.OpenSpec := { _root_.Go.OpenSpec.ofChange s with cond := some uptoSmall }

/-- 'blazonlaw09.ClashPairs', WHERE WHAT IT READS IS OF BULK AT MOST 1048576: true; the input reads as it did. -/
def clashPairsUptoRow : OpenClaim := { program := "ytdceegllpcepnaa", sum := "48aa94c42c38c49002635bbbf3fb62f5686d7476b9d6af4fdce12911b94a2c0c", func := "blazon/blazonlaw09.ClashPairs", spec := "clashPairs", unfollowed := true, recurses := true, apart := false, narrowed := true }
def ClashPairsUptoSaid : Prop := clashPairsUptoRow.holds Try.pinned (OpenSpec.upto clashPairsSpec)

/-- 'blazonlaw09.ClashWays', WHERE WHAT IT READS IS OF BULK AT MOST 1048576: true; the input reads as it did. -/
def clashWaysUptoRow : OpenClaim := { program := "ytdceegllpcepnaa", sum := "48aa94c42c38c49002635bbbf3fb62f5686d7476b9d6af4fdce12911b94a2c0c", func := "blazon/blazonlaw09.ClashWays", spec := "clashWays", unfollowed := true, recurses := true, apart := false, narrowed := true }
def ClashWaysUptoSaid : Prop := clashWaysUptoRow.holds Try.pinned (OpenSpec.upto clashWaysSpec)

/-- 'blazonlaw09.ClashBinds', WHERE WHAT IT READS IS OF BULK AT MOST 1048576: true; the input reads as it did. -/
def clashBindsUptoRow : OpenClaim := { program := "ytdceegllpcepnaa", sum := "48aa94c42c38c49002635bbbf3fb62f5686d7476b9d6af4fdce12911b94a2c0c", func := "blazon/blazonlaw09.ClashBinds", spec := "clashBinds", unfollowed := true, recurses := true, apart := false, narrowed := true }
def ClashBindsUptoSaid : Prop := clashBindsUptoRow.holds Try.pinned (OpenSpec.upto clashBindsSpec)

/-- 'blazonlaw09.ClashTrees', WHERE WHAT IT READS IS OF BULK AT MOST 1048576: true; the input reads as it did. -/
def clashTreesUptoRow : OpenClaim := { program := "ytdceegllpcepnaa", sum := "48aa94c42c38c49002635bbbf3fb62f5686d7476b9d6af4fdce12911b94a2c0c", func := "blazon/blazonlaw09.ClashTrees", spec := "clashTrees", unfollowed := true, recurses := true, apart := false, narrowed := true }
def ClashTreesUptoSaid : Prop := clashTreesUptoRow.holds Try.pinned (OpenSpec.upto clashTreesSpec)

/-- 'blazonlaw09.ClashRoots', WHERE WHAT IT READS IS OF BULK AT MOST 1048576: true; the input reads as it did. -/
def clashRootsUptoRow : OpenClaim := { program := "ytdceegllpcepnaa", sum := "48aa94c42c38c49002635bbbf3fb62f5686d7476b9d6af4fdce12911b94a2c0c", func := "blazon/blazonlaw09.ClashRoots", spec := "clashRoots", unfollowed := true, recurses := true, apart := false, narrowed := true }
def ClashRootsUptoSaid : Prop := clashRootsUptoRow.holds Try.pinned (OpenSpec.upto clashRootsSpec)

end Rows
end Go.Proofs.Ytdceegllpcepnaa
