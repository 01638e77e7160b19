/-
  No cell of these rows narrows 'for every input' (looked for: loops, veiled, ifaces, maps, wideKeys, modest, calm, conditions, laid).
  DERIVED. THE GIVEN ROWS OF THIS SEAT. 6 by the template 'for every input the law returns true; each argument reads behind the call as it read before'; 0 by the template 'total and deterministic' (their statements: YtjgkngjeniameaaTotals.lean).
  GIVEN WITH THE SEED: the statements are not yours to turn. If you find one false, say at which input.
  Laid BY PROGRAM, IN A SANDBOX (cutbox-rows.mjs): the forced cells as the released guide's own fill.sh prints them over the translation c6052e7251ee0fb5… (all of the seat's roots in one cut). By AI agents, Wed Nov 11 2026. No macro, syntax, notation, axiom, sorry.
-/
import Derived.Test.YtjgkngjeniameaaChecked
import GoSem.Claim
import GoSem.ClaimJoined
import GoSem.ClaimMapViews
import Derived.JoinedTies
import Derived.KernelRfl
namespace Go.Proofs.Ytjgkngjeniameaa
/- THE CELL 'sum', in the pinned program and in every row, IS THE sha256 OF THE DUMP (.gsa) THAT YtjgkngjeniameaaProg.lean LOADS. Nothing in Lean hashes anything: it is a label: what it is worth is what the hold of that sum in a sandbox is worth. -/
noncomputable def Try.pinned : Pinned := { name := "ytjgkngjeniameaa", sum := "c6052e7251ee0fb538130de80376dc28d2c8453f0ebd03d765062abb33e9ab60", checked := Try.checked }
namespace Rows
def none {H : Type} : Left H := { results := [], args := [] }

/-- 'blazonlaw24.GossipHears': WHATEVER THE INPUT: true; the input reads as it did. -/
def gossipHearsSpec : ChangeSpec := { name := "gossipHears", fn := fun _ => fun
  | [d1, d2] => { results := [.lit (.bool true)], args := [d1, d2] }
  | _ => none }
def gossipHearsRow : OpenClaim := { program := "ytjgkngjeniameaa", sum := "c6052e7251ee0fb538130de80376dc28d2c8453f0ebd03d765062abb33e9ab60", func := "blazon/blazonlaw24.GossipHears", spec := "gossipHears", unfollowed := true, recurses := true, apart := false }
def GossipHearsSaid : Prop := gossipHearsRow.holds Try.pinned (OpenSpec.ofChange gossipHearsSpec)

/-- ITS FALSE NEIGHBOUR: 'it returns false'. Refute it at one input. -/
def gossipHearsWrong : ChangeSpec := { name := "gossipHears", fn := fun _ => fun
  | [d1, d2] => { results := [.lit (.bool false)], args := [d1, d2] }
  | _ => none }
def GossipHearsWrongFalsely : Prop := gossipHearsRow.holds Try.pinned (OpenSpec.ofChange gossipHearsWrong)

/-- 'blazonlaw24.GossipBlames': WHATEVER THE INPUT: true; the input reads as it did. -/
def gossipBlamesSpec : ChangeSpec := { name := "gossipBlames", fn := fun _ => fun
  | [d1, d2] => { results := [.lit (.bool true)], args := [d1, d2] }
  | _ => none }
def gossipBlamesRow : OpenClaim := { program := "ytjgkngjeniameaa", sum := "c6052e7251ee0fb538130de80376dc28d2c8453f0ebd03d765062abb33e9ab60", func := "blazon/blazonlaw24.GossipBlames", spec := "gossipBlames", unfollowed := true, recurses := true, apart := false }
def GossipBlamesSaid : Prop := gossipBlamesRow.holds Try.pinned (OpenSpec.ofChange gossipBlamesSpec)

/-- ITS FALSE NEIGHBOUR: 'it returns false'. Refute it at one input. -/
def gossipBlamesWrong : ChangeSpec := { name := "gossipBlames", fn := fun _ => fun
  | [d1, d2] => { results := [.lit (.bool false)], args := [d1, d2] }
  | _ => none }
def GossipBlamesWrongFalsely : Prop := gossipBlamesRow.holds Try.pinned (OpenSpec.ofChange gossipBlamesWrong)

/-- 'blazonlaw24.GossipCalm': WHATEVER THE INPUT: true; the input reads as it did. -/
def gossipCalmSpec : ChangeSpec := { name := "gossipCalm", fn := fun _ => fun
  | [d1, d2, d3] => { results := [.lit (.bool true)], args := [d1, d2, d3] }
  | _ => none }
def gossipCalmRow : OpenClaim := { program := "ytjgkngjeniameaa", sum := "c6052e7251ee0fb538130de80376dc28d2c8453f0ebd03d765062abb33e9ab60", func := "blazon/blazonlaw24.GossipCalm", spec := "gossipCalm", unfollowed := true, recurses := true, apart := false }
def GossipCalmSaid : Prop := gossipCalmRow.holds Try.pinned (OpenSpec.ofChange gossipCalmSpec)

/-- ITS FALSE NEIGHBOUR: 'it returns false'. Refute it at one input. -/
def gossipCalmWrong : ChangeSpec := { name := "gossipCalm", fn := fun _ => fun
  | [d1, d2, d3] => { results := [.lit (.bool false)], args := [d1, d2, d3] }
  | _ => none }
def GossipCalmWrongFalsely : Prop := gossipCalmRow.holds Try.pinned (OpenSpec.ofChange gossipCalmWrong)

/-- 'blazonlaw24.GossipAgain': WHATEVER THE INPUT: true; the input reads as it did. -/
def gossipAgainSpec : ChangeSpec := { name := "gossipAgain", fn := fun _ => fun
  | [d1, d2, d3] => { results := [.lit (.bool true)], args := [d1, d2, d3] }
  | _ => none }
def gossipAgainRow : OpenClaim := { program := "ytjgkngjeniameaa", sum := "c6052e7251ee0fb538130de80376dc28d2c8453f0ebd03d765062abb33e9ab60", func := "blazon/blazonlaw24.GossipAgain", spec := "gossipAgain", unfollowed := true, recurses := true, apart := false }
def GossipAgainSaid : Prop := gossipAgainRow.holds Try.pinned (OpenSpec.ofChange gossipAgainSpec)

/-- ITS FALSE NEIGHBOUR: 'it returns false'. Refute it at one input. -/
def gossipAgainWrong : ChangeSpec := { name := "gossipAgain", fn := fun _ => fun
  | [d1, d2, d3] => { results := [.lit (.bool false)], args := [d1, d2, d3] }
  | _ => none }
def GossipAgainWrongFalsely : Prop := gossipAgainRow.holds Try.pinned (OpenSpec.ofChange gossipAgainWrong)

/-- 'blazonlaw24.GossipTells': WHATEVER THE INPUT: true; the input reads as it did. -/
def gossipTellsSpec : ChangeSpec := { name := "gossipTells", fn := fun _ => fun
  | [d1, d2] => { results := [.lit (.bool true)], args := [d1, d2] }
  | _ => none }
def gossipTellsRow : OpenClaim := { program := "ytjgkngjeniameaa", sum := "c6052e7251ee0fb538130de80376dc28d2c8453f0ebd03d765062abb33e9ab60", func := "blazon/blazonlaw24.GossipTells", spec := "gossipTells", unfollowed := true, recurses := true, apart := false }
def GossipTellsSaid : Prop := gossipTellsRow.holds Try.pinned (OpenSpec.ofChange gossipTellsSpec)

/-- ITS FALSE NEIGHBOUR: 'it returns false'. Refute it at one input. -/
def gossipTellsWrong : ChangeSpec := { name := "gossipTells", fn := fun _ => fun
  | [d1, d2] => { results := [.lit (.bool false)], args := [d1, d2] }
  | _ => none }
def GossipTellsWrongFalsely : Prop := gossipTellsRow.holds Try.pinned (OpenSpec.ofChange gossipTellsWrong)

/-- 'blazonlaw24.GossipFinds': WHATEVER THE INPUT: true; the input reads as it did. -/
def gossipFindsSpec : ChangeSpec := { name := "gossipFinds", fn := fun _ => fun
  | [d1, d2, d3] => { results := [.lit (.bool true)], args := [d1, d2, d3] }
  | _ => none }
def gossipFindsRow : OpenClaim := { program := "ytjgkngjeniameaa", sum := "c6052e7251ee0fb538130de80376dc28d2c8453f0ebd03d765062abb33e9ab60", func := "blazon/blazonlaw24.GossipFinds", spec := "gossipFinds", unfollowed := true, recurses := true, apart := false }
def GossipFindsSaid : Prop := gossipFindsRow.holds Try.pinned (OpenSpec.ofChange gossipFindsSpec)

/-- ITS FALSE NEIGHBOUR: 'it returns false'. Refute it at one input. -/
def gossipFindsWrong : ChangeSpec := { name := "gossipFinds", fn := fun _ => fun
  | [d1, d2, d3] => { results := [.lit (.bool false)], args := [d1, d2, d3] }
  | _ => none }
def GossipFindsWrongFalsely : Prop := gossipFindsRow.holds Try.pinned (OpenSpec.ofChange gossipFindsWrong)

/- THE SECOND FORM. 'bulk': how many values and letters a reading holds, each counted each time it is reached (what is shared counts as often as it is met; a slice's spare places count too). A statement '..UptoSaid' is the law's where the arguments, and the package variables that the reading takes, are together of bulk at most 1048576: NARROWER than '..Said'. Prove '..Said' where nothing that the law and all that it calls make is longer than what came in: it says more and counts as full. Else prove '..UptoSaid'. A law counts once. -/
mutual
def uptoBulk {H : Type} : DataW H → Nat
  | .lit (.string bytes) => bytes.length + 1
  | .lit _ => 1
  | .nil => 1
  | .ptr d => uptoBulk d + 1
  | .slice elems spare => uptoBulkAll elems + uptoBulkAll spare + 1
  | .agg parts => uptoBulkAll parts + 1
  | .iface _ d => uptoBulk d + 1
  | .map entries => uptoBulkEntries entries + 1
  | .held _ => 1
def uptoBulkAll {H : Type} : List (DataW H) → Nat
  | [] => 0
  | d :: r => uptoBulk d + uptoBulkAll r
def uptoBulkEntries {H : Type} : List (Lit × DataW H) → Nat
  | [] => 0
  | x :: r => uptoBulkEntry x + uptoBulkEntries r
def uptoBulkEntry {H : Type} : Lit × DataW H → Nat
  | (.string bytes, d) => bytes.length + uptoBulk d + 1
  | (_, d) => uptoBulk d + 1
 end
def uptoSmall : (H : Type) → List (DataW H) → Bool := fun _ ds => decide (uptoBulkAll ds ≤ 1048576)
def OpenSpec.upto (s : _root_.Go.ChangeSpec) : _root_.Go.OpenSpec := { _root_.Go.OpenSpec.ofChange s with cond := some uptoSmall }

/-- 'blazonlaw24.GossipHears', WHERE WHAT IT READS IS OF BULK AT MOST 1048576: true; the input reads as it did. -/
def gossipHearsUptoRow : OpenClaim := { program := "ytjgkngjeniameaa", sum := "c6052e7251ee0fb538130de80376dc28d2c8453f0ebd03d765062abb33e9ab60", func := "blazon/blazonlaw24.GossipHears", spec := "gossipHears", unfollowed := true, recurses := true, apart := false, narrowed := true }
def GossipHearsUptoSaid : Prop := gossipHearsUptoRow.holds Try.pinned (OpenSpec.upto gossipHearsSpec)

/-- 'blazonlaw24.GossipBlames', WHERE WHAT IT READS IS OF BULK AT MOST 1048576: true; the input reads as it did. -/
def gossipBlamesUptoRow : OpenClaim := { program := "ytjgkngjeniameaa", sum := "c6052e7251ee0fb538130de80376dc28d2c8453f0ebd03d765062abb33e9ab60", func := "blazon/blazonlaw24.GossipBlames", spec := "gossipBlames", unfollowed := true, recurses := true, apart := false, narrowed := true }
def GossipBlamesUptoSaid : Prop := gossipBlamesUptoRow.holds Try.pinned (OpenSpec.upto gossipBlamesSpec)

/-- 'blazonlaw24.GossipCalm', WHERE WHAT IT READS IS OF BULK AT MOST 1048576: true; the input reads as it did. -/
def gossipCalmUptoRow : OpenClaim := { program := "ytjgkngjeniameaa", sum := "c6052e7251ee0fb538130de80376dc28d2c8453f0ebd03d765062abb33e9ab60", func := "blazon/blazonlaw24.GossipCalm", spec := "gossipCalm", unfollowed := true, recurses := true, apart := false, narrowed := true }
def GossipCalmUptoSaid : Prop := gossipCalmUptoRow.holds Try.pinned (OpenSpec.upto gossipCalmSpec)

/-- 'blazonlaw24.GossipAgain', WHERE WHAT IT READS IS OF BULK AT MOST 1048576: true; the input reads as it did. -/
def gossipAgainUptoRow : OpenClaim := { program := "ytjgkngjeniameaa", sum := "c6052e7251ee0fb538130de80376dc28d2c8453f0ebd03d765062abb33e9ab60", func := "blazon/blazonlaw24.GossipAgain", spec := "gossipAgain", unfollowed := true, recurses := true, apart := false, narrowed := true }
def GossipAgainUptoSaid : Prop := gossipAgainUptoRow.holds Try.pinned (OpenSpec.upto gossipAgainSpec)

/-- 'blazonlaw24.GossipTells', WHERE WHAT IT READS IS OF BULK AT MOST 1048576: true; the input reads as it did. -/
def gossipTellsUptoRow : OpenClaim := { program := "ytjgkngjeniameaa", sum := "c6052e7251ee0fb538130de80376dc28d2c8453f0ebd03d765062abb33e9ab60", func := "blazon/blazonlaw24.GossipTells", spec := "gossipTells", unfollowed := true, recurses := true, apart := false, narrowed := true }
def GossipTellsUptoSaid : Prop := gossipTellsUptoRow.holds Try.pinned (OpenSpec.upto gossipTellsSpec)

/-- 'blazonlaw24.GossipFinds', WHERE WHAT IT READS IS OF BULK AT MOST 1048576: true; the input reads as it did. -/
def gossipFindsUptoRow : OpenClaim := { program := "ytjgkngjeniameaa", sum := "c6052e7251ee0fb538130de80376dc28d2c8453f0ebd03d765062abb33e9ab60", func := "blazon/blazonlaw24.GossipFinds", spec := "gossipFinds", unfollowed := true, recurses := true, apart := false, narrowed := true }
def GossipFindsUptoSaid : Prop := gossipFindsUptoRow.holds Try.pinned (OpenSpec.upto gossipFindsSpec)

end Rows
end Go.Proofs.Ytjgkngjeniameaa
