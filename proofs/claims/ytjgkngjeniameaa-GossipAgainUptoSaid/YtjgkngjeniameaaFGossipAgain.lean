/-
Proved: blazonlaw24.GossipAgain returns true for any peer, signed roots and bytes whose bulk is at most 1048576, and each argument reads behind the call as it read before.
-/
import Derived.Test.YtjgkngjeniameaaJ1
import Derived.Test.YtjgkngjeniameaaJ2
import Derived.Test.YtjgkngjeniameaaJ3
import Derived.Test.YtjgkngjeniameaaJ4
import Derived.Test.YtjgkngjeniameaaJ5
import Derived.Test.YtjgkngjeniameaaJ6
import Derived.Test.YtjgkngjeniameaaJ7
import Derived.Test.YtjgkngjeniameaaJ8
import Derived.Test.YtjgkngjeniameaaJ9
import Derived.Test.YtjgkngjeniameaaJ10
import Derived.Test.YtjgkngjeniameaaJ11
import Derived.Test.YtjgkngjeniameaaJ12
import Derived.Test.YtjgkngjeniameaaJ13
import Derived.Test.YtjgkngjeniameaaRows
import Derived.OpenShut
import Derived.JoinedCond
set_option linter.unusedSimpArgs false
set_option linter.unusedVariables false
namespace Go.Proofs.Ytjgkngjeniameaa
open Go.ChangeShapes Go.WideShapes Go.ChangeAt Go.RowKit Go.Sym

theorem Try.own : ownKnob Try.prog.godebug = none := by kernel_rfl
theorem Try.laidOut : laidOutB Try.prog = true := by kernel_rfl

set_option maxRecDepth 100000 in
theorem gossipAgain_lifted (os : Os) (started : os.Started) (H : Type) (enc : TypeId × Value → H) (F : Stop.Interp) :
    ReturnsInHanded {} Try.checked os 6 .any ((Rows.OpenSpec.upto Rows.gossipAgainSpec).pre6 enc Try.prog Try.f6 Rows.gossipAgainUptoRow.domain false) (((Rows.OpenSpec.upto Rows.gossipAgainSpec).at F).post enc Try.prog Try.f6 false true false false) := by
  refine returnsInHanded_of_cond (C := Try.checked) (s := Rows.OpenSpec.upto Rows.gossipAgainSpec) (k := Rows.uptoSmall) rfl Try.own started (by kernel_rfl) Try.func6
    (OpenSpec.witness (enc := enc) (C := Try.checked) (s := Rows.OpenSpec.upto Rows.gossipAgainSpec) (k := Rows.uptoSmall) rfl false ⟨#[], #[.agg (Array.replicate 32 (.int .u8 0) ++ #[.slice none 0 0, .bool false] ++ #[.slice none 0 0] ++ #[.int .u64 0] ++ Array.replicate 96 (.int .u8 0) ++ #[.slice none 0 0] ++ #[.int .u64 0] ++ Array.replicate 96 (.int .u8 0) ++ #[.slice none 0 0]), .slice none 0 0, .slice none 0 0], []⟩ 8 (by kernel_rfl) (by kernel_rfl) (by kernel_rfl)
      (x := ([.agg [.agg (List.replicate 32 (.lit (.int .u8 0))), .nil, .lit (.bool false), .agg [.nil, .agg [.agg [.lit (.int .u64 0), .agg (List.replicate 32 (.lit (.int .u8 0))), .agg (List.replicate 32 (.lit (.int .u8 0))), .agg (List.replicate 32 (.lit (.int .u8 0)))], .nil], .agg [.agg [.lit (.int .u64 0), .agg (List.replicate 32 (.lit (.int .u8 0))), .agg (List.replicate 32 (.lit (.int .u8 0))), .agg (List.replicate 32 (.lit (.int .u8 0)))], .nil]]], .nil, .nil], [], [])) (by kernel_rfl) rfl (by kernel_rfl)) ?_
  intro W base args ds gs before hval hW _ hk _
  refine law_calls (s := Rows.gossipAgainSpec) (tb := 4) 8 hval hW rfl (fun hl => ?_) rfl rfl Try.laidOut (by kernel_rfl) (by kernel_rfl) fun xs hok hrel => ?_
  · obtain ⟨a, b, c, rfl⟩ := len3 (hl.trans (show Try.f6.params.size = 3 by kernel_rfl))
    exact ⟨rfl, rfl, rfl⟩
  · rw [show Try.f6.params.toList = [34, 24, 28] by kernel_rfl] at hok
    obtain ⟨x0, x1, x2, rfl, h0, h1, h2⟩ := okAll3 hok
    have hb := bulk_of hrel hk
    obtain ⟨p, rfl, hw⟩ := peer_of (n := 0) h0
    simp only [D.bulks] at hb
    have hf := peer_fit hw (by omega)
    obtain ⟨l, rfl, hl, _⟩ := sgns_of (n := 2) h1
    obtain ⟨b, rfl, hb2⟩ := sll_of (n := 6) h2
    exact gossipAgain_main p hw hf l hl b (Nat.lt_of_le_of_lt hb2 (by decide))

theorem gossipAgain_holds : Rows.GossipAgainUptoSaid :=
  OpenClaim.holds_of_cond 6 Try.f6 rfl rfl rfl rfl rfl rfl rfl ⟨rfl, rfl, rfl, rfl, rfl⟩ rfl rfl rfl rfl rfl (by kernel_rfl) Try.func6 (by kernel_rfl)
    (of_decide_eq_true (by kernel_rfl)) (by unfold Func.isWrapper; first | (rw [if_pos (by decide +kernel)]; kernel_rfl) | (rw [if_neg (by decide +kernel)]; exact ⟨rfl, rfl⟩))
    (fun os started H enc _ F => gossipAgain_lifted os started H enc F)

end Go.Proofs.Ytjgkngjeniameaa
