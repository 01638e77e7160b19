/-
Proved: blazonlaw24.GossipFinds returns true for any pin and two lists of signed roots, and each argument reads behind the call as it read before.
-/
import Derived.Test.YtjgkngjeniameaaJ1
import Derived.Test.YtjgkngjeniameaaJ2
import Derived.Test.YtjgkngjeniameaaJ3
import Derived.Test.YtjgkngjeniameaaJ4
import Derived.Test.YtjgkngjeniameaaJ5
import Derived.Test.YtjgkngjeniameaaJ6
import Derived.Test.YtjgkngjeniameaaJ7
import Derived.Test.YtjgkngjeniameaaJ8
import Derived.Test.YtjgkngjeniameaaJ9
import Derived.Test.YtjgkngjeniameaaJ10
import Derived.Test.YtjgkngjeniameaaJ11
import Derived.Test.YtjgkngjeniameaaJ12
import Derived.Test.YtjgkngjeniameaaJ13
import Derived.Test.YtjgkngjeniameaaJ14
import Derived.Test.YtjgkngjeniameaaJ15
import Derived.Test.YtjgkngjeniameaaJ16
import Derived.Test.YtjgkngjeniameaaJ17
import Derived.Test.YtjgkngjeniameaaRows
set_option linter.unusedSimpArgs false
set_option linter.unusedVariables false
namespace Go.Proofs.Ytjgkngjeniameaa
open Go.ChangeShapes Go.WideShapes Go.ChangeAt Go.RowKit Go.Sym

theorem Try.own : ownKnob Try.prog.godebug = none := by kernel_rfl
theorem Try.laidOut : laidOutB Try.prog = true := by kernel_rfl

set_option maxRecDepth 100000 in
theorem gossipFinds_lifted (os : Os) (started : os.Started) (H : Type) (enc : TypeId × Value → H) :
    ReturnsInHanded {} Try.checked os 8 .any (Rows.gossipFindsSpec.pre6 enc Try.prog Try.f8 Rows.gossipFindsRow.domain false) (Rows.gossipFindsSpec.post enc Try.prog Try.f8 false true false false) := by
  refine returnsInHanded_of_change (C := Try.checked) Try.own started (by kernel_rfl) Try.func8
    (ChangeSpec.witness6 (enc := enc) (C := Try.checked) false ⟨#[], #[.agg (Array.replicate 32 (.int .u8 0)), .slice none 0 0, .slice none 0 0], []⟩ 8 (by kernel_rfl) (by kernel_rfl) (by kernel_rfl) (by kernel_rfl)) ?_
  intro W base args ds gs before hval hW hcnd _
  refine law_calls (s := Rows.gossipFindsSpec) (tb := 4) 8 hval hW rfl (fun hl => ?_) rfl rfl Try.laidOut (by kernel_rfl) (by kernel_rfl) fun xs hok _ => ?_
  · obtain ⟨a, b, c, rfl⟩ := len3 (hl.trans (show Try.f8.params.size = 3 by kernel_rfl))
    exact ⟨rfl, rfl, rfl⟩
  · rw [show Try.f8.params.toList = [23, 24, 24] by kernel_rfl] at hok
    obtain ⟨x0, x1, x2, rfl, h0, h1, h2⟩ := okAll3 hok
    obtain ⟨p, hp, rfl⟩ := dig_of (n := 6) h0
    obtain ⟨l, rfl, hl, _⟩ := sgns_of (n := 2) h1
    obtain ⟨m, rfl, hm, _⟩ := sgns_of (n := 2) h2
    exact gossipFinds_main p hp l m hl hm

theorem gossipFinds_holds : Rows.GossipFindsSaid :=
  OpenClaim.holds_of_wide 8 Try.f8 rfl rfl rfl rfl rfl rfl rfl ⟨rfl, rfl, rfl, rfl, rfl⟩ rfl rfl rfl rfl rfl (by kernel_rfl) Try.func8 (by kernel_rfl)
    (of_decide_eq_true (by kernel_rfl)) (by unfold Func.isWrapper; first | (rw [if_pos (by decide +kernel)]; kernel_rfl) | (rw [if_neg (by decide +kernel)]; exact ⟨rfl, rfl⟩))
    (fun os started H enc _ => gossipFinds_lifted os started H enc)

end Go.Proofs.Ytjgkngjeniameaa
