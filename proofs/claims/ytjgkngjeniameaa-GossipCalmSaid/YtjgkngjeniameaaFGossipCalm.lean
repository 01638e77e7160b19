/-
Proved: blazonlaw24.GossipCalm returns true for any seed, trees and numbers, and each argument reads behind the call as it read before.
-/
import Derived.Test.YtjgkngjeniameaaJ1
import Derived.Test.YtjgkngjeniameaaJ2
import Derived.Test.YtjgkngjeniameaaJ3
import Derived.Test.YtjgkngjeniameaaJ4
import Derived.Test.YtjgkngjeniameaaJ5
import Derived.Test.YtjgkngjeniameaaJ6
import Derived.Test.YtjgkngjeniameaaJ7
import Derived.Test.YtjgkngjeniameaaJ8
import Derived.Test.YtjgkngjeniameaaJ9
import Derived.Test.YtjgkngjeniameaaJ10
import Derived.Test.YtjgkngjeniameaaJ11
import Derived.Test.YtjgkngjeniameaaJ12
import Derived.Test.YtjgkngjeniameaaJ13
import Derived.Test.YtjgkngjeniameaaJ14
import Derived.Test.YtjgkngjeniameaaJ15
import Derived.Test.YtjgkngjeniameaaJ16
import Derived.Test.YtjgkngjeniameaaJ17
import Derived.Test.YtjgkngjeniameaaRows
set_option linter.unusedSimpArgs false
set_option linter.unusedVariables false
namespace Go.Proofs.Ytjgkngjeniameaa
open Go.ChangeShapes Go.WideShapes Go.ChangeAt Go.RowKit Go.Sym

theorem Try.own : ownKnob Try.prog.godebug = none := by kernel_rfl
theorem Try.laidOut : laidOutB Try.prog = true := by kernel_rfl

set_option maxRecDepth 100000 in
theorem gossipCalm_lifted (os : Os) (started : os.Started) (H : Type) (enc : TypeId × Value → H) :
    ReturnsInHanded {} Try.checked os 5 .any (Rows.gossipCalmSpec.pre6 enc Try.prog Try.f5 Rows.gossipCalmRow.domain false) (Rows.gossipCalmSpec.post enc Try.prog Try.f5 false true false false) := by
  refine returnsInHanded_of_change (C := Try.checked) Try.own started (by kernel_rfl) Try.func5
    (ChangeSpec.witness6 (enc := enc) (C := Try.checked) false ⟨#[], #[.agg (Array.replicate 32 (.int .u8 0)), .slice none 0 0, .slice none 0 0], []⟩ 8 (by kernel_rfl) (by kernel_rfl) (by kernel_rfl) (by kernel_rfl)) ?_
  intro W base args ds gs before hval hW hcnd _
  refine law_calls (s := Rows.gossipCalmSpec) (tb := 4) 8 hval hW rfl (fun hl => ?_) rfl rfl Try.laidOut (by kernel_rfl) (by kernel_rfl) fun xs hok _ => ?_
  · obtain ⟨a, b, c, rfl⟩ := len3 (hl.trans (show Try.f5.params.size = 3 by kernel_rfl))
    exact ⟨rfl, rfl, rfl⟩
  · rw [show Try.f5.params.toList = [23, 49, 50] by kernel_rfl] at hok
    obtain ⟨x0, x1, x2, rfl, h0, h1, h2⟩ := okAll3 hok
    obtain ⟨s, hs, rfl⟩ := dig_of (n := 6) h0
    obtain ⟨t, rfl, ht, _⟩ := digs_of (n := 5) h1
    obtain ⟨ns, rfl⟩ := ints_of (n := 6) h2
    exact gossipCalm_main s hs t ht ns

theorem gossipCalm_holds : Rows.GossipCalmSaid :=
  OpenClaim.holds_of_wide 5 Try.f5 rfl rfl rfl rfl rfl rfl rfl ⟨rfl, rfl, rfl, rfl, rfl⟩ rfl rfl rfl rfl rfl (by kernel_rfl) Try.func5 (by kernel_rfl)
    (of_decide_eq_true (by kernel_rfl)) (by unfold Func.isWrapper; first | (rw [if_pos (by decide +kernel)]; kernel_rfl) | (rw [if_neg (by decide +kernel)]; exact ⟨rfl, rfl⟩))
    (fun os started H enc _ => gossipCalm_lifted os started H enc)

end Go.Proofs.Ytjgkngjeniameaa
