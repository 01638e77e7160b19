/-
Proved: blazonlaw12.ForkReads returns true for any pin and bytes, and each argument reads behind the call as it read before.
-/
import Derived.Test.YtcdjheiccefcdaaJ1
import Derived.Test.YtcdjheiccefcdaaJ2
import Derived.Test.YtcdjheiccefcdaaJ3
import Derived.Test.YtcdjheiccefcdaaJ4
import Derived.Test.YtcdjheiccefcdaaJ5
import Derived.Test.YtcdjheiccefcdaaJ6
import Derived.Test.YtcdjheiccefcdaaJ7
import Derived.Test.YtcdjheiccefcdaaJ8
import Derived.Test.YtcdjheiccefcdaaJ9
import Derived.Test.YtcdjheiccefcdaaJ10
import Derived.Test.YtcdjheiccefcdaaJ11
import Derived.Test.YtcdjheiccefcdaaJ12
import Derived.Test.YtcdjheiccefcdaaJ13
import Derived.Test.YtcdjheiccefcdaaJ14
import Derived.Test.YtcdjheiccefcdaaJ15
import Derived.Test.YtcdjheiccefcdaaJ16
import Derived.Test.YtcdjheiccefcdaaRows
set_option linter.unusedSimpArgs false
set_option linter.unusedVariables false
namespace Go.Proofs.Ytcdjheiccefcdaa
open Go.ChangeShapes Go.WideShapes Go.ChangeAt Go.RowKit Go.Sym

theorem Try.own : ownKnob Try.prog.godebug = none := by kernel_rfl
theorem Try.laidOut : laidOutB Try.prog = true := by kernel_rfl

set_option maxRecDepth 100000 in
theorem forkReads_lifted (os : Os) (started : os.Started) (H : Type) (enc : TypeId × Value → H) :
    ReturnsInHanded {} Try.checked os 7 .any (Rows.forkReadsSpec.pre6 enc Try.prog Try.f7 Rows.forkReadsRow.domain false) (Rows.forkReadsSpec.post enc Try.prog Try.f7 false true false false) := by
  refine returnsInHanded_of_change (C := Try.checked) Try.own started (by kernel_rfl) Try.func7
    (ChangeSpec.witness6 (enc := enc) (C := Try.checked) false ⟨#[], #[.agg (Array.replicate 32 (.int .u8 0)), .slice none 0 0], []⟩ 8 (by kernel_rfl) (by kernel_rfl) (by kernel_rfl) (by kernel_rfl)) ?_
  intro W base args ds gs before hval hW hcnd _
  refine law_calls (s := Rows.forkReadsSpec) (tb := 4) 7 hval hW rfl (fun hl => ?_) rfl rfl Try.laidOut (by kernel_rfl) (by kernel_rfl) fun xs hok _ => ?_
  · obtain ⟨a, b, rfl⟩ := len2 (hl.trans (show Try.f7.params.size = 2 by kernel_rfl))
    exact ⟨rfl, rfl, rfl⟩
  · rw [show Try.f7.params.toList = [23, 28] by kernel_rfl] at hok
    obtain ⟨x0, x1, rfl, h0, h1⟩ := okAll2 hok
    obtain ⟨p, hp, rfl⟩ := dig_of (n := 5) h0
    obtain ⟨b, rfl, hb⟩ := sll_of (n := 5) h1
    exact forkReads_main p hp b (Nat.lt_of_le_of_lt hb (by decide))

theorem forkReads_holds : Rows.ForkReadsSaid :=
  OpenClaim.holds_of_wide 7 Try.f7 rfl rfl rfl rfl rfl rfl rfl ⟨rfl, rfl, rfl, rfl, rfl⟩ rfl rfl rfl rfl rfl (by kernel_rfl) Try.func7 (by kernel_rfl)
    (of_decide_eq_true (by kernel_rfl)) (by unfold Func.isWrapper; first | (rw [if_pos (by decide +kernel)]; kernel_rfl) | (rw [if_neg (by decide +kernel)]; exact ⟨rfl, rfl⟩))
    (fun os started H enc _ => forkReads_lifted os started H enc)

end Go.Proofs.Ytcdjheiccefcdaa
