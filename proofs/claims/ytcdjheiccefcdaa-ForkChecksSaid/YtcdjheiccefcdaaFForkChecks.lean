/-
Proved: blazonlaw12.ForkChecks returns true for any pin and evidence, and each argument reads behind the call as it read before.
-/
import Derived.Test.YtcdjheiccefcdaaJ1
import Derived.Test.YtcdjheiccefcdaaJ2
import Derived.Test.YtcdjheiccefcdaaJ3
import Derived.Test.YtcdjheiccefcdaaJ4
import Derived.Test.YtcdjheiccefcdaaJ5
import Derived.Test.YtcdjheiccefcdaaJ6
import Derived.Test.YtcdjheiccefcdaaJ7
import Derived.Test.YtcdjheiccefcdaaJ8
import Derived.Test.YtcdjheiccefcdaaJ9
import Derived.Test.YtcdjheiccefcdaaJ10
import Derived.Test.YtcdjheiccefcdaaJ11
import Derived.Test.YtcdjheiccefcdaaJ12
import Derived.Test.YtcdjheiccefcdaaJ13
import Derived.Test.YtcdjheiccefcdaaJ14
import Derived.Test.YtcdjheiccefcdaaJ15
import Derived.Test.YtcdjheiccefcdaaJ16
import Derived.Test.YtcdjheiccefcdaaRows
set_option linter.unusedSimpArgs false
set_option linter.unusedVariables false
namespace Go.Proofs.Ytcdjheiccefcdaa
open Go.ChangeShapes Go.WideShapes Go.ChangeAt Go.RowKit Go.Sym

theorem Try.own : ownKnob Try.prog.godebug = none := by kernel_rfl
theorem Try.laidOut : laidOutB Try.prog = true := by kernel_rfl

set_option maxRecDepth 100000 in
theorem forkChecks_lifted (os : Os) (started : os.Started) (H : Type) (enc : TypeId × Value → H) :
    ReturnsInHanded {} Try.checked os 3 .any (Rows.forkChecksSpec.pre6 enc Try.prog Try.f3 Rows.forkChecksRow.domain false) (Rows.forkChecksSpec.post enc Try.prog Try.f3 false true false false) := by
  refine returnsInHanded_of_change (C := Try.checked) Try.own started (by kernel_rfl) Try.func3
    (ChangeSpec.witness6 (enc := enc) (C := Try.checked) false ⟨#[], #[.agg (Array.replicate 32 (.int .u8 0)), .agg (#[.slice none 0 0] ++ #[.int .u64 0] ++ Array.replicate 96 (.int .u8 0) ++ #[.slice none 0 0] ++ #[.int .u64 0] ++ Array.replicate 96 (.int .u8 0) ++ #[.slice none 0 0])], []⟩ 8 (by kernel_rfl) (by kernel_rfl) (by kernel_rfl) (by kernel_rfl)) ?_
  intro W base args ds gs before hval hW hcnd _
  refine law_calls (s := Rows.forkChecksSpec) (tb := 4) 7 hval hW rfl (fun hl => ?_) rfl rfl Try.laidOut (by kernel_rfl) (by kernel_rfl) fun xs hok _ => ?_
  · obtain ⟨a, b, rfl⟩ := len2 (hl.trans (show Try.f3.params.size = 2 by kernel_rfl))
    exact ⟨rfl, rfl, rfl⟩
  · rw [show Try.f3.params.toList = [23, 32] by kernel_rfl] at hok
    obtain ⟨x0, x1, rfl, h0, h1⟩ := okAll2 hok
    obtain ⟨p, hp, rfl⟩ := dig_of (n := 5) h0
    obtain ⟨e, rfl, he⟩ := evd_of (n := 0) h1
    exact forkChecks_main p hp e he

theorem forkChecks_holds : Rows.ForkChecksSaid :=
  OpenClaim.holds_of_wide 3 Try.f3 rfl rfl rfl rfl rfl rfl rfl ⟨rfl, rfl, rfl, rfl, rfl⟩ rfl rfl rfl rfl rfl (by kernel_rfl) Try.func3 (by kernel_rfl)
    (of_decide_eq_true (by kernel_rfl)) (by unfold Func.isWrapper; first | (rw [if_pos (by decide +kernel)]; kernel_rfl) | (rw [if_neg (by decide +kernel)]; exact ⟨rfl, rfl⟩))
    (fun os started H enc _ => forkChecks_lifted os started H enc)

end Go.Proofs.Ytcdjheiccefcdaa
