/-
Proved: blazonlaw10.LamportOpens returns true for any digest and two texts, and each argument reads behind the call as it read before.
-/
import Derived.Test.YtjofajjhhjpkiaaJ1
import Derived.Test.YtjofajjhhjpkiaaJ2
import Derived.Test.YtjofajjhhjpkiaaJ3
import Derived.Test.YtjofajjhhjpkiaaJ4
import Derived.Test.YtjofajjhhjpkiaaJ5
import Derived.Test.YtjofajjhhjpkiaaJ6
import Derived.Test.YtjofajjhhjpkiaaJ7
import Derived.Test.YtjofajjhhjpkiaaJ8
import Derived.Test.YtjofajjhhjpkiaaJ9
import Derived.Test.YtjofajjhhjpkiaaRows
set_option linter.unusedSimpArgs false
set_option linter.unusedVariables false
namespace Go.Proofs.Ytjofajjhhjpkiaa
open Go.ChangeShapes Go.WideShapes Go.ChangeAt Go.RowKit Go.Sym

theorem Try.own : ownKnob Try.prog.godebug = none := by kernel_rfl
theorem Try.laidOut : laidOutB Try.prog = true := by kernel_rfl

set_option maxRecDepth 100000 in
theorem lamportOpens_lifted (os : Os) (started : os.Started) (H : Type) (enc : TypeId × Value → H) :
    ReturnsInHanded {} Try.checked os 3 .any (Rows.lamportOpensSpec.pre6 enc Try.prog Try.f3 Rows.lamportOpensRow.domain false) (Rows.lamportOpensSpec.post enc Try.prog Try.f3 false true false false) := by
  refine returnsInHanded_of_change (C := Try.checked) Try.own started (by kernel_rfl) Try.func3
    (ChangeSpec.witness6 (enc := enc) (C := Try.checked) false ⟨#[], #[.agg (Array.replicate 32 (.int .u8 0)), .slice none 0 0, .slice none 0 0], []⟩ 8 (by kernel_rfl) (by kernel_rfl) (by kernel_rfl) (by kernel_rfl)) ?_
  intro W base args ds gs before hval hW hcnd _
  refine law_calls (s := Rows.lamportOpensSpec) (tb := 4) 4 hval hW rfl (fun hl => ?_) rfl rfl Try.laidOut (by kernel_rfl) (by kernel_rfl) fun xs hok _ => ?_
  · obtain ⟨a, b, c, rfl⟩ := len3 (hl.trans (show Try.f3.params.size = 3 by kernel_rfl))
    exact ⟨rfl, rfl, rfl⟩
  · rw [show Try.f3.params.toList = [23, 24, 24] by kernel_rfl] at hok
    obtain ⟨x0, x1, x2, rfl, h0, h1, h2⟩ := okAll3 hok
    obtain ⟨p, hp, rfl⟩ := dig_of (n := 2) h0
    obtain ⟨b, rfl⟩ := sl_of (n := 2) h1
    obtain ⟨s, rfl⟩ := sl_of (n := 2) h2
    exact lamportOpens_main p hp b s

theorem lamportOpens_holds : Rows.LamportOpensSaid :=
  OpenClaim.holds_of_wide 3 Try.f3 rfl rfl rfl rfl rfl rfl rfl ⟨rfl, rfl, rfl, rfl, rfl⟩ rfl rfl rfl rfl rfl (by kernel_rfl) Try.func3 (by kernel_rfl)
    (of_decide_eq_true (by kernel_rfl)) (by unfold Func.isWrapper; first | (rw [if_pos (by decide +kernel)]; kernel_rfl) | (rw [if_neg (by decide +kernel)]; exact ⟨rfl, rfl⟩))
    (fun os started H enc _ => lamportOpens_lifted os started H enc)

end Go.Proofs.Ytjofajjhhjpkiaa
