/-
Proved: blazonlaw05.RecordOne returns true for any bytes, and each argument reads behind the call as it read before.
-/
import Derived.Test.YtogncghpngmjpaaJ1
import Derived.Test.YtogncghpngmjpaaJ2
import Derived.Test.YtogncghpngmjpaaJ3
import Derived.Test.YtogncghpngmjpaaJ4
import Derived.Test.YtogncghpngmjpaaJ5
import Derived.Test.YtogncghpngmjpaaJ6
import Derived.Test.YtogncghpngmjpaaJ7
import Derived.Test.YtogncghpngmjpaaJ8
import Derived.Test.YtogncghpngmjpaaJ9
import Derived.Test.YtogncghpngmjpaaJ10
import Derived.Test.YtogncghpngmjpaaJ11
import Derived.Test.YtogncghpngmjpaaJ12
import Derived.Test.YtogncghpngmjpaaRows
set_option linter.unusedSimpArgs false
set_option linter.unusedVariables false
namespace Go.Proofs.Ytogncghpngmjpaa
open Go.ChangeShapes Go.WideShapes Go.ChangeAt Go.RowKit Go.Sym

theorem Try.own : ownKnob Try.prog.godebug = none := by kernel_rfl
theorem Try.laidOut : laidOutB Try.prog = true := by kernel_rfl

set_option maxRecDepth 100000 in
theorem recordOne_lifted (os : Os) (started : os.Started) (H : Type) (enc : TypeId × Value → H) :
    ReturnsInHanded {} Try.checked os 8 .any (Rows.recordOneSpec.pre6 enc Try.prog Try.f8 Rows.recordOneRow.domain false) (Rows.recordOneSpec.post enc Try.prog Try.f8 false true false false) := by
  refine returnsInHanded_of_change (C := Try.checked) Try.own started (by kernel_rfl) Try.func8
    (ChangeSpec.witness6 (enc := enc) (C := Try.checked) false ⟨#[], #[.slice none 0 0], []⟩ 8 (by kernel_rfl) (by kernel_rfl) (by kernel_rfl) (by kernel_rfl)) ?_
  intro W base args ds gs before hval hW hcnd _
  refine law_calls (s := Rows.recordOneSpec) (tb := 4) 4 hval hW rfl (fun hl => ?_) rfl rfl Try.laidOut (by kernel_rfl) (by kernel_rfl) fun xs hok _ => ?_
  · obtain ⟨a, rfl⟩ := len1 (hl.trans (show Try.f8.params.size = 1 by kernel_rfl))
    exact ⟨rfl, rfl, rfl⟩
  · rw [show Try.f8.params.toList = [22] by kernel_rfl] at hok
    obtain ⟨x0, rfl, h0⟩ := okAll1 hok
    obtain ⟨t, rfl, hl⟩ := sll_of (n := 2) h0
    exact recordOne_main t (Nat.lt_of_le_of_lt hl (by decide))

theorem recordOne_holds : Rows.RecordOneSaid :=
  OpenClaim.holds_of_wide 8 Try.f8 rfl rfl rfl rfl rfl rfl rfl ⟨rfl, rfl, rfl, rfl, rfl⟩ rfl rfl rfl rfl rfl (by kernel_rfl) Try.func8 (by kernel_rfl)
    (of_decide_eq_true (by kernel_rfl)) (by unfold Func.isWrapper; first | (rw [if_pos (by decide +kernel)]; kernel_rfl) | (rw [if_neg (by decide +kernel)]; exact ⟨rfl, rfl⟩))
    (fun os started H enc _ => recordOne_lifted os started H enc)

end Go.Proofs.Ytogncghpngmjpaa
