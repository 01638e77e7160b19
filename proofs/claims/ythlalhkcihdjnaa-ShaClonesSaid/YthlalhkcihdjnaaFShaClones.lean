/-
Proved: blazonlaw01.ShaClones returns true for any three texts, and each argument reads behind the call as it read before.
-/
import Derived.Test.YthlalhkcihdjnaaJ1
import Derived.Test.YthlalhkcihdjnaaJ2
import Derived.Test.YthlalhkcihdjnaaJ3
import Derived.Test.YthlalhkcihdjnaaJ4
import Derived.Test.YthlalhkcihdjnaaRows
namespace Go.Proofs.Ythlalhkcihdjnaa
open Go.ChangeShapes Go.WideShapes Go.ChangeAt Go.RowKit Go.Sym

theorem Try.own : ownKnob Try.prog.godebug = none := by kernel_rfl
theorem Try.laidOut : laidOutB Try.prog = true := by kernel_rfl

set_option maxRecDepth 100000 in
theorem shaClones_lifted (os : Os) (started : os.Started) (H : Type) (enc : TypeId × Value → H) :
    ReturnsInHanded {} Try.checked os 6 .any (Rows.shaClonesSpec.pre6 enc Try.prog Try.f6 Rows.shaClonesRow.domain false) (Rows.shaClonesSpec.post enc Try.prog Try.f6 false true false false) := by
  refine returnsInHanded_of_change (C := Try.checked) Try.own started (by kernel_rfl) Try.func6
    (ChangeSpec.witness6 (enc := enc) (C := Try.checked) false ⟨#[], #[.slice none 0 0, .slice none 0 0, .slice none 0 0], []⟩ 8 (by kernel_rfl) (by kernel_rfl) (by kernel_rfl) (by kernel_rfl)) ?_
  intro W base args ds gs before hval hW hcnd _
  refine law_calls (s := Rows.shaClonesSpec) (tb := 4) 4 hval hW rfl (fun hl => ?_) rfl rfl Try.laidOut (by kernel_rfl) (by kernel_rfl) fun xs hok _ => ?_
  · obtain ⟨a, b, c, rfl⟩ := len3 (hl.trans (show Try.f6.params.size = 3 by kernel_rfl))
    exact ⟨rfl, rfl, rfl⟩
  · rw [show Try.f6.params.toList = [22, 22, 22] by kernel_rfl] at hok
    obtain ⟨x0, x1, x2, rfl, h0, h1, h2⟩ := okAll3 hok
    obtain ⟨a, rfl⟩ := sl_of (n := 2) h0
    obtain ⟨b, rfl⟩ := sl_of (n := 2) h1
    obtain ⟨c, rfl⟩ := sl_of (n := 2) h2
    exact shaClones_main a b c

theorem shaClones_holds : Rows.ShaClonesSaid :=
  OpenClaim.holds_of_wide 6 Try.f6 rfl rfl rfl rfl rfl rfl rfl ⟨rfl, rfl, rfl, rfl, rfl⟩ rfl rfl rfl rfl rfl (by kernel_rfl) Try.func6 (by kernel_rfl)
    (of_decide_eq_true (by kernel_rfl)) (by unfold Func.isWrapper; first | (rw [if_pos (by decide +kernel)]; kernel_rfl) | (rw [if_neg (by decide +kernel)]; exact ⟨rfl, rfl⟩))
    (fun os started H enc _ => shaClones_lifted os started H enc)

end Go.Proofs.Ythlalhkcihdjnaa
