/-
Proved: blazonlaw01.ShaLengths returns true for any number and byte, and each argument reads behind the call as it read before.
-/
import Derived.Test.YthlalhkcihdjnaaJ1
import Derived.Test.YthlalhkcihdjnaaJ2
import Derived.Test.YthlalhkcihdjnaaJ3
import Derived.Test.YthlalhkcihdjnaaJ4
import Derived.Test.YthlalhkcihdjnaaRows
namespace Go.Proofs.Ythlalhkcihdjnaa
open Go.ChangeShapes Go.WideShapes Go.ChangeAt Go.RowKit Go.Sym

theorem Try.own : ownKnob Try.prog.godebug = none := by kernel_rfl
theorem Try.laidOut : laidOutB Try.prog = true := by kernel_rfl

set_option maxRecDepth 100000 in
theorem shaLengths_lifted (os : Os) (started : os.Started) (H : Type) (enc : TypeId × Value → H) :
    ReturnsInHanded {} Try.checked os 7 .any (Rows.shaLengthsSpec.pre6 enc Try.prog Try.f7 Rows.shaLengthsRow.domain false) (Rows.shaLengthsSpec.post enc Try.prog Try.f7 false true false false) := by
  refine returnsInHanded_of_change (C := Try.checked) Try.own started (by kernel_rfl) Try.func7
    (ChangeSpec.witness6 (enc := enc) (C := Try.checked) false ⟨#[], #[.int .u16 0, .int .u8 0], []⟩ 8 (by kernel_rfl) (by kernel_rfl) (by kernel_rfl) (by kernel_rfl)) ?_
  intro W base args ds gs before hval hW hcnd _
  refine law_calls (s := Rows.shaLengthsSpec) (tb := 4) 4 hval hW rfl (fun hl => ?_) rfl rfl Try.laidOut (by kernel_rfl) (by kernel_rfl) fun xs hok _ => ?_
  · obtain ⟨a, b, rfl⟩ := len2 (hl.trans (show Try.f7.params.size = 2 by kernel_rfl))
    exact ⟨rfl, rfl, rfl⟩
  · rw [show Try.f7.params.toList = [41, 5] by kernel_rfl] at hok
    obtain ⟨x0, x1, rfl, h0, h1⟩ := okAll2 hok
    obtain ⟨n, rfl, hn⟩ := u16_of (n := 2) h0
    obtain ⟨c, rfl⟩ := byte_of (n := 2) h1
    exact shaLengths_main n hn c

theorem shaLengths_holds : Rows.ShaLengthsSaid :=
  OpenClaim.holds_of_wide 7 Try.f7 rfl rfl rfl rfl rfl rfl rfl ⟨rfl, rfl, rfl, rfl, rfl⟩ rfl rfl rfl rfl rfl (by kernel_rfl) Try.func7 (by kernel_rfl)
    (of_decide_eq_true (by kernel_rfl)) (by unfold Func.isWrapper; first | (rw [if_pos (by decide +kernel)]; kernel_rfl) | (rw [if_neg (by decide +kernel)]; exact ⟨rfl, rfl⟩))
    (fun os started H enc _ => shaLengths_lifted os started H enc)

end Go.Proofs.Ythlalhkcihdjnaa
