/-
Proved: blazonlaw01.ShaPads returns true for any number, and each argument reads behind the call as it read before.
-/
import Derived.Test.YthlalhkcihdjnaaJ1
import Derived.Test.YthlalhkcihdjnaaJ2
import Derived.Test.YthlalhkcihdjnaaJ3
import Derived.Test.YthlalhkcihdjnaaJ4
import Derived.Test.YthlalhkcihdjnaaRows
namespace Go.Proofs.Ythlalhkcihdjnaa
open Go.ChangeShapes Go.WideShapes Go.ChangeAt Go.RowKit Go.Sym

theorem Try.own : ownKnob Try.prog.godebug = none := by kernel_rfl
theorem Try.laidOut : laidOutB Try.prog = true := by kernel_rfl

set_option maxRecDepth 100000 in
theorem shaPads_lifted (os : Os) (started : os.Started) (H : Type) (enc : TypeId × Value → H) :
    ReturnsInHanded {} Try.checked os 4 .any (Rows.shaPadsSpec.pre6 enc Try.prog Try.f4 Rows.shaPadsRow.domain false) (Rows.shaPadsSpec.post enc Try.prog Try.f4 false true false false) := by
  refine returnsInHanded_of_change (C := Try.checked) Try.own started (by kernel_rfl) Try.func4
    (ChangeSpec.witness6 (enc := enc) (C := Try.checked) false ⟨#[], #[.int .u64 0], []⟩ 8 (by kernel_rfl) (by kernel_rfl) (by kernel_rfl) (by kernel_rfl)) ?_
  intro W base args ds gs before hval hW hcnd _
  refine law_calls (s := Rows.shaPadsSpec) (tb := 4) 4 hval hW rfl (fun hl => ?_) rfl rfl Try.laidOut (by kernel_rfl) (by kernel_rfl) fun xs hok _ => ?_
  · obtain ⟨a, rfl⟩ := len1 (hl.trans (show Try.f4.params.size = 1 by kernel_rfl))
    exact ⟨rfl, rfl, rfl⟩
  · rw [show Try.f4.params.toList = [29] by kernel_rfl] at hok
    obtain ⟨x0, rfl, h0⟩ := okAll1 hok
    obtain ⟨n, rfl, hn⟩ := u64_of (n := 2) h0
    exact shaPads_main n hn

theorem shaPads_holds : Rows.ShaPadsSaid :=
  OpenClaim.holds_of_wide 4 Try.f4 rfl rfl rfl rfl rfl rfl rfl ⟨rfl, rfl, rfl, rfl, rfl⟩ rfl rfl rfl rfl rfl (by kernel_rfl) Try.func4 (by kernel_rfl)
    (of_decide_eq_true (by kernel_rfl)) (by unfold Func.isWrapper; first | (rw [if_pos (by decide +kernel)]; kernel_rfl) | (rw [if_neg (by decide +kernel)]; exact ⟨rfl, rfl⟩))
    (fun os started H enc _ => shaPads_lifted os started H enc)

end Go.Proofs.Ythlalhkcihdjnaa
