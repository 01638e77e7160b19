/-
Proved: blazonlaw01.ShaPieces returns true for any texts whose bulk together is at most 1048576, and each argument reads behind the call as it read before.
-/
import Derived.Test.YthlalhkcihdjnaaJ1
import Derived.Test.YthlalhkcihdjnaaJ2
import Derived.Test.YthlalhkcihdjnaaJ3
import Derived.Test.YthlalhkcihdjnaaJ4
import Derived.Test.YthlalhkcihdjnaaRows
import Derived.OpenShut
import Derived.JoinedCond
namespace Go.Proofs.Ythlalhkcihdjnaa
open Go.ChangeShapes Go.WideShapes Go.ChangeAt Go.RowKit Go.Sym

theorem Try.own : ownKnob Try.prog.godebug = none := by kernel_rfl
theorem Try.laidOut : laidOutB Try.prog = true := by kernel_rfl

set_option maxRecDepth 100000 in
theorem shaPieces_lifted (os : Os) (started : os.Started) (H : Type) (enc : TypeId × Value → H) (F : Stop.Interp) :
    ReturnsInHanded {} Try.checked os 5 .any ((Rows.OpenSpec.upto Rows.shaPiecesSpec).pre6 enc Try.prog Try.f5 Rows.shaPiecesUptoRow.domain false) (((Rows.OpenSpec.upto Rows.shaPiecesSpec).at F).post enc Try.prog Try.f5 false true false false) := by
  refine returnsInHanded_of_cond (C := Try.checked) (s := Rows.OpenSpec.upto Rows.shaPiecesSpec) (k := Rows.uptoSmall) rfl Try.own started (by kernel_rfl) Try.func5
    (OpenSpec.witness (enc := enc) (C := Try.checked) (s := Rows.OpenSpec.upto Rows.shaPiecesSpec) (k := Rows.uptoSmall) rfl false ⟨#[], #[.slice none 0 0], []⟩ 8 (by kernel_rfl) (by kernel_rfl) (by kernel_rfl)
      (x := ([.nil], [], [])) (by kernel_rfl) rfl (by kernel_rfl)) ?_
  intro W base args ds gs before hval hW _ hk _
  refine law_calls (s := Rows.shaPiecesSpec) (tb := 4) 4 hval hW rfl (fun hl => ?_) rfl rfl Try.laidOut (by kernel_rfl) (by kernel_rfl) fun xs hok hrel => ?_
  · obtain ⟨a, rfl⟩ := len1 (hl.trans (show Try.f5.params.size = 1 by kernel_rfl))
    exact ⟨rfl, rfl, rfl⟩
  · rw [show Try.f5.params.toList = [33] by kernel_rfl] at hok
    obtain ⟨x0, rfl, h0⟩ := okAll1 hok
    have hb := bulk_of hrel hk
    obtain ⟨t, rfl⟩ := texts_of (n := 1) h0
    have l2 := bulk_texts t
    simp only [D.bulks, D.bulk, List.length_map] at hb
    exact shaPieces_main t (by omega) (by omega)

theorem shaPieces_holds : Rows.ShaPiecesUptoSaid :=
  OpenClaim.holds_of_cond 5 Try.f5 rfl rfl rfl rfl rfl rfl rfl ⟨rfl, rfl, rfl, rfl, rfl⟩ rfl rfl rfl rfl rfl (by kernel_rfl) Try.func5 (by kernel_rfl)
    (of_decide_eq_true (by kernel_rfl)) (by unfold Func.isWrapper; first | (rw [if_pos (by decide +kernel)]; kernel_rfl) | (rw [if_neg (by decide +kernel)]; exact ⟨rfl, rfl⟩))
    (fun os started H enc _ F => shaPieces_lifted os started H enc F)

end Go.Proofs.Ythlalhkcihdjnaa
