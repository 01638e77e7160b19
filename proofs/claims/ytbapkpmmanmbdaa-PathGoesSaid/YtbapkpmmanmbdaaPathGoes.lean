/-
Proved: blazonlaw06.PathGoes returns true for every digest and every place to stop, and each argument reads behind the call as it read before. No condition.
-/
import Derived.Test.YtbapkpmmanmbdaaRows
import Derived.Test.YtbapkpmmanmbdaaReada
import Derived.Test.YtbapkpmmanmbdaaPathf
namespace Go.Proofs.Ytbapkpmmanmbdaa
open Go.ChangeShapes Go.WideShapes Go.ChangeAt Go.RowKit Go.Sym

theorem Try.own : ownKnob Try.prog.godebug = none := by kernel_rfl
theorem Try.laidOut : laidOutB Try.prog = true := by kernel_rfl

set_option maxRecDepth 100000 in
theorem pathGoes_lifted (os : Os) (started : os.Started) (H : Type) (enc : TypeId × Value → H) :
    ReturnsInHanded {} Try.checked os 4 .any (Rows.pathGoesSpec.pre6 enc Try.prog Try.f4 Rows.pathGoesRow.domain false) (Rows.pathGoesSpec.post enc Try.prog Try.f4 false true false false) := by
  refine returnsInHanded_of_change (C := Try.checked) Try.own started (by kernel_rfl) Try.func4
    (ChangeSpec.witness6 (enc := enc) (C := Try.checked) false ⟨#[], #[.agg (Array.replicate 32 (.int .u8 0)), .int .i64 0], []⟩ 8 (by kernel_rfl) (by kernel_rfl) (by kernel_rfl) (by kernel_rfl)) ?_
  intro W base args ds gs before hval hW hcnd _
  refine law_calls (s := Rows.pathGoesSpec) (tb := 4) 4 hval hW rfl (fun hl => ?_) rfl rfl Try.laidOut (by kernel_rfl) (by kernel_rfl) fun xs hok _ => ?_
  · obtain ⟨a, b, rfl⟩ := len2 (hl.trans (show Try.f4.params.size = 2 by kernel_rfl))
    exact ⟨rfl, rfl, rfl⟩
  · rw [show Try.f4.params.toList = [23, 3] by kernel_rfl] at hok
    obtain ⟨x0, x1, rfl, h0, h1⟩ := okAll2 hok
    obtain ⟨d, hd, rfl⟩ := dig_of (n := 2) h0
    obtain ⟨i, rfl, _⟩ := int_of (n := 3) h1
    exact pathGoes_main d hd i

theorem pathGoes_holds : Rows.PathGoesSaid :=
  OpenClaim.holds_of_wide 4 Try.f4 rfl rfl rfl rfl rfl rfl rfl ⟨rfl, rfl, rfl, rfl, rfl⟩ rfl rfl rfl rfl rfl (by kernel_rfl) Try.func4 (by kernel_rfl)
    (of_decide_eq_true (by kernel_rfl)) (by unfold Func.isWrapper; first | (rw [if_pos (by decide +kernel)]; kernel_rfl) | (rw [if_neg (by decide +kernel)]; exact ⟨rfl, rfl⟩))
    (fun os started H enc _ => pathGoes_lifted os started H enc)

end Go.Proofs.Ytbapkpmmanmbdaa
