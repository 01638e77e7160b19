/-
Proved: blazonlaw11.ChainPieces returns true for any head, signed roots and place, and each argument reads behind the call as it read before.
-/
import Derived.Test.YtlkibgkkmmoalaaJ1
import Derived.Test.YtlkibgkkmmoalaaJ2
import Derived.Test.YtlkibgkkmmoalaaJ3
import Derived.Test.YtlkibgkkmmoalaaJ4
import Derived.Test.YtlkibgkkmmoalaaJ5
import Derived.Test.YtlkibgkkmmoalaaJ6
import Derived.Test.YtlkibgkkmmoalaaJ7
import Derived.Test.YtlkibgkkmmoalaaJ8
import Derived.Test.YtlkibgkkmmoalaaJ9
import Derived.Test.YtlkibgkkmmoalaaJ10
import Derived.Test.YtlkibgkkmmoalaaRows
set_option linter.unusedSimpArgs false
set_option linter.unusedVariables false
namespace Go.Proofs.Ytlkibgkkmmoalaa
open Go.ChangeShapes Go.WideShapes Go.ChangeAt Go.RowKit Go.Sym

theorem Try.own : ownKnob Try.prog.godebug = none := by kernel_rfl
theorem Try.laidOut : laidOutB Try.prog = true := by kernel_rfl

set_option maxRecDepth 100000 in
theorem chainPieces_lifted (os : Os) (started : os.Started) (H : Type) (enc : TypeId × Value → H) :
    ReturnsInHanded {} Try.checked os 6 .any (Rows.chainPiecesSpec.pre6 enc Try.prog Try.f6 Rows.chainPiecesRow.domain false) (Rows.chainPiecesSpec.post enc Try.prog Try.f6 false true false false) := by
  refine returnsInHanded_of_change (C := Try.checked) Try.own started (by kernel_rfl) Try.func6
    (ChangeSpec.witness6 (enc := enc) (C := Try.checked) false ⟨#[], #[.agg (#[.int .u64 0] ++ Array.replicate 64 (.int .u8 0)), .slice none 0 0, .int .i64 0], []⟩ 8 (by kernel_rfl) (by kernel_rfl) (by kernel_rfl) (by kernel_rfl)) ?_
  intro W base args ds gs before hval hW hcnd _
  refine law_calls (s := Rows.chainPiecesSpec) (tb := 4) 6 hval hW rfl (fun hl => ?_) rfl rfl Try.laidOut (by kernel_rfl) (by kernel_rfl) fun xs hok _ => ?_
  · obtain ⟨a, b, c, rfl⟩ := len3 (hl.trans (show Try.f6.params.size = 3 by kernel_rfl))
    exact ⟨rfl, rfl, rfl⟩
  · rw [show Try.f6.params.toList = [26, 33, 3] by kernel_rfl] at hok
    obtain ⟨x0, x1, x2, rfl, h0, h1, h2⟩ := okAll3 hok
    obtain ⟨g, rfl, hg⟩ := hd_of (n := 2) h0
    obtain ⟨l, rfl, hl, _⟩ := sgns_of (n := 0) h1
    obtain ⟨k, rfl, _⟩ := int_of (n := 5) h2
    exact chainPieces_main g l k hg hl

theorem chainPieces_holds : Rows.ChainPiecesSaid :=
  OpenClaim.holds_of_wide 6 Try.f6 rfl rfl rfl rfl rfl rfl rfl ⟨rfl, rfl, rfl, rfl, rfl⟩ rfl rfl rfl rfl rfl (by kernel_rfl) Try.func6 (by kernel_rfl)
    (of_decide_eq_true (by kernel_rfl)) (by unfold Func.isWrapper; first | (rw [if_pos (by decide +kernel)]; kernel_rfl) | (rw [if_neg (by decide +kernel)]; exact ⟨rfl, rfl⟩))
    (fun os started H enc _ => chainPieces_lifted os started H enc)

end Go.Proofs.Ytlkibgkkmmoalaa
