/-
Proved: blazonlaw09.ClashWays returns true for any index and ways, and each argument reads behind the call as it read before.
-/
import Derived.Test.YtdceegllpcepnaaJ1
import Derived.Test.YtdceegllpcepnaaJ2
import Derived.Test.YtdceegllpcepnaaJ3
import Derived.Test.YtdceegllpcepnaaJ4
import Derived.Test.YtdceegllpcepnaaJ5
import Derived.Test.YtdceegllpcepnaaJ6
import Derived.Test.YtdceegllpcepnaaJ7
import Derived.Test.YtdceegllpcepnaaJ8
import Derived.Test.YtdceegllpcepnaaJ9
import Derived.Test.YtdceegllpcepnaaJ10
import Derived.Test.YtdceegllpcepnaaJ11
import Derived.Test.YtdceegllpcepnaaJ12
import Derived.Test.YtdceegllpcepnaaJ13
import Derived.Test.YtdceegllpcepnaaJ14
import Derived.Test.YtdceegllpcepnaaJ15
import Derived.Test.YtdceegllpcepnaaJ16
import Derived.Test.YtdceegllpcepnaaJ17
import Derived.Test.YtdceegllpcepnaaJ18
import Derived.Test.YtdceegllpcepnaaJ19
import Derived.Test.YtdceegllpcepnaaRows
set_option linter.unusedSimpArgs false
set_option linter.unusedVariables false
namespace Go.Proofs.Ytdceegllpcepnaa
open Go.ChangeShapes Go.WideShapes Go.ChangeAt Go.RowKit Go.Sym

theorem Try.own : ownKnob Try.prog.godebug = none := by kernel_rfl
theorem Try.laidOut : laidOutB Try.prog = true := by kernel_rfl

set_option maxRecDepth 100000 in
theorem clashWays_lifted (os : Os) (started : os.Started) (H : Type) (enc : TypeId × Value → H) :
    ReturnsInHanded {} Try.checked os 4 .any (Rows.clashWaysSpec.pre6 enc Try.prog Try.f4 Rows.clashWaysRow.domain false) (Rows.clashWaysSpec.post enc Try.prog Try.f4 false true false false) := by
  refine returnsInHanded_of_change (C := Try.checked) Try.own started (by kernel_rfl) Try.func4
    (ChangeSpec.witness6 (enc := enc) (C := Try.checked) false ⟨#[], #[.agg (Array.replicate 32 (.int .u8 0)), .agg (#[.slice none 0 0, .int .i64 0] ++ Array.replicate 64 (.int .u8 0)), .agg (#[.slice none 0 0, .int .i64 0] ++ Array.replicate 64 (.int .u8 0))], []⟩ 8 (by kernel_rfl) (by kernel_rfl) (by kernel_rfl) (by kernel_rfl)) ?_
  intro W base args ds gs before hval hW hcnd _
  refine law_calls (s := Rows.clashWaysSpec) (tb := 4) 5 hval hW rfl (fun hl => ?_) rfl rfl Try.laidOut (by kernel_rfl) (by kernel_rfl) fun xs hok _ => ?_
  · obtain ⟨a, b, c, rfl⟩ := len3 (hl.trans (show Try.f4.params.size = 3 by kernel_rfl))
    exact ⟨rfl, rfl, rfl⟩
  · rw [show Try.f4.params.toList = [33, 36, 36] by kernel_rfl] at hok
    obtain ⟨x0, x1, x2, rfl, h0, h1, h2⟩ := okAll3 hok
    obtain ⟨i, hi, rfl⟩ := dig_of (n := 3) h0
    obtain ⟨p, rfl, hp, _⟩ := prf_of (n := 1) h1
    obtain ⟨q, rfl, hq, _⟩ := prf_of (n := 1) h2
    exact clashWays_main i hi p q hp hq

theorem clashWays_holds : Rows.ClashWaysSaid :=
  OpenClaim.holds_of_wide 4 Try.f4 rfl rfl rfl rfl rfl rfl rfl ⟨rfl, rfl, rfl, rfl, rfl⟩ rfl rfl rfl rfl rfl (by kernel_rfl) Try.func4 (by kernel_rfl)
    (of_decide_eq_true (by kernel_rfl)) (by unfold Func.isWrapper; first | (rw [if_pos (by decide +kernel)]; kernel_rfl) | (rw [if_neg (by decide +kernel)]; exact ⟨rfl, rfl⟩))
    (fun os started H enc _ => clashWays_lifted os started H enc)

end Go.Proofs.Ytdceegllpcepnaa
