/-
Proved: blazonlaw11.ChainWalks returns true for any head and signed roots, and each argument reads behind the call as it read before.
-/
import Derived.Test.YtlkibgkkmmoalaaJ1
import Derived.Test.YtlkibgkkmmoalaaJ2
import Derived.Test.YtlkibgkkmmoalaaJ3
import Derived.Test.YtlkibgkkmmoalaaJ4
import Derived.Test.YtlkibgkkmmoalaaJ5
import Derived.Test.YtlkibgkkmmoalaaJ6
import Derived.Test.YtlkibgkkmmoalaaJ7
import Derived.Test.YtlkibgkkmmoalaaJ8
import Derived.Test.YtlkibgkkmmoalaaJ9
import Derived.Test.YtlkibgkkmmoalaaJ10
import Derived.Test.YtlkibgkkmmoalaaRows
set_option linter.unusedSimpArgs false
set_option linter.unusedVariables false
namespace Go.Proofs.Ytlkibgkkmmoalaa
open Go.ChangeShapes Go.WideShapes Go.ChangeAt Go.RowKit Go.Sym

theorem Try.own : ownKnob Try.prog.godebug = none := by kernel_rfl
theorem Try.laidOut : laidOutB Try.prog = true := by kernel_rfl

set_option maxRecDepth 100000 in
theorem chainWalks_lifted (os : Os) (started : os.Started) (H : Type) (enc : TypeId × Value → H) :
    ReturnsInHanded {} Try.checked os 4 .any (Rows.chainWalksSpec.pre6 enc Try.prog Try.f4 Rows.chainWalksRow.domain false) (Rows.chainWalksSpec.post enc Try.prog Try.f4 false true false false) := by
  refine returnsInHanded_of_change (C := Try.checked) Try.own started (by kernel_rfl) Try.func4
    (ChangeSpec.witness6 (enc := enc) (C := Try.checked) false ⟨#[], #[.agg (#[.int .u64 0] ++ Array.replicate 64 (.int .u8 0)), .slice none 0 0], []⟩ 8 (by kernel_rfl) (by kernel_rfl) (by kernel_rfl) (by kernel_rfl)) ?_
  intro W base args ds gs before hval hW hcnd _
  refine law_calls (s := Rows.chainWalksSpec) (tb := 4) 6 hval hW rfl (fun hl => ?_) rfl rfl Try.laidOut (by kernel_rfl) (by kernel_rfl) fun xs hok _ => ?_
  · obtain ⟨a, b, rfl⟩ := len2 (hl.trans (show Try.f4.params.size = 2 by kernel_rfl))
    exact ⟨rfl, rfl, rfl⟩
  · rw [show Try.f4.params.toList = [26, 33] by kernel_rfl] at hok
    obtain ⟨x0, x1, rfl, h0, h1⟩ := okAll2 hok
    obtain ⟨g, rfl, hg⟩ := hd_of (n := 2) h0
    obtain ⟨l, rfl, hl, hm⟩ := sgns_of (n := 0) h1
    exact chainWalks_main g l hg hl (Nat.lt_of_le_of_lt hm (by decide))

theorem chainWalks_holds : Rows.ChainWalksSaid :=
  OpenClaim.holds_of_wide 4 Try.f4 rfl rfl rfl rfl rfl rfl rfl ⟨rfl, rfl, rfl, rfl, rfl⟩ rfl rfl rfl rfl rfl (by kernel_rfl) Try.func4 (by kernel_rfl)
    (of_decide_eq_true (by kernel_rfl)) (by unfold Func.isWrapper; first | (rw [if_pos (by decide +kernel)]; kernel_rfl) | (rw [if_neg (by decide +kernel)]; exact ⟨rfl, rfl⟩))
    (fun os started H enc _ => chainWalks_lifted os started H enc)

end Go.Proofs.Ytlkibgkkmmoalaa
