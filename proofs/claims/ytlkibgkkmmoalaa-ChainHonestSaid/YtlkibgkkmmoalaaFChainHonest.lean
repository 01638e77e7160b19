/-
Proved: blazonlaw11.ChainHonest returns true for any seed and trees, and each argument reads behind the call as it read before.
-/
import Derived.Test.YtlkibgkkmmoalaaJ1
import Derived.Test.YtlkibgkkmmoalaaJ2
import Derived.Test.YtlkibgkkmmoalaaJ3
import Derived.Test.YtlkibgkkmmoalaaJ4
import Derived.Test.YtlkibgkkmmoalaaJ5
import Derived.Test.YtlkibgkkmmoalaaJ6
import Derived.Test.YtlkibgkkmmoalaaJ7
import Derived.Test.YtlkibgkkmmoalaaJ8
import Derived.Test.YtlkibgkkmmoalaaJ9
import Derived.Test.YtlkibgkkmmoalaaJ10
import Derived.Test.YtlkibgkkmmoalaaRows
set_option linter.unusedSimpArgs false
set_option linter.unusedVariables false
namespace Go.Proofs.Ytlkibgkkmmoalaa
open Go.ChangeShapes Go.WideShapes Go.ChangeAt Go.RowKit Go.Sym

theorem Try.own : ownKnob Try.prog.godebug = none := by kernel_rfl
theorem Try.laidOut : laidOutB Try.prog = true := by kernel_rfl

set_option maxRecDepth 100000 in
theorem chainHonest_lifted (os : Os) (started : os.Started) (H : Type) (enc : TypeId × Value → H) :
    ReturnsInHanded {} Try.checked os 8 .any (Rows.chainHonestSpec.pre6 enc Try.prog Try.f8 Rows.chainHonestRow.domain false) (Rows.chainHonestSpec.post enc Try.prog Try.f8 false true false false) := by
  refine returnsInHanded_of_change (C := Try.checked) Try.own started (by kernel_rfl) Try.func8
    (ChangeSpec.witness6 (enc := enc) (C := Try.checked) false ⟨#[], #[.agg (Array.replicate 32 (.int .u8 0)), .slice none 0 0], []⟩ 8 (by kernel_rfl) (by kernel_rfl) (by kernel_rfl) (by kernel_rfl)) ?_
  intro W base args ds gs before hval hW hcnd _
  refine law_calls (s := Rows.chainHonestSpec) (tb := 4) 6 hval hW rfl (fun hl => ?_) rfl rfl Try.laidOut (by kernel_rfl) (by kernel_rfl) fun xs hok _ => ?_
  · obtain ⟨a, b, rfl⟩ := len2 (hl.trans (show Try.f8.params.size = 2 by kernel_rfl))
    exact ⟨rfl, rfl, rfl⟩
  · rw [show Try.f8.params.toList = [24, 51] by kernel_rfl] at hok
    obtain ⟨x0, x1, rfl, h0, h1⟩ := okAll2 hok
    obtain ⟨s, hs, rfl⟩ := dig_of (n := 4) h0
    obtain ⟨t, rfl, ht, hm⟩ := digs_of (n := 3) h1
    exact chainHonest_main s hs t ht (Nat.lt_of_le_of_lt hm (by decide))

theorem chainHonest_holds : Rows.ChainHonestSaid :=
  OpenClaim.holds_of_wide 8 Try.f8 rfl rfl rfl rfl rfl rfl rfl ⟨rfl, rfl, rfl, rfl, rfl⟩ rfl rfl rfl rfl rfl (by kernel_rfl) Try.func8 (by kernel_rfl)
    (of_decide_eq_true (by kernel_rfl)) (by unfold Func.isWrapper; first | (rw [if_pos (by decide +kernel)]; kernel_rfl) | (rw [if_neg (by decide +kernel)]; exact ⟨rfl, rfl⟩))
    (fun os started H enc _ => chainHonest_lifted os started H enc)

end Go.Proofs.Ytlkibgkkmmoalaa
