/-
Proved: blazonlaw05.RecordBack returns true for any binding, request, signed root and proof, and each argument reads behind the call as it read before.
-/
import Derived.Test.YtogncghpngmjpaaJ1
import Derived.Test.YtogncghpngmjpaaJ2
import Derived.Test.YtogncghpngmjpaaJ3
import Derived.Test.YtogncghpngmjpaaJ4
import Derived.Test.YtogncghpngmjpaaJ5
import Derived.Test.YtogncghpngmjpaaJ6
import Derived.Test.YtogncghpngmjpaaJ7
import Derived.Test.YtogncghpngmjpaaJ8
import Derived.Test.YtogncghpngmjpaaJ9
import Derived.Test.YtogncghpngmjpaaJ10
import Derived.Test.YtogncghpngmjpaaJ11
import Derived.Test.YtogncghpngmjpaaJ12
import Derived.Test.YtogncghpngmjpaaRows
set_option linter.unusedSimpArgs false
set_option linter.unusedVariables false
namespace Go.Proofs.Ytogncghpngmjpaa
open Go.ChangeShapes Go.WideShapes Go.ChangeAt Go.RowKit Go.Sym

theorem Try.own : ownKnob Try.prog.godebug = none := by kernel_rfl
theorem Try.laidOut : laidOutB Try.prog = true := by kernel_rfl

set_option maxRecDepth 100000 in
theorem recordBack_lifted (os : Os) (started : os.Started) (H : Type) (enc : TypeId × Value → H) :
    ReturnsInHanded {} Try.checked os 7 .any (Rows.recordBackSpec.pre6 enc Try.prog Try.f7 Rows.recordBackRow.domain false) (Rows.recordBackSpec.post enc Try.prog Try.f7 false true false false) := by
  refine returnsInHanded_of_change (C := Try.checked) Try.own started (by kernel_rfl) Try.func7
    (ChangeSpec.witness6 (enc := enc) (C := Try.checked) false ⟨#[], #[.agg #[.string ByteArray.empty, .slice none 0 0, .int .u64 0], .agg (#[.int .i64 0, .string ByteArray.empty, .slice none 0 0] ++ Array.replicate 32 (.int .u8 0)), .agg (#[.int .u64 0] ++ Array.replicate 96 (.int .u8 0) ++ #[.slice none 0 0]), .agg (#[.slice none 0 0, .int .i64 0] ++ Array.replicate 64 (.int .u8 0))], []⟩ 8 (by kernel_rfl) (by kernel_rfl) (by kernel_rfl) (by kernel_rfl)) ?_
  intro W base args ds gs before hval hW hcnd _
  refine law_calls (s := Rows.recordBackSpec) (tb := 4) 5 hval hW rfl (fun hl => ?_) rfl rfl Try.laidOut (by kernel_rfl) (by kernel_rfl) fun xs hok _ => ?_
  · obtain ⟨a, b, c, d, rfl⟩ := len4 (hl.trans (show Try.f7.params.size = 4 by kernel_rfl))
    exact ⟨rfl, rfl, rfl⟩
  · rw [show Try.f7.params.toList = [25, 38, 42, 30] by kernel_rfl] at hok
    obtain ⟨x0, x1, x2, x3, rfl, h0, h1, h2, h3⟩ := okAll4 hok
    obtain ⟨b, rfl, hs, hn⟩ := bnd_of (n := 1) h0
    obtain ⟨q, rfl, ha, hm⟩ := req_of (n := 1) h1
    obtain ⟨s, rfl, hw⟩ := sgn_of (n := 0) h2
    obtain ⟨p, rfl, hp, hl⟩ := prf_of (n := 1) h3
    exact recordBack_main b q s p hs ha hw hp (Nat.lt_of_le_of_lt hn (by decide)) (Nat.lt_of_le_of_lt hm (by decide)) (Nat.lt_of_le_of_lt hl (by decide))

theorem recordBack_holds : Rows.RecordBackSaid :=
  OpenClaim.holds_of_wide 7 Try.f7 rfl rfl rfl rfl rfl rfl rfl ⟨rfl, rfl, rfl, rfl, rfl⟩ rfl rfl rfl rfl rfl (by kernel_rfl) Try.func7 (by kernel_rfl)
    (of_decide_eq_true (by kernel_rfl)) (by unfold Func.isWrapper; first | (rw [if_pos (by decide +kernel)]; kernel_rfl) | (rw [if_neg (by decide +kernel)]; exact ⟨rfl, rfl⟩))
    (fun os started H enc _ => recordBack_lifted os started H enc)

end Go.Proofs.Ytogncghpngmjpaa
