/-
Proved: blazonlaw10.LamportTurned returns true for any seed, number, bytes, place and byte, and each argument reads behind the call as it read before.
-/
import Derived.Test.YtjofajjhhjpkiaaJ1
import Derived.Test.YtjofajjhhjpkiaaJ2
import Derived.Test.YtjofajjhhjpkiaaJ3
import Derived.Test.YtjofajjhhjpkiaaJ4
import Derived.Test.YtjofajjhhjpkiaaJ5
import Derived.Test.YtjofajjhhjpkiaaJ6
import Derived.Test.YtjofajjhhjpkiaaJ7
import Derived.Test.YtjofajjhhjpkiaaJ8
import Derived.Test.YtjofajjhhjpkiaaJ9
import Derived.Test.YtjofajjhhjpkiaaRows
set_option linter.unusedSimpArgs false
set_option linter.unusedVariables false
namespace Go.Proofs.Ytjofajjhhjpkiaa
open Go.ChangeShapes Go.WideShapes Go.ChangeAt Go.RowKit Go.Sym

theorem Try.own : ownKnob Try.prog.godebug = none := by kernel_rfl
theorem Try.laidOut : laidOutB Try.prog = true := by kernel_rfl

set_option maxRecDepth 100000 in
theorem lamportTurned_lifted (os : Os) (started : os.Started) (H : Type) (enc : TypeId × Value → H) :
    ReturnsInHanded {} Try.checked os 7 .any (Rows.lamportTurnedSpec.pre6 enc Try.prog Try.f7 Rows.lamportTurnedRow.domain false) (Rows.lamportTurnedSpec.post enc Try.prog Try.f7 false true false false) := by
  refine returnsInHanded_of_change (C := Try.checked) Try.own started (by kernel_rfl) Try.func7
    (ChangeSpec.witness6 (enc := enc) (C := Try.checked) false ⟨#[], #[.agg (Array.replicate 32 (.int .u8 0)), .int .u64 0, .slice none 0 0, .int .u16 0, .int .u8 0], []⟩ 8 (by kernel_rfl) (by kernel_rfl) (by kernel_rfl) (by kernel_rfl)) ?_
  intro W base args ds gs before hval hW hcnd _
  refine law_calls (s := Rows.lamportTurnedSpec) (tb := 4) 4 hval hW rfl (fun hl => ?_) rfl rfl Try.laidOut (by kernel_rfl) (by kernel_rfl) fun xs hok _ => ?_
  · obtain ⟨a, b, c, d, e, rfl⟩ := len5 (hl.trans (show Try.f7.params.size = 5 by kernel_rfl))
    exact ⟨rfl, rfl, rfl⟩
  · rw [show Try.f7.params.toList = [23, 34, 24, 43, 5] by kernel_rfl] at hok
    obtain ⟨x0, x1, x2, x3, x4, rfl, h0, h1, h2, h3, h4⟩ := okAll5 hok
    obtain ⟨s, hs, rfl⟩ := dig_of (n := 2) h0
    obtain ⟨k, rfl, hk⟩ := u64_of (n := 2) h1
    obtain ⟨b, rfl⟩ := sl_of (n := 2) h2
    obtain ⟨a, rfl, ha⟩ := u16_of (n := 2) h3
    obtain ⟨c, rfl⟩ := byte_of (n := 3) h4
    exact lamportTurned_main s hs k hk b a ha c

theorem lamportTurned_holds : Rows.LamportTurnedSaid :=
  OpenClaim.holds_of_wide 7 Try.f7 rfl rfl rfl rfl rfl rfl rfl ⟨rfl, rfl, rfl, rfl, rfl⟩ rfl rfl rfl rfl rfl (by kernel_rfl) Try.func7 (by kernel_rfl)
    (of_decide_eq_true (by kernel_rfl)) (by unfold Func.isWrapper; first | (rw [if_pos (by decide +kernel)]; kernel_rfl) | (rw [if_neg (by decide +kernel)]; exact ⟨rfl, rfl⟩))
    (fun os started H enc _ => lamportTurned_lifted os started H enc)

end Go.Proofs.Ytjofajjhhjpkiaa
