/-
Proved: blazonlaw08.ProofTurned returns true for any index, way, place and digest, and each argument reads behind the call as it read before.
-/
import Derived.Test.YtpeglanfbmpoeaaJ1
import Derived.Test.YtpeglanfbmpoeaaJ2
import Derived.Test.YtpeglanfbmpoeaaJ3
import Derived.Test.YtpeglanfbmpoeaaJ4
import Derived.Test.YtpeglanfbmpoeaaJ5
import Derived.Test.YtpeglanfbmpoeaaJ6
import Derived.Test.YtpeglanfbmpoeaaJ7
import Derived.Test.YtpeglanfbmpoeaaJ8
import Derived.Test.YtpeglanfbmpoeaaJ9
import Derived.Test.YtpeglanfbmpoeaaJ10
import Derived.Test.YtpeglanfbmpoeaaJ11
import Derived.Test.YtpeglanfbmpoeaaJ12
import Derived.Test.YtpeglanfbmpoeaaJ13
import Derived.Test.YtpeglanfbmpoeaaJ14
import Derived.Test.YtpeglanfbmpoeaaJ15
import Derived.Test.YtpeglanfbmpoeaaJ16
import Derived.Test.YtpeglanfbmpoeaaJ17
import Derived.Test.YtpeglanfbmpoeaaRows
set_option linter.unusedSimpArgs false
set_option linter.unusedVariables false
namespace Go.Proofs.Ytpeglanfbmpoeaa
open Go.ChangeShapes Go.WideShapes Go.ChangeAt Go.RowKit Go.Sym

theorem Try.own : ownKnob Try.prog.godebug = none := by kernel_rfl
theorem Try.laidOut : laidOutB Try.prog = true := by kernel_rfl

set_option maxRecDepth 100000 in
theorem proofTurned_lifted (os : Os) (started : os.Started) (H : Type) (enc : TypeId × Value → H) :
    ReturnsInHanded {} Try.checked os 6 .any (Rows.proofTurnedSpec.pre6 enc Try.prog Try.f6 Rows.proofTurnedRow.domain false) (Rows.proofTurnedSpec.post enc Try.prog Try.f6 false true false false) := by
  refine returnsInHanded_of_change (C := Try.checked) Try.own started (by kernel_rfl) Try.func6
    (ChangeSpec.witness6 (enc := enc) (C := Try.checked) false ⟨#[], #[.agg (Array.replicate 32 (.int .u8 0)), .agg (#[.slice none 0 0, .int .i64 0] ++ Array.replicate 64 (.int .u8 0)), .int .i64 0, .agg (Array.replicate 32 (.int .u8 0))], []⟩ 8 (by kernel_rfl) (by kernel_rfl) (by kernel_rfl) (by kernel_rfl)) ?_
  intro W base args ds gs before hval hW hcnd _
  refine law_calls (s := Rows.proofTurnedSpec) (tb := 4) 5 hval hW rfl (fun hl => ?_) rfl rfl Try.laidOut (by kernel_rfl) (by kernel_rfl) fun xs hok _ => ?_
  · obtain ⟨a, b, c, d, rfl⟩ := len4 (hl.trans (show Try.f6.params.size = 4 by kernel_rfl))
    exact ⟨rfl, rfl, rfl⟩
  · rw [show Try.f6.params.toList = [23, 26, 3, 23] by kernel_rfl] at hok
    obtain ⟨x0, x1, x2, x3, rfl, h0, h1, h2, h3⟩ := okAll4 hok
    obtain ⟨i, hi, rfl⟩ := dig_of (n := 3) h0
    obtain ⟨p, rfl, hp, _⟩ := prf_of (n := 1) h1
    obtain ⟨m, rfl, _, _⟩ := int_of (n := 4) h2
    obtain ⟨b, hb, rfl⟩ := dig_of (n := 3) h3
    exact proofTurned_main i hi p hp m b hb

theorem proofTurned_holds : Rows.ProofTurnedSaid :=
  OpenClaim.holds_of_wide 6 Try.f6 rfl rfl rfl rfl rfl rfl rfl ⟨rfl, rfl, rfl, rfl, rfl⟩ rfl rfl rfl rfl rfl (by kernel_rfl) Try.func6 (by kernel_rfl)
    (of_decide_eq_true (by kernel_rfl)) (by unfold Func.isWrapper; first | (rw [if_pos (by decide +kernel)]; kernel_rfl) | (rw [if_neg (by decide +kernel)]; exact ⟨rfl, rfl⟩))
    (fun os started H enc _ => proofTurned_lifted os started H enc)

end Go.Proofs.Ytpeglanfbmpoeaa
