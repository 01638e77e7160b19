/-
Proved: blazonlaw08.ProofShort returns true for any indexes, values, index and digest, and each argument reads behind the call as it read before.
-/
import Derived.Test.YtpeglanfbmpoeaaJ1
import Derived.Test.YtpeglanfbmpoeaaJ2
import Derived.Test.YtpeglanfbmpoeaaJ3
import Derived.Test.YtpeglanfbmpoeaaJ4
import Derived.Test.YtpeglanfbmpoeaaJ5
import Derived.Test.YtpeglanfbmpoeaaJ6
import Derived.Test.YtpeglanfbmpoeaaJ7
import Derived.Test.YtpeglanfbmpoeaaJ8
import Derived.Test.YtpeglanfbmpoeaaJ9
import Derived.Test.YtpeglanfbmpoeaaJ10
import Derived.Test.YtpeglanfbmpoeaaJ11
import Derived.Test.YtpeglanfbmpoeaaJ12
import Derived.Test.YtpeglanfbmpoeaaJ13
import Derived.Test.YtpeglanfbmpoeaaJ14
import Derived.Test.YtpeglanfbmpoeaaJ15
import Derived.Test.YtpeglanfbmpoeaaJ16
import Derived.Test.YtpeglanfbmpoeaaJ17
import Derived.Test.YtpeglanfbmpoeaaRows
set_option linter.unusedSimpArgs false
set_option linter.unusedVariables false
namespace Go.Proofs.Ytpeglanfbmpoeaa
open Go.ChangeShapes Go.WideShapes Go.ChangeAt Go.RowKit Go.Sym

theorem Try.own : ownKnob Try.prog.godebug = none := by kernel_rfl
theorem Try.laidOut : laidOutB Try.prog = true := by kernel_rfl

set_option maxRecDepth 100000 in
theorem proofShort_lifted (os : Os) (started : os.Started) (H : Type) (enc : TypeId × Value → H) :
    ReturnsInHanded {} Try.checked os 7 .any (Rows.proofShortSpec.pre6 enc Try.prog Try.f7 Rows.proofShortRow.domain false) (Rows.proofShortSpec.post enc Try.prog Try.f7 false true false false) := by
  refine returnsInHanded_of_change (C := Try.checked) Try.own started (by kernel_rfl) Try.func7
    (ChangeSpec.witness6 (enc := enc) (C := Try.checked) false ⟨#[], #[.slice none 0 0, .slice none 0 0, .agg (Array.replicate 32 (.int .u8 0)), .agg (Array.replicate 32 (.int .u8 0))], []⟩ 8 (by kernel_rfl) (by kernel_rfl) (by kernel_rfl) (by kernel_rfl)) ?_
  intro W base args ds gs before hval hW hcnd _
  refine law_calls (s := Rows.proofShortSpec) (tb := 4) 5 hval hW rfl (fun hl => ?_) rfl rfl Try.laidOut (by kernel_rfl) (by kernel_rfl) fun xs hok _ => ?_
  · obtain ⟨a, b, c, d, rfl⟩ := len4 (hl.trans (show Try.f7.params.size = 4 by kernel_rfl))
    exact ⟨rfl, rfl, rfl⟩
  · rw [show Try.f7.params.toList = [24, 24, 23, 23] by kernel_rfl] at hok
    obtain ⟨x0, x1, x2, x3, rfl, h0, h1, h2, h3⟩ := okAll4 hok
    obtain ⟨a, rfl, ha, _⟩ := digs_of (n := 2) h0
    obtain ⟨v, rfl, hv, hl⟩ := digs_of (n := 2) h1
    obtain ⟨q, hq, rfl⟩ := dig_of (n := 3) h2
    obtain ⟨m, hm, rfl⟩ := dig_of (n := 3) h3
    exact proofShort_main a v q m ha hv hq hm (Nat.lt_of_le_of_lt hl (by decide))

theorem proofShort_holds : Rows.ProofShortSaid :=
  OpenClaim.holds_of_wide 7 Try.f7 rfl rfl rfl rfl rfl rfl rfl ⟨rfl, rfl, rfl, rfl, rfl⟩ rfl rfl rfl rfl rfl (by kernel_rfl) Try.func7 (by kernel_rfl)
    (of_decide_eq_true (by kernel_rfl)) (by unfold Func.isWrapper; first | (rw [if_pos (by decide +kernel)]; kernel_rfl) | (rw [if_neg (by decide +kernel)]; exact ⟨rfl, rfl⟩))
    (fun os started H enc _ => proofShort_lifted os started H enc)

end Go.Proofs.Ytpeglanfbmpoeaa
