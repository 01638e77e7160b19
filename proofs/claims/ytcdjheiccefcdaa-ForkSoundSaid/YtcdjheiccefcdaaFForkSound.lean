/-
Proved: blazonlaw12.ForkSound returns true for any seed, trees and evidence, and each argument reads behind the call as it read before.
-/
import Derived.Test.YtcdjheiccefcdaaJ1
import Derived.Test.YtcdjheiccefcdaaJ2
import Derived.Test.YtcdjheiccefcdaaJ3
import Derived.Test.YtcdjheiccefcdaaJ4
import Derived.Test.YtcdjheiccefcdaaJ5
import Derived.Test.YtcdjheiccefcdaaJ6
import Derived.Test.YtcdjheiccefcdaaJ7
import Derived.Test.YtcdjheiccefcdaaJ8
import Derived.Test.YtcdjheiccefcdaaJ9
import Derived.Test.YtcdjheiccefcdaaJ10
import Derived.Test.YtcdjheiccefcdaaJ11
import Derived.Test.YtcdjheiccefcdaaJ12
import Derived.Test.YtcdjheiccefcdaaRows
set_option linter.unusedSimpArgs false
set_option linter.unusedVariables false
namespace Go.Proofs.Ytcdjheiccefcdaa
open Go.ChangeShapes Go.WideShapes Go.ChangeAt Go.RowKit Go.Sym

theorem Try.own : ownKnob Try.prog.godebug = none := by kernel_rfl
theorem Try.laidOut : laidOutB Try.prog = true := by kernel_rfl

set_option maxRecDepth 100000 in
theorem forkSound_lifted (os : Os) (started : os.Started) (H : Type) (enc : TypeId × Value → H) :
    ReturnsInHanded {} Try.checked os 5 .any (Rows.forkSoundSpec.pre6 enc Try.prog Try.f5 Rows.forkSoundRow.domain false) (Rows.forkSoundSpec.post enc Try.prog Try.f5 false true false false) := by
  refine returnsInHanded_of_change (C := Try.checked) Try.own started (by kernel_rfl) Try.func5
    (ChangeSpec.witness6 (enc := enc) (C := Try.checked) false ⟨#[], #[.agg (Array.replicate 32 (.int .u8 0)), .slice none 0 0, .agg (#[.slice none 0 0] ++ #[.int .u64 0] ++ Array.replicate 96 (.int .u8 0) ++ #[.slice none 0 0] ++ #[.int .u64 0] ++ Array.replicate 96 (.int .u8 0) ++ #[.slice none 0 0])], []⟩ 8 (by kernel_rfl) (by kernel_rfl) (by kernel_rfl) (by kernel_rfl)) ?_
  intro W base args ds gs before hval hW hcnd _
  refine law_calls (s := Rows.forkSoundSpec) (tb := 4) 7 hval hW rfl (fun hl => ?_) rfl rfl Try.laidOut (by kernel_rfl) (by kernel_rfl) fun xs hok _ => ?_
  · obtain ⟨a, b, c, rfl⟩ := len3 (hl.trans (show Try.f5.params.size = 3 by kernel_rfl))
    exact ⟨rfl, rfl, rfl⟩
  · rw [show Try.f5.params.toList = [23, 43, 32] by kernel_rfl] at hok
    obtain ⟨x0, x1, x2, rfl, h0, h1, h2⟩ := okAll3 hok
    obtain ⟨s, hs, rfl⟩ := dig_of (n := 5) h0
    obtain ⟨t, rfl, ht, hm⟩ := digs_of (n := 4) h1
    obtain ⟨e, rfl, he⟩ := evd_of (n := 0) h2
    exact forkSound_main s hs t ht e he (Nat.lt_of_le_of_lt hm (by decide))

theorem forkSound_holds : Rows.ForkSoundSaid :=
  OpenClaim.holds_of_wide 5 Try.f5 rfl rfl rfl rfl rfl rfl rfl ⟨rfl, rfl, rfl, rfl, rfl⟩ rfl rfl rfl rfl rfl (by kernel_rfl) Try.func5 (by kernel_rfl)
    (of_decide_eq_true (by kernel_rfl)) (by unfold Func.isWrapper; first | (rw [if_pos (by decide +kernel)]; kernel_rfl) | (rw [if_neg (by decide +kernel)]; exact ⟨rfl, rfl⟩))
    (fun os started H enc _ => forkSound_lifted os started H enc)

end Go.Proofs.Ytcdjheiccefcdaa
