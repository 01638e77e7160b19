/-
Proved: blazonlaw12.ForkBack returns true for any evidence whose bulk is at most 1048576, and each argument reads behind the call as it read before.
-/
import Derived.Test.YtcdjheiccefcdaaJ1
import Derived.Test.YtcdjheiccefcdaaJ2
import Derived.Test.YtcdjheiccefcdaaJ3
import Derived.Test.YtcdjheiccefcdaaJ4
import Derived.Test.YtcdjheiccefcdaaJ5
import Derived.Test.YtcdjheiccefcdaaJ6
import Derived.Test.YtcdjheiccefcdaaJ7
import Derived.Test.YtcdjheiccefcdaaJ8
import Derived.Test.YtcdjheiccefcdaaJ9
import Derived.Test.YtcdjheiccefcdaaJ10
import Derived.Test.YtcdjheiccefcdaaJ11
import Derived.Test.YtcdjheiccefcdaaJ12
import Derived.Test.YtcdjheiccefcdaaJ13
import Derived.Test.YtcdjheiccefcdaaJ14
import Derived.Test.YtcdjheiccefcdaaJ15
import Derived.Test.YtcdjheiccefcdaaJ16
import Derived.Test.YtcdjheiccefcdaaRows
import Derived.OpenShut
import Derived.JoinedCond
set_option linter.unusedSimpArgs false
set_option linter.unusedVariables false
namespace Go.Proofs.Ytcdjheiccefcdaa
open Go.ChangeShapes Go.WideShapes Go.ChangeAt Go.RowKit Go.Sym

theorem Try.own : ownKnob Try.prog.godebug = none := by kernel_rfl
theorem Try.laidOut : laidOutB Try.prog = true := by kernel_rfl

set_option maxRecDepth 100000 in
theorem forkBack_lifted (os : Os) (started : os.Started) (H : Type) (enc : TypeId × Value → H) (F : Stop.Interp) :
    ReturnsInHanded {} Try.checked os 4 .any ((Rows.OpenSpec.upto Rows.forkBackSpec).pre6 enc Try.prog Try.f4 Rows.forkBackUptoRow.domain false) (((Rows.OpenSpec.upto Rows.forkBackSpec).at F).post enc Try.prog Try.f4 false true false false) := by
  refine returnsInHanded_of_cond (C := Try.checked) (s := Rows.OpenSpec.upto Rows.forkBackSpec) (k := Rows.uptoSmall) rfl Try.own started (by kernel_rfl) Try.func4
    (OpenSpec.witness (enc := enc) (C := Try.checked) (s := Rows.OpenSpec.upto Rows.forkBackSpec) (k := Rows.uptoSmall) rfl false ⟨#[], #[.agg (#[.slice none 0 0] ++ #[.int .u64 0] ++ Array.replicate 96 (.int .u8 0) ++ #[.slice none 0 0] ++ #[.int .u64 0] ++ Array.replicate 96 (.int .u8 0) ++ #[.slice none 0 0])], []⟩ 8 (by kernel_rfl) (by kernel_rfl) (by kernel_rfl)
      (x := ([.agg [.nil, .agg [.agg [.lit (.int .u64 0), .agg (List.replicate 32 (.lit (.int .u8 0))), .agg (List.replicate 32 (.lit (.int .u8 0))), .agg (List.replicate 32 (.lit (.int .u8 0)))], .nil], .agg [.agg [.lit (.int .u64 0), .agg (List.replicate 32 (.lit (.int .u8 0))), .agg (List.replicate 32 (.lit (.int .u8 0))), .agg (List.replicate 32 (.lit (.int .u8 0)))], .nil]]], [], [])) (by kernel_rfl) rfl (by kernel_rfl)) ?_
  intro W base args ds gs before hval hW _ hk _
  refine law_calls (s := Rows.forkBackSpec) (tb := 4) 7 hval hW rfl (fun hl => ?_) rfl rfl Try.laidOut (by kernel_rfl) (by kernel_rfl) fun xs hok hrel => ?_
  · obtain ⟨a, rfl⟩ := len1 (hl.trans (show Try.f4.params.size = 1 by kernel_rfl))
    exact ⟨rfl, rfl, rfl⟩
  · rw [show Try.f4.params.toList = [32] by kernel_rfl] at hok
    obtain ⟨x0, rfl, h0⟩ := okAll1 hok
    have hb := bulk_of hrel hk
    obtain ⟨e, rfl, he⟩ := evd_of (n := 0) h0
    have l1 := bulk_evd e
    simp only [D.bulks] at hb
    exact forkBack_main e he (fun s hs => by have := l1 s hs; omega)

theorem forkBack_holds : Rows.ForkBackUptoSaid :=
  OpenClaim.holds_of_cond 4 Try.f4 rfl rfl rfl rfl rfl rfl rfl ⟨rfl, rfl, rfl, rfl, rfl⟩ rfl rfl rfl rfl rfl (by kernel_rfl) Try.func4 (by kernel_rfl)
    (of_decide_eq_true (by kernel_rfl)) (by unfold Func.isWrapper; first | (rw [if_pos (by decide +kernel)]; kernel_rfl) | (rw [if_neg (by decide +kernel)]; exact ⟨rfl, rfl⟩))
    (fun os started H enc _ F => forkBack_lifted os started H enc F)

end Go.Proofs.Ytcdjheiccefcdaa
