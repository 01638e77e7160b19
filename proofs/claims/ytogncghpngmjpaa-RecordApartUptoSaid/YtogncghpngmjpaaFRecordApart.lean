/-
Proved: blazonlaw05.RecordApart returns true for any two bindings, requests, signed roots and proofs whose bulk together is at most 1048576, and each argument reads behind the call as it read before.
-/
import Derived.Test.YtogncghpngmjpaaJ1
import Derived.Test.YtogncghpngmjpaaJ2
import Derived.Test.YtogncghpngmjpaaJ3
import Derived.Test.YtogncghpngmjpaaJ4
import Derived.Test.YtogncghpngmjpaaJ5
import Derived.Test.YtogncghpngmjpaaJ6
import Derived.Test.YtogncghpngmjpaaJ7
import Derived.Test.YtogncghpngmjpaaJ8
import Derived.Test.YtogncghpngmjpaaJ9
import Derived.Test.YtogncghpngmjpaaJ10
import Derived.Test.YtogncghpngmjpaaJ11
import Derived.Test.YtogncghpngmjpaaJ12
import Derived.Test.YtogncghpngmjpaaRows
import Derived.OpenShut
import Derived.JoinedCond
set_option linter.unusedSimpArgs false
set_option linter.unusedVariables false
namespace Go.Proofs.Ytogncghpngmjpaa
open Go.ChangeShapes Go.WideShapes Go.ChangeAt Go.RowKit Go.Sym

theorem Try.own : ownKnob Try.prog.godebug = none := by kernel_rfl
theorem Try.laidOut : laidOutB Try.prog = true := by kernel_rfl

set_option maxRecDepth 100000 in
theorem recordApart_lifted (os : Os) (started : os.Started) (H : Type) (enc : TypeId × Value → H) (F : Stop.Interp) :
    ReturnsInHanded {} Try.checked os 5 .any ((Rows.OpenSpec.upto Rows.recordApartSpec).pre6 enc Try.prog Try.f5 Rows.recordApartUptoRow.domain false) (((Rows.OpenSpec.upto Rows.recordApartSpec).at F).post enc Try.prog Try.f5 false true false false) := by
  refine returnsInHanded_of_cond (C := Try.checked) (s := Rows.OpenSpec.upto Rows.recordApartSpec) (k := Rows.uptoSmall) rfl Try.own started (by kernel_rfl) Try.func5
    (OpenSpec.witness (enc := enc) (C := Try.checked) (s := Rows.OpenSpec.upto Rows.recordApartSpec) (k := Rows.uptoSmall) rfl false ⟨#[], #[.agg #[.string ByteArray.empty, .slice none 0 0, .int .u64 0], .agg #[.string ByteArray.empty, .slice none 0 0, .int .u64 0], .agg (#[.int .i64 0, .string ByteArray.empty, .slice none 0 0] ++ Array.replicate 32 (.int .u8 0)), .agg (#[.int .i64 0, .string ByteArray.empty, .slice none 0 0] ++ Array.replicate 32 (.int .u8 0)), .agg (#[.int .u64 0] ++ Array.replicate 96 (.int .u8 0) ++ #[.slice none 0 0]), .agg (#[.int .u64 0] ++ Array.replicate 96 (.int .u8 0) ++ #[.slice none 0 0]), .agg (#[.slice none 0 0, .int .i64 0] ++ Array.replicate 64 (.int .u8 0)), .agg (#[.slice none 0 0, .int .i64 0] ++ Array.replicate 64 (.int .u8 0))], []⟩ 8 (by kernel_rfl) (by kernel_rfl) (by kernel_rfl)
      (x := ([.agg [.lit (.string []), .nil, .lit (.int .u64 0)], .agg [.lit (.string []), .nil, .lit (.int .u64 0)], .agg [.lit (.int .i64 0), .lit (.string []), .nil, .agg (List.replicate 32 (.lit (.int .u8 0)))], .agg [.lit (.int .i64 0), .lit (.string []), .nil, .agg (List.replicate 32 (.lit (.int .u8 0)))], .agg [.agg [.lit (.int .u64 0), .agg (List.replicate 32 (.lit (.int .u8 0))), .agg (List.replicate 32 (.lit (.int .u8 0))), .agg (List.replicate 32 (.lit (.int .u8 0)))], .nil], .agg [.agg [.lit (.int .u64 0), .agg (List.replicate 32 (.lit (.int .u8 0))), .agg (List.replicate 32 (.lit (.int .u8 0))), .agg (List.replicate 32 (.lit (.int .u8 0)))], .nil], .agg [.nil, .lit (.int .i64 0), .agg (List.replicate 32 (.lit (.int .u8 0))), .agg (List.replicate 32 (.lit (.int .u8 0)))], .agg [.nil, .lit (.int .i64 0), .agg (List.replicate 32 (.lit (.int .u8 0))), .agg (List.replicate 32 (.lit (.int .u8 0)))]], [], [])) (by kernel_rfl) rfl (by kernel_rfl)) ?_
  intro W base args ds gs before hval hW _ hk _
  refine law_calls (s := Rows.recordApartSpec) (tb := 4) 5 hval hW rfl (fun hl => ?_) rfl rfl Try.laidOut (by kernel_rfl) (by kernel_rfl) fun xs hok hrel => ?_
  · obtain ⟨a, b, c, d, e, f, g, h, rfl⟩ := len8 (hl.trans (show Try.f5.params.size = 8 by kernel_rfl))
    exact ⟨rfl, rfl, rfl⟩
  · rw [show Try.f5.params.toList = [25, 25, 38, 38, 42, 42, 30, 30] by kernel_rfl] at hok
    obtain ⟨x0, x1, x2, x3, x4, x5, x6, x7, rfl, h0, h1, h2, h3, h4, h5, h6, h7⟩ := okAll8 hok
    have hb := bulk_of hrel hk
    obtain ⟨b, rfl, hs, _⟩ := bnd_of (n := 1) h0
    obtain ⟨b', rfl, hs', _⟩ := bnd_of (n := 1) h1
    obtain ⟨q, rfl, ha, _⟩ := req_of (n := 1) h2
    obtain ⟨q', rfl, ha', _⟩ := req_of (n := 1) h3
    obtain ⟨s, rfl, hw⟩ := sgn_of (n := 0) h4
    obtain ⟨s', rfl, hw'⟩ := sgn_of (n := 0) h5
    obtain ⟨p, rfl, hp, _⟩ := prf_of (n := 1) h6
    obtain ⟨p', rfl, hp', _⟩ := prf_of (n := 1) h7
    have k1 := bulk_bnd b
    have k2 := bulk_req q
    have k3 := bulk_sgn s
    have k4 := bulk_prf p
    have j1 := bulk_bnd b'
    have j2 := bulk_req q'
    have j3 := bulk_sgn s'
    have j4 := bulk_prf p'
    have hb2 : (bD b).bulk + ((bD b').bulk + ((qD q).bulk + ((qD q').bulk + ((sD s).bulk + ((sD s').bulk + ((pD p).bulk + ((pD p').bulk + 0))))))) ≤ 1048576 := hb
    exact recordApart_main b b' q q' s s' p p' hs hs' ha ha' hw hw' hp hp' (by omega) (by omega) (by omega) (by omega) (by omega) (by omega) (by omega) (by omega)

theorem recordApart_holds : Rows.RecordApartUptoSaid :=
  OpenClaim.holds_of_cond 5 Try.f5 rfl rfl rfl rfl rfl rfl rfl ⟨rfl, rfl, rfl, rfl, rfl⟩ rfl rfl rfl rfl rfl (by kernel_rfl) Try.func5 (by kernel_rfl)
    (of_decide_eq_true (by kernel_rfl)) (by unfold Func.isWrapper; first | (rw [if_pos (by decide +kernel)]; kernel_rfl) | (rw [if_neg (by decide +kernel)]; exact ⟨rfl, rfl⟩))
    (fun os started H enc _ F => recordApart_lifted os started H enc F)

end Go.Proofs.Ytogncghpngmjpaa
