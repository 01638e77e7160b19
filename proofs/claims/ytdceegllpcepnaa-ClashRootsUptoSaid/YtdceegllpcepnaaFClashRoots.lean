/-
Proved: blazonlaw09.ClashRoots returns true for any roots, digests and bindings whose bulk together is at most 1048576, and each argument reads behind the call as it read before.
-/
import Derived.Test.YtdceegllpcepnaaJ1
import Derived.Test.YtdceegllpcepnaaJ2
import Derived.Test.YtdceegllpcepnaaJ3
import Derived.Test.YtdceegllpcepnaaJ4
import Derived.Test.YtdceegllpcepnaaJ5
import Derived.Test.YtdceegllpcepnaaJ6
import Derived.Test.YtdceegllpcepnaaJ7
import Derived.Test.YtdceegllpcepnaaJ8
import Derived.Test.YtdceegllpcepnaaJ9
import Derived.Test.YtdceegllpcepnaaJ10
import Derived.Test.YtdceegllpcepnaaJ11
import Derived.Test.YtdceegllpcepnaaJ12
import Derived.Test.YtdceegllpcepnaaJ13
import Derived.Test.YtdceegllpcepnaaJ14
import Derived.Test.YtdceegllpcepnaaJ15
import Derived.Test.YtdceegllpcepnaaJ16
import Derived.Test.YtdceegllpcepnaaJ17
import Derived.Test.YtdceegllpcepnaaJ18
import Derived.Test.YtdceegllpcepnaaJ19
import Derived.Test.YtdceegllpcepnaaRows
import Derived.OpenShut
import Derived.JoinedCond
set_option linter.unusedSimpArgs false
set_option linter.unusedVariables false
namespace Go.Proofs.Ytdceegllpcepnaa
open Go.ChangeShapes Go.WideShapes Go.ChangeAt Go.RowKit Go.Sym

theorem Try.own : ownKnob Try.prog.godebug = none := by kernel_rfl
theorem Try.laidOut : laidOutB Try.prog = true := by kernel_rfl

set_option maxRecDepth 100000 in
theorem clashRoots_lifted (os : Os) (started : os.Started) (H : Type) (enc : TypeId × Value → H) (F : Stop.Interp) :
    ReturnsInHanded {} Try.checked os 7 .any ((Rows.OpenSpec.upto Rows.clashRootsSpec).pre6 enc Try.prog Try.f7 Rows.clashRootsUptoRow.domain false) (((Rows.OpenSpec.upto Rows.clashRootsSpec).at F).post enc Try.prog Try.f7 false true false false) := by
  refine returnsInHanded_of_cond (C := Try.checked) (s := Rows.OpenSpec.upto Rows.clashRootsSpec) (k := Rows.uptoSmall) rfl Try.own started (by kernel_rfl) Try.func7
    (OpenSpec.witness (enc := enc) (C := Try.checked) (s := Rows.OpenSpec.upto Rows.clashRootsSpec) (k := Rows.uptoSmall) rfl false ⟨#[], #[.agg (#[.int .u64 0] ++ Array.replicate 96 (.int .u8 0)), .agg (#[.int .u64 0] ++ Array.replicate 96 (.int .u8 0)), .agg (Array.replicate 64 (.int .u8 0)), .agg #[.string ByteArray.empty, .slice none 0 0, .int .u64 0], .agg #[.string ByteArray.empty, .slice none 0 0, .int .u64 0]], []⟩ 8 (by kernel_rfl) (by kernel_rfl) (by kernel_rfl)
      (x := ([.agg [.lit (.int .u64 0), .agg (List.replicate 32 (.lit (.int .u8 0))), .agg (List.replicate 32 (.lit (.int .u8 0))), .agg (List.replicate 32 (.lit (.int .u8 0)))], .agg [.lit (.int .u64 0), .agg (List.replicate 32 (.lit (.int .u8 0))), .agg (List.replicate 32 (.lit (.int .u8 0))), .agg (List.replicate 32 (.lit (.int .u8 0)))], .agg [.agg (List.replicate 32 (.lit (.int .u8 0))), .agg (List.replicate 32 (.lit (.int .u8 0)))], .agg [.lit (.string []), .nil, .lit (.int .u64 0)], .agg [.lit (.string []), .nil, .lit (.int .u64 0)]], [], [])) (by kernel_rfl) rfl (by kernel_rfl)) ?_
  intro W base args ds gs before hval hW _ hk _
  refine law_calls (s := Rows.clashRootsSpec) (tb := 4) 5 hval hW rfl (fun hl => ?_) rfl rfl Try.laidOut (by kernel_rfl) (by kernel_rfl) fun xs hok hrel => ?_
  · obtain ⟨a, b, c, d, e, rfl⟩ := len5 (hl.trans (show Try.f7.params.size = 5 by kernel_rfl))
    exact ⟨rfl, rfl, rfl⟩
  · rw [show Try.f7.params.toList = [56, 56, 57, 59, 59] by kernel_rfl] at hok
    obtain ⟨x0, x1, x2, x3, x4, rfl, h0, h1, h2, h3, h4⟩ := okAll5 hok
    have hb := bulk_of hrel hk
    obtain ⟨r, rfl, r1, r2, r3, r4⟩ := root_of (n := 1) h0
    obtain ⟨s, rfl, s1, s2, s3, s4⟩ := root_of (n := 1) h1
    obtain ⟨x, y, hx, hy, rfl⟩ := dig2_of (n := 2) h2
    obtain ⟨a, rfl, a1, _⟩ := bnd_of (n := 1) h3
    obtain ⟨b, rfl, b1, _⟩ := bnd_of (n := 1) h4
    have l1 := bulk_bnd a
    have l2 := bulk_bnd b
    simp only [D.bulks] at hb
    exact clashRoots_main r s ⟨r1, r2, r3, r4⟩ ⟨s1, s2, s3, s4⟩ x y hx hy a b a1 b1 (by omega) (by omega)

theorem clashRoots_holds : Rows.ClashRootsUptoSaid :=
  OpenClaim.holds_of_cond 7 Try.f7 rfl rfl rfl rfl rfl rfl rfl ⟨rfl, rfl, rfl, rfl, rfl⟩ rfl rfl rfl rfl rfl (by kernel_rfl) Try.func7 (by kernel_rfl)
    (of_decide_eq_true (by kernel_rfl)) (by unfold Func.isWrapper; first | (rw [if_pos (by decide +kernel)]; kernel_rfl) | (rw [if_neg (by decide +kernel)]; exact ⟨rfl, rfl⟩))
    (fun os started H enc _ F => clashRoots_lifted os started H enc F)

end Go.Proofs.Ytdceegllpcepnaa
