/-
Proved: blazonlaw04.CodecReader returns true for any bytes and number whose bulk together is at most 1048576, and each argument reads behind the call as it read before.
-/
import Derived.Test.YthedcaopedbpdaaJ1
import Derived.Test.YthedcaopedbpdaaJ2
import Derived.Test.YthedcaopedbpdaaJ3
import Derived.Test.YthedcaopedbpdaaJ4
import Derived.Test.YthedcaopedbpdaaJ5
import Derived.Test.YthedcaopedbpdaaJ6
import Derived.Test.YthedcaopedbpdaaRows
import Derived.OpenShut
import Derived.JoinedCond
namespace Go.Proofs.Ythedcaopedbpdaa
open Go.ChangeShapes Go.WideShapes Go.ChangeAt Go.RowKit Go.Sym

theorem Try.own : ownKnob Try.prog.godebug = none := by kernel_rfl
theorem Try.laidOut : laidOutB Try.prog = true := by kernel_rfl

set_option maxRecDepth 100000 in
theorem codecReader_lifted (os : Os) (started : os.Started) (H : Type) (enc : TypeId × Value → H) (F : Stop.Interp) :
    ReturnsInHanded {} Try.checked os 4 .any ((Rows.OpenSpec.upto Rows.codecReaderSpec).pre6 enc Try.prog Try.f4 Rows.codecReaderUptoRow.domain false) (((Rows.OpenSpec.upto Rows.codecReaderSpec).at F).post enc Try.prog Try.f4 false true false false) := by
  refine returnsInHanded_of_cond (C := Try.checked) (s := Rows.OpenSpec.upto Rows.codecReaderSpec) (k := Rows.uptoSmall) rfl Try.own started (by kernel_rfl) Try.func4
    (OpenSpec.witness (enc := enc) (C := Try.checked) (s := Rows.OpenSpec.upto Rows.codecReaderSpec) (k := Rows.uptoSmall) rfl false ⟨#[], #[.slice none 0 0, .int .i64 0], []⟩ 8 (by kernel_rfl) (by kernel_rfl) (by kernel_rfl)
      (x := ([.nil, .lit (.int .i64 0)], [], [])) (by kernel_rfl) rfl (by kernel_rfl)) ?_
  intro W base args ds gs before hval hW _ hk _
  refine law_calls (s := Rows.codecReaderSpec) (tb := 4) 4 hval hW rfl (fun hl => ?_) rfl rfl Try.laidOut (by kernel_rfl) (by kernel_rfl) fun xs hok hrel => ?_
  · obtain ⟨a, b, rfl⟩ := len2 (hl.trans (show Try.f4.params.size = 2 by kernel_rfl))
    exact ⟨rfl, rfl, rfl⟩
  · rw [show Try.f4.params.toList = [22, 3] by kernel_rfl] at hok
    obtain ⟨x0, x1, rfl, h0, h1⟩ := okAll2 hok
    have hb := bulk_of hrel hk
    obtain ⟨b, rfl⟩ := sl_of (n := 2) h0
    obtain ⟨m, rfl, hm1, hm2⟩ := int_of (n := 3) h1
    have l1 := bulks_len (b.map byteD)
    simp only [D.bulks, D.bulk, List.length_map] at hb l1
    exact codecReader_main b m (by omega) hm1 hm2

theorem codecReader_holds : Rows.CodecReaderUptoSaid :=
  OpenClaim.holds_of_cond 4 Try.f4 rfl rfl rfl rfl rfl rfl rfl ⟨rfl, rfl, rfl, rfl, rfl⟩ rfl rfl rfl rfl rfl (by kernel_rfl) Try.func4 (by kernel_rfl)
    (of_decide_eq_true (by kernel_rfl)) (by unfold Func.isWrapper; first | (rw [if_pos (by decide +kernel)]; kernel_rfl) | (rw [if_neg (by decide +kernel)]; exact ⟨rfl, rfl⟩))
    (fun os started H enc _ F => codecReader_lifted os started H enc F)

end Go.Proofs.Ythedcaopedbpdaa
