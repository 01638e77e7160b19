/-
Proved: blazonlaw04.CodecApart returns true for any numbers and texts whose bulk together is at most 1048576, and each argument reads behind the call as it read before.
-/
import Derived.Test.YthedcaopedbpdaaJ1
import Derived.Test.YthedcaopedbpdaaJ2
import Derived.Test.YthedcaopedbpdaaJ3
import Derived.Test.YthedcaopedbpdaaJ4
import Derived.Test.YthedcaopedbpdaaJ5
import Derived.Test.YthedcaopedbpdaaRows
import Derived.OpenShut
import Derived.JoinedCond
namespace Go.Proofs.Ythedcaopedbpdaa
open Go.ChangeShapes Go.WideShapes Go.ChangeAt Go.RowKit Go.Sym

theorem Try.own : ownKnob Try.prog.godebug = none := by kernel_rfl
theorem Try.laidOut : laidOutB Try.prog = true := by kernel_rfl

set_option maxRecDepth 100000 in
theorem codecApart_lifted (os : Os) (started : os.Started) (H : Type) (enc : TypeId × Value → H) (F : Stop.Interp) :
    ReturnsInHanded {} Try.checked os 5 .any ((Rows.OpenSpec.upto Rows.codecApartSpec).pre6 enc Try.prog Try.f5 Rows.codecApartUptoRow.domain false) (((Rows.OpenSpec.upto Rows.codecApartSpec).at F).post enc Try.prog Try.f5 false true false false) := by
  refine returnsInHanded_of_cond (C := Try.checked) (s := Rows.OpenSpec.upto Rows.codecApartSpec) (k := Rows.uptoSmall) rfl Try.own started (by kernel_rfl) Try.func5
    (OpenSpec.witness (enc := enc) (C := Try.checked) (s := Rows.OpenSpec.upto Rows.codecApartSpec) (k := Rows.uptoSmall) rfl false ⟨#[], #[.slice none 0 0, .slice none 0 0, .slice none 0 0, .slice none 0 0], []⟩ 8 (by kernel_rfl) (by kernel_rfl) (by kernel_rfl)
      (x := ([.nil, .nil, .nil, .nil], [], [])) (by kernel_rfl) rfl (by kernel_rfl)) ?_
  intro W base args ds gs before hval hW _ hk _
  refine law_calls (s := Rows.codecApartSpec) (tb := 4) 4 hval hW rfl (fun hl => ?_) rfl rfl Try.laidOut (by kernel_rfl) (by kernel_rfl) fun xs hok hrel => ?_
  · obtain ⟨a, b, c, d, rfl⟩ := len4 (hl.trans (show Try.f5.params.size = 4 by kernel_rfl))
    exact ⟨rfl, rfl, rfl⟩
  · rw [show Try.f5.params.toList = [48, 48, 32, 32] by kernel_rfl] at hok
    obtain ⟨x0, x1, x2, x3, rfl, h0, h1, h2, h3⟩ := okAll4 hok
    have hb := bulk_of hrel hk
    obtain ⟨a, rfl, ha⟩ := nums_of (n := 2) h0
    obtain ⟨b, rfl, hb2⟩ := nums_of (n := 2) h1
    obtain ⟨s, rfl⟩ := texts_of (n := 1) h2
    obtain ⟨t, rfl⟩ := texts_of (n := 1) h3
    have l1 := bulks_len (a.map nD)
    have l2 := bulks_len (b.map nD)
    have l3 := bulk_texts s
    have l4 := bulk_texts t
    simp only [D.bulks, D.bulk, List.length_map] at hb l1 l2
    exact codecApart_main a b s t ha hb2 (by omega) (by omega) (by omega) (by omega) (by omega) (by omega)

theorem codecApart_holds : Rows.CodecApartUptoSaid :=
  OpenClaim.holds_of_cond 5 Try.f5 rfl rfl rfl rfl rfl rfl rfl ⟨rfl, rfl, rfl, rfl, rfl⟩ rfl rfl rfl rfl rfl (by kernel_rfl) Try.func5 (by kernel_rfl)
    (of_decide_eq_true (by kernel_rfl)) (by unfold Func.isWrapper; first | (rw [if_pos (by decide +kernel)]; kernel_rfl) | (rw [if_neg (by decide +kernel)]; exact ⟨rfl, rfl⟩))
    (fun os started H enc _ F => codecApart_lifted os started H enc F)

end Go.Proofs.Ythedcaopedbpdaa
