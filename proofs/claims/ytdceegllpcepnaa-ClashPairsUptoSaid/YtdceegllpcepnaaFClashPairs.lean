/-
Proved: blazonlaw09.ClashPairs returns true for any lists of texts whose bulk together is at most 1048576, and each argument reads behind the call as it read before.
-/
import Derived.Test.YtdceegllpcepnaaJ1
import Derived.Test.YtdceegllpcepnaaJ2
import Derived.Test.YtdceegllpcepnaaJ3
import Derived.Test.YtdceegllpcepnaaJ4
import Derived.Test.YtdceegllpcepnaaJ5
import Derived.Test.YtdceegllpcepnaaJ6
import Derived.Test.YtdceegllpcepnaaJ7
import Derived.Test.YtdceegllpcepnaaJ8
import Derived.Test.YtdceegllpcepnaaJ9
import Derived.Test.YtdceegllpcepnaaJ10
import Derived.Test.YtdceegllpcepnaaJ11
import Derived.Test.YtdceegllpcepnaaJ12
import Derived.Test.YtdceegllpcepnaaJ13
import Derived.Test.YtdceegllpcepnaaJ14
import Derived.Test.YtdceegllpcepnaaJ15
import Derived.Test.YtdceegllpcepnaaJ16
import Derived.Test.YtdceegllpcepnaaJ17
import Derived.Test.YtdceegllpcepnaaJ18
import Derived.Test.YtdceegllpcepnaaJ19
import Derived.Test.YtdceegllpcepnaaRows
import Derived.OpenShut
import Derived.JoinedCond
set_option linter.unusedSimpArgs false
set_option linter.unusedVariables false
namespace Go.Proofs.Ytdceegllpcepnaa
open Go.ChangeShapes Go.WideShapes Go.ChangeAt Go.RowKit Go.Sym

theorem Try.own : ownKnob Try.prog.godebug = none := by kernel_rfl
theorem Try.laidOut : laidOutB Try.prog = true := by kernel_rfl

set_option maxRecDepth 100000 in
theorem clashPairs_lifted (os : Os) (started : os.Started) (H : Type) (enc : TypeId × Value → H) (F : Stop.Interp) :
    ReturnsInHanded {} Try.checked os 3 .any ((Rows.OpenSpec.upto Rows.clashPairsSpec).pre6 enc Try.prog Try.f3 Rows.clashPairsUptoRow.domain false) (((Rows.OpenSpec.upto Rows.clashPairsSpec).at F).post enc Try.prog Try.f3 false true false false) := by
  refine returnsInHanded_of_cond (C := Try.checked) (s := Rows.OpenSpec.upto Rows.clashPairsSpec) (k := Rows.uptoSmall) rfl Try.own started (by kernel_rfl) Try.func3
    (OpenSpec.witness (enc := enc) (C := Try.checked) (s := Rows.OpenSpec.upto Rows.clashPairsSpec) (k := Rows.uptoSmall) rfl false ⟨#[], #[.slice none 0 0, .slice none 0 0], []⟩ 8 (by kernel_rfl) (by kernel_rfl) (by kernel_rfl)
      (x := ([.nil, .nil], [], [])) (by kernel_rfl) rfl (by kernel_rfl)) ?_
  intro W base args ds gs before hval hW _ hk _
  refine law_calls (s := Rows.clashPairsSpec) (tb := 4) 5 hval hW rfl (fun hl => ?_) rfl rfl Try.laidOut (by kernel_rfl) (by kernel_rfl) fun xs hok hrel => ?_
  · obtain ⟨a, b, rfl⟩ := len2 (hl.trans (show Try.f3.params.size = 2 by kernel_rfl))
    exact ⟨rfl, rfl, rfl⟩
  · rw [show Try.f3.params.toList = [22, 22] by kernel_rfl] at hok
    obtain ⟨x0, x1, rfl, h0, h1⟩ := okAll2 hok
    have hb := bulk_of hrel hk
    obtain ⟨a, rfl⟩ := texts_of (n := 2) h0
    obtain ⟨b, rfl⟩ := texts_of (n := 2) h1
    have l1 := bulk_texts a
    have l2 := bulk_texts b
    simp only [D.bulks, D.bulk] at hb
    exact clashPairs_main a b (fun t ht => by have := mem_flat ht; omega) (fun t ht => by have := mem_flat ht; omega) (by omega)

theorem clashPairs_holds : Rows.ClashPairsUptoSaid :=
  OpenClaim.holds_of_cond 3 Try.f3 rfl rfl rfl rfl rfl rfl rfl ⟨rfl, rfl, rfl, rfl, rfl⟩ rfl rfl rfl rfl rfl (by kernel_rfl) Try.func3 (by kernel_rfl)
    (of_decide_eq_true (by kernel_rfl)) (by unfold Func.isWrapper; first | (rw [if_pos (by decide +kernel)]; kernel_rfl) | (rw [if_neg (by decide +kernel)]; exact ⟨rfl, rfl⟩))
    (fun os started H enc _ F => clashPairs_lifted os started H enc F)

end Go.Proofs.Ytdceegllpcepnaa
