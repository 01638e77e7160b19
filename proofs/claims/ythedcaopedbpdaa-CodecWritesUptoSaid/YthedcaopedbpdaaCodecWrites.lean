/-
Proved: blazonlaw04.CodecWrites returns true for any bytes, number, text and digest whose bulk together is at most 1048576, and each argument reads behind the call as it read before.
-/
import Derived.Test.YthedcaopedbpdaaRows
import Derived.OpenShut
import Derived.JoinedCond
import Derived.Test.YthedcaopedbpdaaReadb
import Derived.Test.YthedcaopedbpdaaCodej
namespace Go.Proofs.Ythedcaopedbpdaa
open Go.ChangeShapes Go.WideShapes Go.ChangeAt Go.RowKit Go.Sym

theorem Try.own : ownKnob Try.prog.godebug = none := by kernel_rfl
theorem Try.laidOut : laidOutB Try.prog = true := by kernel_rfl

set_option maxRecDepth 100000 in
theorem codecWrites_lifted (os : Os) (started : os.Started) (H : Type) (enc : TypeId × Value → H) (F : Stop.Interp) :
    ReturnsInHanded {} Try.checked os 3 .any ((Rows.OpenSpec.upto Rows.codecWritesSpec).pre6 enc Try.prog Try.f3 Rows.codecWritesUptoRow.domain false) (((Rows.OpenSpec.upto Rows.codecWritesSpec).at F).post enc Try.prog Try.f3 false true false false) := by
  refine returnsInHanded_of_cond (C := Try.checked) (s := Rows.OpenSpec.upto Rows.codecWritesSpec) (k := Rows.uptoSmall) rfl Try.own started (by kernel_rfl) Try.func3
    (OpenSpec.witness (enc := enc) (C := Try.checked) (s := Rows.OpenSpec.upto Rows.codecWritesSpec) (k := Rows.uptoSmall) rfl false ⟨#[], #[.slice none 0 0, .int .u64 0, .slice none 0 0, .agg (Array.replicate 32 (.int .u8 0))], []⟩ 8 (by kernel_rfl) (by kernel_rfl) (by kernel_rfl)
      (x := ([.nil, .lit (.int .u64 0), .nil, .agg (List.replicate 32 (.lit (.int .u8 0)))], [], [])) (by kernel_rfl) rfl (by kernel_rfl)) ?_
  intro W base args ds gs before hval hW _ hk _
  refine law_calls (s := Rows.codecWritesSpec) (tb := 4) 4 hval hW rfl (fun hl => ?_) rfl rfl Try.laidOut (by kernel_rfl) (by kernel_rfl) fun xs hok hrel => ?_
  · obtain ⟨a, b, c, d, rfl⟩ := len4 (hl.trans (show Try.f3.params.size = 4 by kernel_rfl))
    exact ⟨rfl, rfl, rfl⟩
  · rw [show Try.f3.params.toList = [22, 23, 22, 25] by kernel_rfl] at hok
    obtain ⟨x0, x1, x2, x3, rfl, h0, h1, h2, h3⟩ := okAll4 hok
    have hb := bulk_of hrel hk
    obtain ⟨b, rfl⟩ := sl_of (n := 2) h0
    obtain ⟨n, rfl, hn⟩ := u64_of (n := 3) h1
    obtain ⟨t, rfl⟩ := sl_of (n := 2) h2
    obtain ⟨d, hd, rfl⟩ := dig_of (n := 2) h3
    have l1 := bulks_len (b.map byteD)
    have l2 := bulks_len (t.map byteD)
    simp only [D.bulks, D.bulk, List.length_map] at hb l1 l2
    exact codecWrites_main b t d n hn hd (by omega) (by omega)

theorem codecWrites_holds : Rows.CodecWritesUptoSaid :=
  OpenClaim.holds_of_cond 3 Try.f3 rfl rfl rfl rfl rfl rfl rfl ⟨rfl, rfl, rfl, rfl, rfl⟩ rfl rfl rfl rfl rfl (by kernel_rfl) Try.func3 (by kernel_rfl)
    (of_decide_eq_true (by kernel_rfl)) (by unfold Func.isWrapper; first | (rw [if_pos (by decide +kernel)]; kernel_rfl) | (rw [if_neg (by decide +kernel)]; exact ⟨rfl, rfl⟩))
    (fun os started H enc _ F => codecWrites_lifted os started H enc F)

end Go.Proofs.Ythedcaopedbpdaa
