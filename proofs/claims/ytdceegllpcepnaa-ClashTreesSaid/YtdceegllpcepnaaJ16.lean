import Derived.Test.YtdceegllpcepnaaJ1
import Derived.Test.YtdceegllpcepnaaJ2
import Derived.Test.YtdceegllpcepnaaJ3
import Derived.Test.YtdceegllpcepnaaJ4
import Derived.Test.YtdceegllpcepnaaJ5
import Derived.Test.YtdceegllpcepnaaJ6
import Derived.Test.YtdceegllpcepnaaJ7
import Derived.Test.YtdceegllpcepnaaJ8
import Derived.Test.YtdceegllpcepnaaJ9
import Derived.Test.YtdceegllpcepnaaJ10
import Derived.Test.YtdceegllpcepnaaJ11
import Derived.Test.YtdceegllpcepnaaJ12
import Derived.Test.YtdceegllpcepnaaJ13
import Derived.Test.YtdceegllpcepnaaJ14
import Derived.Test.YtdceegllpcepnaaJ15
set_option linter.unusedSimpArgs false
set_option linter.unusedVariables false
/-
What the laws of ways and trees return.
-/
set_option linter.unusedSimpArgs false
set_option linter.unusedVariables false
namespace Go.Proofs.Ytdceegllpcepnaa
open Go.Sym
set_option maxRecDepth 10000
set_option maxHeartbeats 4000000

theorem ofL_ok {a v : List (List UInt8)} (ha : ∀ x, x ∈ a → x.length = 32) (hv : ∀ x, x ∈ v → x.length = 32) (hl : a.length ≤ 60) : wfL (ofL a v) ∧ (keysL (ofL a v)).Nodup ∧ (ofL a v).length ≤ 1000 := by
  have hz : (a.zip v).length ≤ 60 := by rw [List.length_zip]; omega
  obtain ⟨h1, h2, h3⟩ := ofN_ok ha hv 60
  rw [ofN_all a v hz] at h1 h2 h3
  exact ⟨h1, h2, by omega⟩

section
variable {L : Lvs} (hw : wfL L) (hn : (keysL L).Nodup) (hl : L.length ≤ 1000)
include hw hn hl
theorem rootL_ok : LocalCall Try.prog 20 [.d (lvD L), .d (.int .i64 0)] [] [] (one [.d (digD (rootL L))]) [] := root_ok 256 0 L rfl hw hn (agree_zero L) hl
omit hl in
theorem checkL_ok {idx : List UInt8} (hx : idx.length = 32) : LocalCall Try.prog 18 [.d (digD (rootL L)), .d (digD idx), .d (pD (prfL L idx))] [] [] (one [.d (digD ((getL L idx).getD zero32)), .d (.bool (getL L idx).isSome), .d (.int .i64 0)]) [] := by
  have c := pcheck_ok (rootL L) idx (rootF_length _ _ _) hx (prfL L idx) (prfL_wf hw hn idx) (Nat.le_trans (prfL_len hw hn idx) (by decide))
  obtain ⟨h1, h2, h3⟩ := prfL_ok hw hn hx
  unfold errP at c
  rwa [h1, h2, h3, cond_true] at c
end

end Go.Proofs.Ytdceegllpcepnaa
