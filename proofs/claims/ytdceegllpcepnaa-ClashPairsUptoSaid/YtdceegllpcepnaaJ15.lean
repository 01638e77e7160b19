import Derived.Test.YtdceegllpcepnaaJ1
import Derived.Test.YtdceegllpcepnaaJ2
import Derived.Test.YtdceegllpcepnaaJ3
import Derived.Test.YtdceegllpcepnaaJ4
import Derived.Test.YtdceegllpcepnaaJ5
import Derived.Test.YtdceegllpcepnaaJ6
import Derived.Test.YtdceegllpcepnaaJ7
import Derived.Test.YtdceegllpcepnaaJ8
import Derived.Test.YtdceegllpcepnaaJ9
import Derived.Test.YtdceegllpcepnaaJ10
import Derived.Test.YtdceegllpcepnaaJ11
import Derived.Test.YtdceegllpcepnaaJ12
import Derived.Test.YtdceegllpcepnaaJ13
import Derived.Test.YtdceegllpcepnaaJ14
set_option linter.unusedSimpArgs false
set_option linter.unusedVariables false
/-
What the laws of ways return: what is hashed, what is proved.
-/
set_option linter.unusedSimpArgs false
set_option linter.unusedVariables false
namespace Go.Proofs.Ytdceegllpcepnaa
open Go.Sym
set_option maxRecDepth 10000
set_option maxHeartbeats 4000000

theorem digNo8 {a b : List UInt8} (h : (bif false then !(D.arr (31 + 1) (0 + 1) (a.map byteD)).beq (D.arr (31 + 1) (0 + 1) (b.map byteD)) else (D.arr (31 + 1) (0 + 1) (a.map byteD)).beq (D.arr (31 + 1) (0 + 1) (b.map byteD))) = false) : ¬ a = b := by
  have h2 : (D.arr 32 1 (a.map byteD)).beq (D.arr 32 1 (b.map byteD)) = false := h
  rw [beq_dig] at h2
  exact of_decide_eq_false h2

def oneD : List UInt8 := 1 :: List.replicate 31 0
def prf1 : Prf := ⟨[], 1, oneD, oneD⟩
set_option maxRecDepth 100000 in
theorem empty_bits : (wBytes (sblock sFirst ([69] ++ spad 1)) = zero32) = False := by
  refine eq_false ?_
  decide +kernel
theorem empty_ne : ¬ shaB emptyB = zero32 := by
  unfold shaB emptyB
  have hl : ([69] ++ spad (([69] : List UInt8).length % 2 ^ 64)) = [69] ++ spad 1 := rfl
  have h64 : ([69] ++ spad 1).length = 64 := rfl
  have t : ([69] ++ spad 1).take 64 = [69] ++ spad 1 := List.take_of_length_le (by omega)
  have d : ([69] ++ spad 1).drop 64 = [] := List.drop_of_length_le (by omega)
  rw [hl, sblocks_big (by omega), t, d, sblocks_small (by simp), empty_bits]
  exact id

end Go.Proofs.Ytdceegllpcepnaa
