import Derived.Test.YtogncghpngmjpaaJ1
import Derived.Test.YtogncghpngmjpaaJ2
import Derived.Test.YtogncghpngmjpaaJ3
import Derived.Test.YtogncghpngmjpaaJ4
import Derived.Test.YtogncghpngmjpaaJ5
import Derived.Test.YtogncghpngmjpaaJ6
set_option linter.unusedSimpArgs false
set_option linter.unusedVariables false
/-
Things read one behind the other by the reference's reader, bad or not.
-/
set_option linter.unusedSimpArgs false
set_option linter.unusedVariables false
namespace Go.Proofs.Ytogncghpngmjpaa
open Go.Sym
set_option maxRecDepth 10000
set_option maxHeartbeats 1000000

/-- What is known of numbers (or texts) being read one behind the other. -/
structure RfI {α : Type} (rd : Nat → Nat → Option (List α × Nat)) (len n : Nat) (R : Option (List α × Nat)) (x : List α × Nat × Bool × Nat) : Prop where
  h : (bif x.2.2.1 then none else (rd (n - x.2.2.2) x.2.1).map fun p => (x.1 ++ p.1, p.2)) = R
  hi : x.2.2.2 ≤ n
  hl : x.1.length = x.2.2.2
  hk : x.2.1 ≤ len

theorem RfI.bad {α : Type} {rd : Nat → Nat → Option (List α × Nat)} {len n : Nat} {R : Option (List α × Nat)} {x : List α × Nat × Bool × Nat} (hI : RfI rd len n R x) (h : x.2.2.1 = true) : R = none := by
  rw [← hI.h, h]; rfl

theorem RfI.stop {α : Type} {rd : Nat → Nat → Option (List α × Nat)} {len n : Nat} {R : Option (List α × Nat)} {x : List α × Nat × Bool × Nat} (h0 : ∀ k, rd 0 k = some ([], k)) (hI : RfI rd len n R x) (h : x.2.2.1 = false) (hn : n ≤ x.2.2.2) : R = some (x.1, x.2.1) := by
  rw [← hI.h, h, Nat.sub_eq_zero_of_le hn, h0]
  simp

end Go.Proofs.Ytogncghpngmjpaa
