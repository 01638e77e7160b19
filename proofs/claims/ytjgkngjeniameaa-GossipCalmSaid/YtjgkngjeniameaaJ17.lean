import Derived.Test.YtjgkngjeniameaaJ7
import Derived.Test.YtjgkngjeniameaaJ16
set_option linter.unusedSimpArgs false
set_option linter.unusedVariables false
namespace Go.Proofs.Ytjgkngjeniameaa
open Go.Sym
set_option maxRecDepth 10000
theorem ints_in {n : Nat} : ∀ (xs : List D), (∀ y, y ∈ xs → okD Try.prog (n + 1) 3 y) → ∃ ns : List Int, xs = ns.map intD
  | [], _ => ⟨[], rfl⟩
  | x :: xs, h => by
    obtain ⟨m, rfl, _⟩ := int_of (h x (by simp))
    obtain ⟨ns, rfl⟩ := ints_in xs fun y hy => h y (by simp [hy])
    exact ⟨m :: ns, rfl⟩
theorem ints_of {n : Nat} {x : D} (h : okD Try.prog (n + 2) 50 x) : ∃ ns : List Int, x = .sl (ns.map intD) := by
  have hu : Try.prog.underlying 50 = some (.slice 3) := rfl
  rw [show n + 2 = (n + 1) + 1 from rfl, okD, hu] at h
  obtain ⟨xs, rfl, _, hx⟩ := h
  obtain ⟨ns, rfl⟩ := ints_in (n := n) xs hx
  exact ⟨ns, rfl⟩
end Go.Proofs.Ytjgkngjeniameaa
