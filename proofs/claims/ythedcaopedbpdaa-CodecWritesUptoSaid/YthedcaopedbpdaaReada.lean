/-
What the readings of the arguments are: digests, numbers, truth values.
-/
import Derived.Test.YthedcaopedbpdaaProg
import Derived.Test.YthedcaopedbpdaaSymz
import Derived.Test.YthedcaopedbpdaaBita
import Derived.KernelRfl
import Derived.ProofKit
namespace Go.Proofs.Ythedcaopedbpdaa
open Go.Sym

theorem len1 {α : Type} : ∀ {l : List α}, l.length = 1 → ∃ a, l = [a]
  | [_], _ => ⟨_, rfl⟩
theorem len2 {α : Type} : ∀ {l : List α}, l.length = 2 → ∃ a b, l = [a, b]
  | [_, _], _ => ⟨_, _, rfl⟩
theorem len3 {α : Type} : ∀ {l : List α}, l.length = 3 → ∃ a b c, l = [a, b, c]
  | [_, _, _], _ => ⟨_, _, _, rfl⟩
theorem len4 {α : Type} : ∀ {l : List α}, l.length = 4 → ∃ a b c d, l = [a, b, c, d]
  | [_, _, _, _], _ => ⟨_, _, _, _, rfl⟩
theorem len5 {α : Type} : ∀ {l : List α}, l.length = 5 → ∃ a b c d e, l = [a, b, c, d, e]
  | [_, _, _, _, _], _ => ⟨_, _, _, _, _, rfl⟩
theorem len6 {α : Type} : ∀ {l : List α}, l.length = 6 → ∃ a b c d e f, l = [a, b, c, d, e, f]
  | [_, _, _, _, _, _], _ => ⟨_, _, _, _, _, _, rfl⟩
theorem len7 {α : Type} : ∀ {l : List α}, l.length = 7 → ∃ a b c d e f g, l = [a, b, c, d, e, f, g]
  | [_, _, _, _, _, _, _], _ => ⟨_, _, _, _, _, _, _, rfl⟩
theorem len8 {α : Type} : ∀ {l : List α}, l.length = 8 → ∃ a b c d e f g h, l = [a, b, c, d, e, f, g, h]
  | [_, _, _, _, _, _, _, _], _ => ⟨_, _, _, _, _, _, _, _, rfl⟩

theorem okAll1 {p : TypeId → D → Prop} {t0 : TypeId} : ∀ {xs : List D}, okAll p [t0] xs → ∃ a, xs = [a] ∧ p t0 a
  | [_], ⟨h0, _⟩ => ⟨_, rfl, h0⟩
theorem okAll2 {p : TypeId → D → Prop} {t0 t1 : TypeId} : ∀ {xs : List D}, okAll p [t0, t1] xs → ∃ a b, xs = [a, b] ∧ p t0 a ∧ p t1 b
  | [_, _], ⟨h0, h1, _⟩ => ⟨_, _, rfl, h0, h1⟩
theorem okAll3 {p : TypeId → D → Prop} {t0 t1 t2 : TypeId} : ∀ {xs : List D}, okAll p [t0, t1, t2] xs → ∃ a b c, xs = [a, b, c] ∧ p t0 a ∧ p t1 b ∧ p t2 c
  | [_, _, _], ⟨h0, h1, h2, _⟩ => ⟨_, _, _, rfl, h0, h1, h2⟩
theorem okAll4 {p : TypeId → D → Prop} {t0 t1 t2 t3 : TypeId} : ∀ {xs : List D}, okAll p [t0, t1, t2, t3] xs → ∃ a b c d, xs = [a, b, c, d] ∧ p t0 a ∧ p t1 b ∧ p t2 c ∧ p t3 d
  | [_, _, _, _], ⟨h0, h1, h2, h3, _⟩ => ⟨_, _, _, _, rfl, h0, h1, h2, h3⟩
theorem okAll5 {p : TypeId → D → Prop} {t0 t1 t2 t3 t4 : TypeId} : ∀ {xs : List D}, okAll p [t0, t1, t2, t3, t4] xs → ∃ a b c d e, xs = [a, b, c, d, e] ∧ p t0 a ∧ p t1 b ∧ p t2 c ∧ p t3 d ∧ p t4 e
  | [_, _, _, _, _], ⟨h0, h1, h2, h3, h4, _⟩ => ⟨_, _, _, _, _, rfl, h0, h1, h2, h3, h4⟩
theorem okAll6 {p : TypeId → D → Prop} {t0 t1 t2 t3 t4 t5 : TypeId} : ∀ {xs : List D}, okAll p [t0, t1, t2, t3, t4, t5] xs → ∃ a b c d e f, xs = [a, b, c, d, e, f] ∧ p t0 a ∧ p t1 b ∧ p t2 c ∧ p t3 d ∧ p t4 e ∧ p t5 f
  | [_, _, _, _, _, _], ⟨h0, h1, h2, h3, h4, h5, _⟩ => ⟨_, _, _, _, _, _, rfl, h0, h1, h2, h3, h4, h5⟩
theorem okAll7 {p : TypeId → D → Prop} {t0 t1 t2 t3 t4 t5 t6 : TypeId} : ∀ {xs : List D}, okAll p [t0, t1, t2, t3, t4, t5, t6] xs → ∃ a b c d e f g, xs = [a, b, c, d, e, f, g] ∧ p t0 a ∧ p t1 b ∧ p t2 c ∧ p t3 d ∧ p t4 e ∧ p t5 f ∧ p t6 g
  | [_, _, _, _, _, _, _], ⟨h0, h1, h2, h3, h4, h5, h6, _⟩ => ⟨_, _, _, _, _, _, _, rfl, h0, h1, h2, h3, h4, h5, h6⟩
theorem okAll8 {p : TypeId → D → Prop} {t0 t1 t2 t3 t4 t5 t6 t7 : TypeId} : ∀ {xs : List D}, okAll p [t0, t1, t2, t3, t4, t5, t6, t7] xs → ∃ a b c d e f g h, xs = [a, b, c, d, e, f, g, h] ∧ p t0 a ∧ p t1 b ∧ p t2 c ∧ p t3 d ∧ p t4 e ∧ p t5 f ∧ p t6 g ∧ p t7 h
  | [_, _, _, _, _, _, _, _], ⟨h0, h1, h2, h3, h4, h5, h6, h7, _⟩ => ⟨_, _, _, _, _, _, _, _, rfl, h0, h1, h2, h3, h4, h5, h6, h7⟩

theorem byte_of {n : Nat} {y : D} (h : okD Try.prog (n + 1) 5 y) : ∃ c : UInt8, y = byteD c := by
  have hu : Try.prog.underlying 5 = some (.int .u8) := rfl
  simp only [okD, hu] at h
  obtain ⟨m, rfl, hw⟩ := h
  have h2 : 0 ≤ m ∧ m < 256 := by
    simp only [Lit.wf, Bool.and_eq_true, decide_eq_true_eq] at hw
    rw [show IntKind.u8.min = 0 from rfl, show IntKind.u8.max = 255 from rfl] at hw
    omega
  have e : ((UInt8.ofNat m.toNat).toNat : Int) = m := by
    rw [UInt8.toNat_ofNat_of_lt' (show m.toNat < 256 by omega)]; omega
  exact ⟨UInt8.ofNat m.toNat, by simp only [byteD, e]⟩

theorem bytes_of {n : Nat} : ∀ (xs : List D), (∀ y, y ∈ xs → okD Try.prog (n + 1) 5 y) → ∃ bs : List UInt8, xs = bs.map byteD
  | [], _ => ⟨[], rfl⟩
  | x :: xs, h => by
    obtain ⟨c, rfl⟩ := byte_of (h x (by simp))
    obtain ⟨bs, rfl⟩ := bytes_of xs fun y hy => h y (by simp [hy])
    exact ⟨c :: bs, rfl⟩

theorem dig_of {n : Nat} {x : D} (h : okD Try.prog (n + 2) 25 x) : ∃ bs : List UInt8, bs.length = 32 ∧ x = .arr 32 1 (bs.map byteD) := by
  have hu : Try.prog.underlying 25 = some (.array 32 5) := rfl
  have hc : Try.prog.cellsOf 5 = 1 := rfl
  rw [show n + 2 = (n + 1) + 1 from rfl, okD, hu] at h
  obtain ⟨xs, rfl, hl, hx⟩ := h
  obtain ⟨bs, rfl⟩ := bytes_of (n := n) xs hx
  exact ⟨bs, by simpa using hl, by rw [hc]⟩

theorem int_of {n : Nat} {x : D} (h : okD Try.prog (n + 1) 3 x) : ∃ m : Int, x = .int .i64 m ∧ -9223372036854775808 ≤ m ∧ m ≤ 9223372036854775807 := by
  have hu : Try.prog.underlying 3 = some (.int .i64) := rfl
  simp only [okD, hu] at h
  obtain ⟨m, rfl, hw⟩ := h
  refine ⟨m, rfl, ?_⟩
  simp only [Lit.wf, Bool.and_eq_true, decide_eq_true_eq] at hw
  rw [show IntKind.i64.min = -9223372036854775808 from rfl, show IntKind.i64.max = 9223372036854775807 from rfl] at hw
  exact hw

theorem bool_of {n : Nat} {x : D} (h : okD Try.prog (n + 1) 4 x) : ∃ b : Bool, x = .bool b := by
  have hu : Try.prog.underlying 4 = some .bool := rfl
  simp only [okD, hu] at h
  exact h

end Go.Proofs.Ythedcaopedbpdaa
