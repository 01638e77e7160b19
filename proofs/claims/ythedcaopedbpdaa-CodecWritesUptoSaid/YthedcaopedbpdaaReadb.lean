/-
What a reading's bulk bounds; readings of bytes and of numbers without a sign.
-/
import Derived.Test.YthedcaopedbpdaaReada
import Derived.Test.YthedcaopedbpdaaRows
namespace Go.Proofs.Ythedcaopedbpdaa
open Go.Sym

theorem uptoAll_append {H : Type} (l r : List (DataW H)) : Rows.uptoBulkAll (l ++ r) = Rows.uptoBulkAll l + Rows.uptoBulkAll r := by
  induction l with
  | nil => simp [Rows.uptoBulkAll]
  | cons x l ih => simp only [List.cons_append, Rows.uptoBulkAll, ih]; omega

mutual
theorem bulk_le {H : Type} : ∀ {x : D} {d : DataW H}, RelD x d → x.bulk ≤ Rows.uptoBulk d
  | _, _, .int _ _ => by simp [D.bulk, Rows.uptoBulk]
  | _, _, .bool _ => by simp [D.bulk, Rows.uptoBulk]
  | _, _, .str s => by simp [D.bulk, Rows.uptoBulk]
  | _, _, .st h => by have := bulks_le h; simp only [D.bulk, Rows.uptoBulk]; omega
  | _, _, .arr h => by have := bulks_le h; simp only [D.bulk, Rows.uptoBulk]; omega
  | _, _, .slnil => by simp [D.bulk, D.bulks, Rows.uptoBulk]
  | _, _, .sl h => by have := bulks_le h; simp only [D.bulk, Rows.uptoBulk]; omega
theorem bulks_le {H : Type} : ∀ {xs : List D} {ds : List (DataW H)}, RelL xs ds → D.bulks xs ≤ Rows.uptoBulkAll ds
  | _, _, .nil => by simp [D.bulks]
  | _, _, .cons h hs => by have := bulk_le h; have := bulks_le hs; simp only [D.bulks, Rows.uptoBulkAll]; omega
end

theorem bulk_pos (x : D) : 1 ≤ x.bulk := by cases x <;> simp [D.bulk]
theorem bulks_len : ∀ xs : List D, xs.length ≤ D.bulks xs
  | [] => by simp [D.bulks]
  | x :: xs => by have := bulk_pos x; have := bulks_len xs; simp only [D.bulks, List.length_cons]; omega

theorem bulk_of {H : Type} {xs : List D} {ds gs : List (DataW H)} (hr : RelL xs ds) (hk : Rows.uptoSmall H (ds ++ gs) = true) : D.bulks xs ≤ 1048576 := by
  have h1 := of_decide_eq_true hk
  rw [uptoAll_append] at h1
  have := bulks_le hr
  omega

theorem u64_of {n : Nat} {x : D} (h : okD Try.prog (n + 1) 23 x) : ∃ m : Nat, x = .int .u64 (m : Int) ∧ m < 2 ^ 64 := by
  have hu : Try.prog.underlying 23 = some (.int .u64) := rfl
  simp only [okD, hu] at h
  obtain ⟨m, rfl, hw⟩ := h
  simp only [Lit.wf, Bool.and_eq_true, decide_eq_true_eq] at hw
  rw [show IntKind.u64.min = 0 from rfl, show IntKind.u64.max = 18446744073709551615 from rfl] at hw
  exact ⟨m.toNat, by rw [Int.toNat_of_nonneg hw.1], by omega⟩

theorem sl_of {n : Nat} {x : D} (h : okD Try.prog (n + 2) 22 x) : ∃ bs : List UInt8, x = .sl (bs.map byteD) := by
  have hu : Try.prog.underlying 22 = some (.slice 5) := rfl
  rw [show n + 2 = (n + 1) + 1 from rfl, okD, hu] at h
  obtain ⟨xs, rfl, _, hx⟩ := h
  obtain ⟨bs, rfl⟩ := bytes_of (n := n) xs hx
  exact ⟨bs, rfl⟩

end Go.Proofs.Ythedcaopedbpdaa
