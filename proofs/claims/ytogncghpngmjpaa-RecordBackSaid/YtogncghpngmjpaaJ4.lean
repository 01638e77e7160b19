import Derived.Test.YtogncghpngmjpaaJ1
import Derived.Test.YtogncghpngmjpaaJ2
import Derived.Test.YtogncghpngmjpaaJ3
import Derived.Test.YtogncghpngmjpaaProg
import Derived.KernelRfl
import Derived.ProofKit
import Derived.Test.YtogncghpngmjpaaRows
import Derived.Tactics
import Derived.Tactics2
import Derived.Defers
import Derived.Recover
import Derived.Laws.Pointers
import Derived.TacticsInMore
import Derived.RegionIn
import Derived.LoopNIn
import Derived.RecoverIn
set_option linter.unusedSimpArgs false
set_option linter.unusedVariables false
/-
What the readings of the arguments are: digests, numbers, truth values.
-/
set_option linter.unusedSimpArgs false
set_option linter.unusedVariables false
namespace Go.Proofs.Ytogncghpngmjpaa
open Go.Sym

theorem len1 {α : Type} : ∀ {l : List α}, l.length = 1 → ∃ a, l = [a]
  | [_], _ => ⟨_, rfl⟩
theorem len2 {α : Type} : ∀ {l : List α}, l.length = 2 → ∃ a b, l = [a, b]
  | [_, _], _ => ⟨_, _, rfl⟩
theorem len3 {α : Type} : ∀ {l : List α}, l.length = 3 → ∃ a b c, l = [a, b, c]
  | [_, _, _], _ => ⟨_, _, _, rfl⟩
theorem len4 {α : Type} : ∀ {l : List α}, l.length = 4 → ∃ a b c d, l = [a, b, c, d]
  | [_, _, _, _], _ => ⟨_, _, _, _, rfl⟩
theorem len5 {α : Type} : ∀ {l : List α}, l.length = 5 → ∃ a b c d e, l = [a, b, c, d, e]
  | [_, _, _, _, _], _ => ⟨_, _, _, _, _, rfl⟩
theorem len6 {α : Type} : ∀ {l : List α}, l.length = 6 → ∃ a b c d e f, l = [a, b, c, d, e, f]
  | [_, _, _, _, _, _], _ => ⟨_, _, _, _, _, _, rfl⟩
theorem len7 {α : Type} : ∀ {l : List α}, l.length = 7 → ∃ a b c d e f g, l = [a, b, c, d, e, f, g]
  | [_, _, _, _, _, _, _], _ => ⟨_, _, _, _, _, _, _, rfl⟩
theorem len8 {α : Type} : ∀ {l : List α}, l.length = 8 → ∃ a b c d e f g h, l = [a, b, c, d, e, f, g, h]
  | [_, _, _, _, _, _, _, _], _ => ⟨_, _, _, _, _, _, _, _, rfl⟩

theorem okAll1 {p : TypeId → D → Prop} {t0 : TypeId} : ∀ {xs : List D}, okAll p [t0] xs → ∃ a, xs = [a] ∧ p t0 a
  | [_], ⟨h0, _⟩ => ⟨_, rfl, h0⟩
theorem okAll2 {p : TypeId → D → Prop} {t0 t1 : TypeId} : ∀ {xs : List D}, okAll p [t0, t1] xs → ∃ a b, xs = [a, b] ∧ p t0 a ∧ p t1 b
  | [_, _], ⟨h0, h1, _⟩ => ⟨_, _, rfl, h0, h1⟩
theorem okAll3 {p : TypeId → D → Prop} {t0 t1 t2 : TypeId} : ∀ {xs : List D}, okAll p [t0, t1, t2] xs → ∃ a b c, xs = [a, b, c] ∧ p t0 a ∧ p t1 b ∧ p t2 c
  | [_, _, _], ⟨h0, h1, h2, _⟩ => ⟨_, _, _, rfl, h0, h1, h2⟩
theorem okAll4 {p : TypeId → D → Prop} {t0 t1 t2 t3 : TypeId} : ∀ {xs : List D}, okAll p [t0, t1, t2, t3] xs → ∃ a b c d, xs = [a, b, c, d] ∧ p t0 a ∧ p t1 b ∧ p t2 c ∧ p t3 d
  | [_, _, _, _], ⟨h0, h1, h2, h3, _⟩ => ⟨_, _, _, _, rfl, h0, h1, h2, h3⟩
theorem okAll5 {p : TypeId → D → Prop} {t0 t1 t2 t3 t4 : TypeId} : ∀ {xs : List D}, okAll p [t0, t1, t2, t3, t4] xs → ∃ a b c d e, xs = [a, b, c, d, e] ∧ p t0 a ∧ p t1 b ∧ p t2 c ∧ p t3 d ∧ p t4 e
  | [_, _, _, _, _], ⟨h0, h1, h2, h3, h4, _⟩ => ⟨_, _, _, _, _, rfl, h0, h1, h2, h3, h4⟩
theorem okAll6 {p : TypeId → D → Prop} {t0 t1 t2 t3 t4 t5 : TypeId} : ∀ {xs : List D}, okAll p [t0, t1, t2, t3, t4, t5] xs → ∃ a b c d e f, xs = [a, b, c, d, e, f] ∧ p t0 a ∧ p t1 b ∧ p t2 c ∧ p t3 d ∧ p t4 e ∧ p t5 f
  | [_, _, _, _, _, _], ⟨h0, h1, h2, h3, h4, h5, _⟩ => ⟨_, _, _, _, _, _, rfl, h0, h1, h2, h3, h4, h5⟩
theorem okAll7 {p : TypeId → D → Prop} {t0 t1 t2 t3 t4 t5 t6 : TypeId} : ∀ {xs : List D}, okAll p [t0, t1, t2, t3, t4, t5, t6] xs → ∃ a b c d e f g, xs = [a, b, c, d, e, f, g] ∧ p t0 a ∧ p t1 b ∧ p t2 c ∧ p t3 d ∧ p t4 e ∧ p t5 f ∧ p t6 g
  | [_, _, _, _, _, _, _], ⟨h0, h1, h2, h3, h4, h5, h6, _⟩ => ⟨_, _, _, _, _, _, _, rfl, h0, h1, h2, h3, h4, h5, h6⟩
theorem okAll8 {p : TypeId → D → Prop} {t0 t1 t2 t3 t4 t5 t6 t7 : TypeId} : ∀ {xs : List D}, okAll p [t0, t1, t2, t3, t4, t5, t6, t7] xs → ∃ a b c d e f g h, xs = [a, b, c, d, e, f, g, h] ∧ p t0 a ∧ p t1 b ∧ p t2 c ∧ p t3 d ∧ p t4 e ∧ p t5 f ∧ p t6 g ∧ p t7 h
  | [_, _, _, _, _, _, _, _], ⟨h0, h1, h2, h3, h4, h5, h6, h7, _⟩ => ⟨_, _, _, _, _, _, _, _, rfl, h0, h1, h2, h3, h4, h5, h6, h7⟩

theorem byte_of {n : Nat} {y : D} (h : okD Try.prog (n + 1) 5 y) : ∃ c : UInt8, y = byteD c := by
  have hu : Try.prog.underlying 5 = some (.int .u8) := rfl
  simp only [okD, hu] at h
  obtain ⟨m, rfl, hw⟩ := h
  have h2 : 0 ≤ m ∧ m < 256 := by
    simp only [Lit.wf, Bool.and_eq_true, decide_eq_true_eq] at hw
    rw [show IntKind.u8.min = 0 from rfl, show IntKind.u8.max = 255 from rfl] at hw
    omega
  have e : ((UInt8.ofNat m.toNat).toNat : Int) = m := by
    rw [UInt8.toNat_ofNat_of_lt' (show m.toNat < 256 by omega)]; omega
  exact ⟨UInt8.ofNat m.toNat, by simp only [byteD, e]⟩

theorem bytes_of {n : Nat} : ∀ (xs : List D), (∀ y, y ∈ xs → okD Try.prog (n + 1) 5 y) → ∃ bs : List UInt8, xs = bs.map byteD
  | [], _ => ⟨[], rfl⟩
  | x :: xs, h => by
    obtain ⟨c, rfl⟩ := byte_of (h x (by simp))
    obtain ⟨bs, rfl⟩ := bytes_of xs fun y hy => h y (by simp [hy])
    exact ⟨c :: bs, rfl⟩

theorem dig_of {n : Nat} {x : D} (h : okD Try.prog (n + 2) 28 x) : ∃ bs : List UInt8, bs.length = 32 ∧ x = .arr 32 1 (bs.map byteD) := by
  have hu : Try.prog.underlying 28 = some (.array 32 5) := rfl
  have hc : Try.prog.cellsOf 5 = 1 := rfl
  rw [show n + 2 = (n + 1) + 1 from rfl, okD, hu] at h
  obtain ⟨xs, rfl, hl, hx⟩ := h
  obtain ⟨bs, rfl⟩ := bytes_of (n := n) xs hx
  exact ⟨bs, by simpa using hl, by rw [hc]⟩

theorem int_of {n : Nat} {x : D} (h : okD Try.prog (n + 1) 3 x) : ∃ m : Int, x = .int .i64 m ∧ -9223372036854775808 ≤ m ∧ m ≤ 9223372036854775807 := by
  have hu : Try.prog.underlying 3 = some (.int .i64) := rfl
  simp only [okD, hu] at h
  obtain ⟨m, rfl, hw⟩ := h
  refine ⟨m, rfl, ?_⟩
  simp only [Lit.wf, Bool.and_eq_true, decide_eq_true_eq] at hw
  rw [show IntKind.i64.min = -9223372036854775808 from rfl, show IntKind.i64.max = 9223372036854775807 from rfl] at hw
  exact hw

theorem bool_of {n : Nat} {x : D} (h : okD Try.prog (n + 1) 4 x) : ∃ b : Bool, x = .bool b := by
  have hu : Try.prog.underlying 4 = some .bool := rfl
  simp only [okD, hu] at h
  exact h

end Go.Proofs.Ytogncghpngmjpaa

/-
What a reading's bulk bounds; readings of bytes and of numbers without a sign.
-/
set_option linter.unusedSimpArgs false
set_option linter.unusedVariables false
namespace Go.Proofs.Ytogncghpngmjpaa
open Go.Sym

theorem uptoAll_append {H : Type} (l r : List (DataW H)) : Rows.uptoBulkAll (l ++ r) = Rows.uptoBulkAll l + Rows.uptoBulkAll r := by
  induction l with
  | nil => simp [Rows.uptoBulkAll]
  | cons x l ih => simp only [List.cons_append, Rows.uptoBulkAll, ih]; omega

mutual
theorem bulk_le {H : Type} : ∀ {x : D} {d : DataW H}, RelD x d → x.bulk ≤ Rows.uptoBulk d
  | _, _, .int _ _ => by simp [D.bulk, Rows.uptoBulk]
  | _, _, .bool _ => by simp [D.bulk, Rows.uptoBulk]
  | _, _, .str s => by simp [D.bulk, Rows.uptoBulk]
  | _, _, .st h => by have := bulks_le h; simp only [D.bulk, Rows.uptoBulk]; omega
  | _, _, .arr h => by have := bulks_le h; simp only [D.bulk, Rows.uptoBulk]; omega
  | _, _, .slnil => by simp [D.bulk, D.bulks, Rows.uptoBulk]
  | _, _, .sl h => by have := bulks_le h; simp only [D.bulk, Rows.uptoBulk]; omega
theorem bulks_le {H : Type} : ∀ {xs : List D} {ds : List (DataW H)}, RelL xs ds → D.bulks xs ≤ Rows.uptoBulkAll ds
  | _, _, .nil => by simp [D.bulks]
  | _, _, .cons h hs => by have := bulk_le h; have := bulks_le hs; simp only [D.bulks, Rows.uptoBulkAll]; omega
end

theorem bulk_pos (x : D) : 1 ≤ x.bulk := by cases x <;> simp [D.bulk]
theorem bulks_len : ∀ xs : List D, xs.length ≤ D.bulks xs
  | [] => by simp [D.bulks]
  | x :: xs => by have := bulk_pos x; have := bulks_len xs; simp only [D.bulks, List.length_cons]; omega

theorem bulk_of {H : Type} {xs : List D} {ds gs : List (DataW H)} (hr : RelL xs ds) (hk : Rows.uptoSmall H (ds ++ gs) = true) : D.bulks xs ≤ 1048576 := by
  have h1 := of_decide_eq_true hk
  rw [uptoAll_append] at h1
  have := bulks_le hr
  omega

theorem u64_of {n : Nat} {x : D} (h : okD Try.prog (n + 1) 23 x) : ∃ m : Nat, x = .int .u64 (m : Int) ∧ m < 2 ^ 64 := by
  have hu : Try.prog.underlying 23 = some (.int .u64) := rfl
  simp only [okD, hu] at h
  obtain ⟨m, rfl, hw⟩ := h
  simp only [Lit.wf, Bool.and_eq_true, decide_eq_true_eq] at hw
  rw [show IntKind.u64.min = 0 from rfl, show IntKind.u64.max = 18446744073709551615 from rfl] at hw
  exact ⟨m.toNat, by rw [Int.toNat_of_nonneg hw.1], by omega⟩

theorem sl_of {n : Nat} {x : D} (h : okD Try.prog (n + 2) 22 x) : ∃ bs : List UInt8, x = .sl (bs.map byteD) := by
  have hu : Try.prog.underlying 22 = some (.slice 5) := rfl
  rw [show n + 2 = (n + 1) + 1 from rfl, okD, hu] at h
  obtain ⟨xs, rfl, _, hx⟩ := h
  obtain ⟨bs, rfl⟩ := bytes_of (n := n) xs hx
  exact ⟨bs, rfl⟩

end Go.Proofs.Ytogncghpngmjpaa

/-
Words that all seats share.
-/
set_option linter.unusedSimpArgs false
set_option linter.unusedVariables false
namespace Go.Proofs.Ytogncghpngmjpaa
open Go.Sym
set_option maxRecDepth 10000
set_option maxHeartbeats 4000000

theorem mixed : Try.prog.follows .mixedOrders = true := by decide

theorem room_le {a b k : Nat} (h : Room b 1) (hk : k = 1) (hab : a ≤ b) : Room a k := by
  subst hk
  unfold Room at *
  exact Nat.le_trans (Nat.mul_le_mul_right _ (by omega)) h

theorem beq_ne {a b : Nat} (h : a ≠ b) : a.beq b = false := by
  cases hb : a.beq b with
  | true => exact absurd (Nat.eq_of_beq_eq_true hb) h
  | false => rfl

theorem ren_two {A B : Nat} (h : A ≠ B) {args : List AV} {xs ys : List D} {r : AV} (ha : ∀ n, n ∈ AV.namesL args → n = 1) (hr : ∀ n, n ∈ r.names → n = 1 ∨ n = 2) :
    renOK [(1, A), (2, B)] [(A, 1), (B, 2)] args [(1, .row 1 xs)] [2] r [(2, .row 1 ys), (1, .dead)] = true := by
  have h2 := beq_ne h
  simp only [renOK, Bool.and_eq_true, List.all_eq_true]
  refine ⟨⟨⟨⟨?_, fun n hn => ?_⟩, ?_⟩, fun n hn => ?_⟩, ?_⟩
  · intro n hn
    simp at hn
    rcases hn with rfl | rfl
    · show (renN [(A, 1), (B, 2)] A).beq 1 = true
      simp [renN, lkp]
    · show (renN [(A, 1), (B, 2)] B).beq 2 = true
      simp [renN, lkp, h2]
  · rw [ha n hn]; rfl
  · intro p hp; simp at hp; subst hp; intro n hn; cases hn
  · rcases hr n hn with rfl | rfl <;> rfl
  · intro p hp
    simp at hp
    rcases hp with rfl | rfl <;> exact ⟨rfl, fun n hn => by cases hn⟩

theorem wrapU64_id {n : Int} (h0 : 0 ≤ n) (h1 : n < 18446744073709551616) : IntKind.u64.wrap n = n := by
  have e : IntKind.u64.wrap n = n % 18446744073709551616 := by simp [IntKind.wrap, IntKind.signed, IntKind.bits]
  rw [e]; omega

theorem room_lt {n : Nat} (h : Room n 1) : n < 2 ^ 48 := by unfold Room at h; omega

theorem str_eq (a b : List UInt8) : D.bool ((⟨a.toArray⟩ : ByteArray).toList == (⟨b.toArray⟩ : ByteArray).toList) = D.bool (decide (a = b)) := by
  rw [ByteArray.toList_eq, ByteArray.toList_eq]
  congr 1
  rw [Bool.eq_iff_iff]; simp

theorem size_bytes (l : List UInt8) : ∀ y, y ∈ l.map byteD → y.size = 1 := fun y hy => by
  obtain ⟨c, _, rfl⟩ := List.mem_map.1 hy; rfl

def tD (v : List UInt8) : D := .sl (v.map byteD)

theorem take_ne {α : Type} {xs ys : List α} {i : Nat} {d : α} (h : ¬ xs.getD i d = ys.getD i d) : ¬ xs = ys := fun e => h (by rw [e])

theorem take_more {α : Type} {xs ys : List α} {i : Nat} {d : α} (hx : i < xs.length) (hy : i < ys.length) (h : xs.take i = ys.take i) (he : xs.getD i d = ys.getD i d) : xs.take (i + 1) = ys.take (i + 1) := by
  rw [List.getD_eq_getElem?_getD, List.getD_eq_getElem?_getD, List.getElem?_eq_getElem hx, List.getElem?_eq_getElem hy] at he
  have he : xs[i] = ys[i] := he
  rw [List.take_succ_eq_append_getElem hx, List.take_succ_eq_append_getElem hy, h, he]

theorem take_all {α : Type} {xs ys : List α} {i : Nat} (hl : xs.length = ys.length) (hi : xs.length ≤ i) (h : xs.take i = ys.take i) : xs = ys := by
  rwa [List.take_of_length_le hi, List.take_of_length_le (by omega)] at h

theorem map_at {α : Type} {f : α → D} {xs : List α} {i : Nat} {d : α} (hi : i < xs.length) : (xs.map f).getD i .nilp = f (xs.getD i d) ∧ (Option.map f xs[i]?).getD .nilp = f (xs.getD i d) := by
  rw [List.getD_eq_getElem?_getD, List.getElem?_map, List.getD_eq_getElem?_getD, List.getElem?_eq_getElem hi]; exact ⟨rfl, rfl⟩

theorem bool_no {p : Prop} [Decidable p] (h : ¬ p) : D.bool false = D.bool (decide p) := by rw [decide_eq_false h]

theorem bool_yes {p : Prop} [Decidable p] (h : p) : D.bool true = D.bool (decide p) := by rw [decide_eq_true h]

theorem room23 {k j : Nat} (hj : j = 1) (h : k ≤ 2 ^ 26) : Room k j := by subst hj; unfold Room; omega

theorem mem_flatten_len {α : Type} {t : List α} : ∀ {ts : List (List α)}, t ∈ ts → t.length ≤ ts.flatten.length
  | x :: xs, h => by
    rw [List.flatten_cons, List.length_append]
    rcases List.mem_cons.1 h with rfl | h
    · omega
    · have := mem_flatten_len h; omega

theorem decide_swap (p q : Prop) [Decidable p] [Decidable q] (h : p ↔ q) : decide p = decide q := by
  by_cases hp : p
  · rw [decide_eq_true hp, decide_eq_true (h.1 hp)]
  · rw [decide_eq_false hp, decide_eq_false (fun hq => hp (h.2 hq))]

end Go.Proofs.Ytogncghpngmjpaa

/-
Numbers as bytes: what is written.
-/
set_option linter.unusedSimpArgs false
set_option linter.unusedVariables false
namespace Go.Proofs.Ytogncghpngmjpaa
open Go.Sym
set_option maxRecDepth 10000
set_option maxHeartbeats 1000000

/-- A number as bytes. -/
def numB (n : Nat) : List UInt8 := if n < 128 then [UInt8.ofNat n] else UInt8.ofNat (n % 128 + 128) :: numB (n / 128)
termination_by n
decreasing_by omega

theorem numB_small {n : Nat} (h : n < 128) : numB n = [UInt8.ofNat n] := by rw [numB, if_pos h]
theorem numB_big {n : Nat} (h : ¬ n < 128) : numB n = UInt8.ofNat (n % 128 + 128) :: numB (n / 128) := by rw [numB, if_neg h]

theorem numB_len_le : ∀ (k n : Nat), n < 2 ^ (7 * k) → 0 < k → (numB n).length ≤ k
  | 0, n, h, hk => by omega
  | k + 1, n, h, _ => by
    by_cases hn : n < 128
    · rw [numB_small hn]; simp
    · rw [numB_big hn]
      have hk : 0 < k := by
        rcases Nat.eq_zero_or_pos k with rfl | hk
        · omega
        · exact hk
      have := numB_len_le k (n / 128) (by rw [show 7 * (k + 1) = 7 * k + 7 by omega, Nat.pow_add] at h; omega) hk
      simp; omega

theorem numB_pos (n : Nat) : 0 < (numB n).length := by
  by_cases hn : n < 128
  · rw [numB_small hn]; simp
  · rw [numB_big hn]; simp

theorem numB_le10 {n : Nat} (h : n < 2 ^ 64) : (numB n).length ≤ 10 := numB_len_le 10 n (by omega) (by omega)

theorem wrap8 (m : Nat) : IntKind.u8.wrap (m : Int) = ((m % 256 : Nat) : Int) := by
  have : IntKind.u8.wrap (m : Int) = (m : Int) % 256 := by simp [IntKind.wrap, IntKind.signed, IntKind.bits]
  rw [this]; omega

theorem byteD_of {k : Nat} (h : k < 256) : byteD (UInt8.ofNat k) = .int .u8 (k : Int) := by
  unfold byteD
  rw [UInt8.toNat_ofNat_of_lt' (show k < 256 by omega)]

theorem or128 (m : Nat) : D.int .u8 (aBits .or .u8 (IntKind.u8.wrap (m : Int)) 128) = byteD (UInt8.ofNat (m % 128 + 128)) := by
  rw [byteD_of (by omega), wrap8]
  have key : ∀ k : Fin 256, aBits .or .u8 ((k.val : Nat) : Int) 128 = ((k.val % 128 + 128 : Nat) : Int) := by decide +kernel
  rw [key ⟨m % 256, by omega⟩]
  congr 2
  show m % 256 % 128 + 128 = _
  omega

theorem low8 {m : Nat} (h : m < 128) : D.int .u8 (IntKind.u8.wrap (m : Int)) = byteD (UInt8.ofNat m) := by
  rw [byteD_of (by omega), wrap8]
  congr 2
  omega

theorem shr7 (m : Nat) : shrI .u64 (m : Int) 7 = ((m / 128 : Nat) : Int) := by
  have hb : IntKind.u64.bits = 64 := rfl
  unfold shrI
  rw [hb, Int.fdiv_eq_ediv_of_nonneg _ (by decide)]
  rfl

theorem numB_step {xs acc : List D} {n m : Nat} (h : ¬ m < 128) (hI : acc ++ (numB m).map byteD = xs ++ (numB n).map byteD) :
    (acc ++ [byteD (UInt8.ofNat (m % 128 + 128))]) ++ (numB (m / 128)).map byteD = xs ++ (numB n).map byteD := by
  rw [numB_big h] at hI
  rw [← hI]; simp

theorem size_byte (c : UInt8) : (byteD c).size = 1 := rfl

theorem num_ok (xs : List D) (n : Nat) (hn : n < 2 ^ 64) (hroom : Room (xs ++ (numB n).map byteD).length 1) :
    LocalCall Try.prog 39 [.sl 1 [] 1 0 xs.length, .d (.int .u64 (n : Int))] [(1, .row 1 xs)] [2] (one [.sl 2 [] 1 0 (xs ++ (numB n).map byteD).length]) [(2, .row 1 (xs ++ (numB n).map byteD)), (1, .dead)] := by
  refine vc_fn mixed Try.func39 rfl rfl [(0, [7001000])] (vc_chk rfl) ?_
  repeat' (first
      | ((with_reducible refine vc_chk ?_); first | decide +kernel | rfl)
      | (with_reducible refine vc_side0 ?_; rfl)
      | (with_reducible first
           | refine vc_true ?_ | refine vc_true2 ?_ | refine vc_side ?_ ?_ | refine vc_triv | refine vc_later ?_ | refine vc_caseT ?_ | refine vc_caseF ?_ | refine vc_cons ?_ | refine vc_nil ?_ ?_ | refine vc_seq ?_
              | refine vc_region ?_ | refine vc_cond ?_ | refine vc_block ?_ | refine vc_retc ?_ | refine vc_exit ?_ | refine vc_skip ?_ | refine vc_scope ?_ | refine vc_label ?_ | refine vc_goto ?_ | refine vc_wkSl0
              | refine vc_wkHp0 | refine vc_eqAVs0 | refine vc_preG0 | refine vc_wkSl ?_ ?_ | refine vc_wkHp ?_ ?_ | refine vc_eqAVs ?_ ?_ | refine vc_preG ?_ ?_ | refine vc_side0 ?_
              | refine vc_loopI 20 (fun (x : List D × Nat) => [(0, .sl 7 [] 1 0 x.1.length), (1, .d (.int .u64 (x.2 : Int)))]) (fun x => [(1, .dead), (7, .row 1 x.1)]) (fun x => x.2) (fun x => x.1 ++ (numB x.2).map byteD = xs ++ (numB n).map byteD ∧ x.2 < 2 ^ 64) (xs, n) [] ?_ ?_ ?_ ?_ ?_ (fun x hI => ?_)
              | refine vc_nextI (x.1 ++ [byteD (UInt8.ofNat (x.2 % 128 + 128))], x.2 / 128) [(7, 3020)] ?_ ?_ ?_ ?_ ?_ ?_ | refine vc_ret [] [(2, 5016)] ?_ | refine vc_weakf [] ?_ ?_ ?_ | refine vc_and ?_ ?_
              | refine vc_ret [] [] ?_)
      | ((with_reducible first | refine vc_caseD (fun h => ?_) (fun h => ?_) | refine vc_caseN (fun h => ?_) (fun h => ?_)) <;> try (exfalso; omega))
      | ((with_reducible refine vc_case (fun h => ?_) (fun h => ?_)) <;> (try simp at h) <;> try (exfalso; omega))
      | (conv in Vc _ => arg 1; whnf
         first
          | (with_reducible refine vc_side0 ?_; rfl)
          | (with_reducible first
              | refine vc_true ?_ | refine vc_true2 ?_ | refine vc_side ?_ ?_ | refine vc_triv | refine vc_later ?_ | refine vc_caseT ?_ | refine vc_caseF ?_ | refine vc_cons ?_ | refine vc_nil ?_ ?_ | refine vc_seq ?_
                 | refine vc_region ?_ | refine vc_cond ?_ | refine vc_block ?_ | refine vc_retc ?_ | refine vc_exit ?_ | refine vc_skip ?_ | refine vc_scope ?_ | refine vc_label ?_ | refine vc_goto ?_ | refine vc_wkSl0
                 | refine vc_wkHp0 | refine vc_eqAVs0 | refine vc_preG0 | refine vc_wkSl ?_ ?_ | refine vc_wkHp ?_ ?_ | refine vc_eqAVs ?_ ?_ | refine vc_preG ?_ ?_ | refine vc_side0 ?_
                 | refine vc_loopI 20 (fun (x : List D × Nat) => [(0, .sl 7 [] 1 0 x.1.length), (1, .d (.int .u64 (x.2 : Int)))]) (fun x => [(1, .dead), (7, .row 1 x.1)]) (fun x => x.2) (fun x => x.1 ++ (numB x.2).map byteD = xs ++ (numB n).map byteD ∧ x.2 < 2 ^ 64) (xs, n) [] ?_ ?_ ?_ ?_ ?_ (fun x hI => ?_)
                 | refine vc_nextI (x.1 ++ [byteD (UInt8.ofNat (x.2 % 128 + 128))], x.2 / 128) [(7, 3020)] ?_ ?_ ?_ ?_ ?_ ?_ | refine vc_ret [] [(2, 5016)] ?_ | refine vc_weakf [] ?_ ?_ ?_ | refine vc_and ?_ ?_
                 | refine vc_ret [] [] ?_)
          | ((with_reducible first | refine vc_caseD (fun h => ?_) (fun h => ?_) | refine vc_caseN (fun h => ?_) (fun h => ?_)) <;> try (exfalso; omega))
          | ((with_reducible refine vc_case (fun h => ?_) (fun h => ?_)) <;> (try simp at h) <;> try (exfalso; omega))))
  all_goals (try simp only [List.drop_zero, List.take_length, or128, shr7])
  all_goals first
    | rfl
    | exact ⟨trivial, hn⟩
    | omega
    | skip
  all_goals
    obtain ⟨acc, m⟩ := x
    obtain ⟨h1, h2⟩ := hI
    simp only at h1 h2 h ⊢
    rcases Nat.lt_or_ge m 128 with hm | hm
    rotate_left
    · have hm : ¬ m < 128 := by omega
      first
      | (exfalso; omega)
      | exact ⟨numB_step hm h1, by omega⟩
      | refine ⟨⟨by simp, trivial, room_le hroom rfl ?_⟩, fun y hy => ?_⟩
        · rw [← numB_step hm h1]; simp only [List.length_append]; omega
        · simp only [List.mem_singleton] at hy; subst hy; rfl
    · rw [numB_small hm] at h1
      first
      | (exfalso; omega)
      | (rw [low8 hm]; exact h1)
      | (rw [low8 hm]; exact congrArg List.length h1)
      | (rw [low8 hm]; refine ⟨⟨by simp, trivial, room_le hroom rfl (Nat.le_of_eq (congrArg List.length h1))⟩, fun y hy => ?_⟩
         simp only [List.mem_singleton] at hy; subst hy; rfl)

end Go.Proofs.Ytogncghpngmjpaa

/-
The references: same texts, joined texts.
-/
set_option linter.unusedSimpArgs false
set_option linter.unusedVariables false
namespace Go.Proofs.Ytogncghpngmjpaa
open Go.Sym
set_option maxRecDepth 10000
set_option maxHeartbeats 4000000

theorem same_ok (xs ys : List D) (a b : List UInt8) (hx : xs = a.map byteD) (hy : ys = b.map byteD) : LocalCall Try.prog 14 [.d (.sl xs), .d (.sl ys)] [] [] (one [.d (.bool (decide (a = b)))]) [] := by
  refine vc_fn mixed Try.func14 rfl rfl [] (vc_chk rfl) ?_
  subst hx hy
  repeat' (first
      | ((with_reducible refine vc_chk ?_); first | decide +kernel | rfl)
      | (with_reducible refine vc_side0 ?_; rfl)
      | (with_reducible first
           | refine vc_true ?_ | refine vc_true2 ?_ | refine vc_side ?_ ?_ | refine vc_triv | refine vc_later ?_ | refine vc_caseT ?_ | refine vc_caseF ?_ | refine vc_cons ?_ | refine vc_nil ?_ ?_ | refine vc_seq ?_
              | refine vc_region ?_ | refine vc_cond ?_ | refine vc_block ?_ | refine vc_retc ?_ | refine vc_exit ?_ | refine vc_skip ?_ | refine vc_scope ?_ | refine vc_label ?_ | refine vc_goto ?_ | refine vc_wkSl0
              | refine vc_wkHp0 | refine vc_eqAVs0 | refine vc_preG0 | refine vc_wkSl ?_ ?_ | refine vc_wkHp ?_ ?_ | refine vc_eqAVs ?_ ?_ | refine vc_preG ?_ ?_ | refine vc_side0 ?_ | refine vc_weakf [] ?_ ?_ ?_
              | refine vc_and ?_ ?_ | refine vc_ret [] [] ?_)
      | ((with_reducible first | refine vc_caseD (fun h => ?_) (fun h => ?_) | refine vc_caseN (fun h => ?_) (fun h => ?_)) <;> try (exfalso; omega))
      | ((with_reducible refine vc_case (fun h => ?_) (fun h => ?_)) <;> (try simp at h) <;> try (exfalso; omega))
      | (conv in Vc _ => arg 1; whnf
         first
          | (with_reducible refine vc_side0 ?_; rfl)
          | (with_reducible first
              | refine vc_true ?_ | refine vc_true2 ?_ | refine vc_side ?_ ?_ | refine vc_triv | refine vc_later ?_ | refine vc_caseT ?_ | refine vc_caseF ?_ | refine vc_cons ?_ | refine vc_nil ?_ ?_ | refine vc_seq ?_
                 | refine vc_region ?_ | refine vc_cond ?_ | refine vc_block ?_ | refine vc_retc ?_ | refine vc_exit ?_ | refine vc_skip ?_ | refine vc_scope ?_ | refine vc_label ?_ | refine vc_goto ?_ | refine vc_wkSl0
                 | refine vc_wkHp0 | refine vc_eqAVs0 | refine vc_preG0 | refine vc_wkSl ?_ ?_ | refine vc_wkHp ?_ ?_ | refine vc_eqAVs ?_ ?_ | refine vc_preG ?_ ?_ | refine vc_side0 ?_ | refine vc_weakf [] ?_ ?_ ?_
                 | refine vc_and ?_ ?_ | refine vc_ret [] [] ?_)
          | ((with_reducible first | refine vc_caseD (fun h => ?_) (fun h => ?_) | refine vc_caseN (fun h => ?_) (fun h => ?_)) <;> try (exfalso; omega))
          | ((with_reducible refine vc_case (fun h => ?_) (fun h => ?_)) <;> (try simp at h) <;> try (exfalso; omega))))
  all_goals simp only [bytesOf_map]
  all_goals first
    | exact ⟨trivial, trivial⟩
    | (rw [str_eq])

/-- Rows of bytes, one behind the other. -/
def joinD (ls : List D) : List D := ls.flatMap D.els

theorem joinD_take (ls : List D) {i : Nat} (h : i < ls.length) : joinD (ls.take i) ++ (ls.getD i .nilp).els = joinD (ls.take (i + 1)) := by
  unfold joinD
  rw [List.take_succ_eq_append_getElem h, List.flatMap_append, List.getD_eq_getElem?_getD, List.getElem?_eq_getElem h]
  simp

theorem joinD_sub (ls : List D) (i : Nat) : (joinD (ls.take i)).length ≤ (joinD ls).length := by
  have : joinD ls = joinD (ls.take i) ++ joinD (ls.drop i) := by
    unfold joinD
    rw [← List.flatMap_append, List.take_append_drop]
  rw [this]; simp

theorem join_ok (ls : List D) (hs : ∀ y, y ∈ ls → ∃ l, y = .sl l) (hl : ls.length < 2 ^ 62) (h1 : ∀ y, y ∈ joinD ls → y.size = 1) (hroom : Room (joinD ls).length 1) : LocalCall Try.prog 40 [.d (.sl ls)] [] [] (one [.d (.sl (joinD ls))]) [] := by
  refine vc_fn mixed Try.func40 rfl rfl [(500001, [7001003])] (vc_chk rfl) ?_
  repeat' (first
      | ((with_reducible refine vc_chk ?_); first | decide +kernel | rfl)
      | (with_reducible refine vc_side0 ?_; rfl)
      | (with_reducible first
           | refine vc_true ?_ | refine vc_true2 ?_ | refine vc_side ?_ ?_ | refine vc_triv | refine vc_later ?_ | refine vc_caseT ?_ | refine vc_caseF ?_ | refine vc_cons ?_ | refine vc_nil ?_ ?_ | refine vc_seq ?_
              | refine vc_region ?_ | refine vc_cond ?_ | refine vc_block ?_ | refine vc_retc ?_ | refine vc_exit ?_ | refine vc_skip ?_ | refine vc_scope ?_ | refine vc_label ?_ | refine vc_goto ?_ | refine vc_wkSl0
              | refine vc_wkHp0 | refine vc_eqAVs0 | refine vc_preG0 | refine vc_wkSl ?_ ?_ | refine vc_wkHp ?_ ?_ | refine vc_eqAVs ?_ ?_ | refine vc_preG ?_ ?_ | refine vc_side0 ?_
              | refine vc_loopI 18 (fun (i : Nat) => [(0, .d (.sl ls)), (3, .sl 7 [] 1 0 (joinD (ls.take i)).length), (4, .d (.int .i64 (i : Int)))]) (fun i => [(7, .row 1 (joinD (ls.take i)))]) (fun i => ls.length - i) (fun i => i ≤ ls.length) 0 [] ?_ ?_ ?_ ?_ ?_ (fun i hI => ?_)
              | refine vc_nextI (i + 1) [(7, 6020)] ?_ ?_ ?_ ?_ ?_ ?_ | refine vc_ret [true] [] ?_ | refine vc_weakf [] ?_ ?_ ?_ | refine vc_and ?_ ?_ | refine vc_ret [] [] ?_)
      | ((with_reducible first | refine vc_caseD (fun h => ?_) (fun h => ?_) | refine vc_caseN (fun h => ?_) (fun h => ?_)) <;> try (exfalso; omega))
      | ((with_reducible refine vc_case (fun h => ?_) (fun h => ?_)) <;> (try simp at h) <;> try (exfalso; omega))
      | (conv in Vc _ => arg 1; whnf
         first
          | (with_reducible refine vc_side0 ?_; rfl)
          | (with_reducible first
              | refine vc_true ?_ | refine vc_true2 ?_ | refine vc_side ?_ ?_ | refine vc_triv | refine vc_later ?_ | refine vc_caseT ?_ | refine vc_caseF ?_ | refine vc_cons ?_ | refine vc_nil ?_ ?_ | refine vc_seq ?_
                 | refine vc_region ?_ | refine vc_cond ?_ | refine vc_block ?_ | refine vc_retc ?_ | refine vc_exit ?_ | refine vc_skip ?_ | refine vc_scope ?_ | refine vc_label ?_ | refine vc_goto ?_ | refine vc_wkSl0
                 | refine vc_wkHp0 | refine vc_eqAVs0 | refine vc_preG0 | refine vc_wkSl ?_ ?_ | refine vc_wkHp ?_ ?_ | refine vc_eqAVs ?_ ?_ | refine vc_preG ?_ ?_ | refine vc_side0 ?_
                 | refine vc_loopI 18 (fun (i : Nat) => [(0, .d (.sl ls)), (3, .sl 7 [] 1 0 (joinD (ls.take i)).length), (4, .d (.int .i64 (i : Int)))]) (fun i => [(7, .row 1 (joinD (ls.take i)))]) (fun i => ls.length - i) (fun i => i ≤ ls.length) 0 [] ?_ ?_ ?_ ?_ ?_ (fun i hI => ?_)
                 | refine vc_nextI (i + 1) [(7, 6020)] ?_ ?_ ?_ ?_ ?_ ?_ | refine vc_ret [true] [] ?_ | refine vc_weakf [] ?_ ?_ ?_ | refine vc_and ?_ ?_ | refine vc_ret [] [] ?_)
          | ((with_reducible first | refine vc_caseD (fun h => ?_) (fun h => ?_) | refine vc_caseN (fun h => ?_) (fun h => ?_)) <;> try (exfalso; omega))
          | ((with_reducible refine vc_case (fun h => ?_) (fun h => ?_)) <;> (try simp at h) <;> try (exfalso; omega))))
  all_goals (try simp only [Int.toNat_natCast])
  all_goals first
    | rfl
    | omega
    | (rw [joinD_take ls (by omega)]; done)
    | (congr 1; rw [wrap64_id (by omega) (by omega)]; omega)
    | (refine ⟨⟨by omega, by omega⟩, ?_⟩
       obtain ⟨l, e⟩ := hs (ls.getD i .nilp) (by rw [List.getD_eq_getElem?_getD, List.getElem?_eq_getElem (by omega)]; simp)
       rw [e]; rfl)
    | (refine ⟨⟨trivial, by first | trivial | rfl, room_le hroom rfl ?_⟩, fun y hy => h1 y ?_⟩
       · rw [joinD_take ls (by omega)]; exact joinD_sub ls _
       · unfold joinD
         refine List.mem_flatMap.2 ⟨ls.getD i .nilp, ?_, hy⟩
         rw [List.getD_eq_getElem?_getD, List.getElem?_eq_getElem (by omega)]; simp)
    | (obtain rfl : i = ls.length := by omega
       rw [List.take_length]; done)
    | (obtain rfl : i = ls.length := by omega
       rw [List.take_length]; rw [List.drop_zero, List.take_length]; done)
    | (obtain rfl : i = ls.length := by omega
       rw [List.take_length]; exact ⟨Nat.le_of_eq (Nat.zero_add _), trivial⟩)
    | (obtain rfl : i = ls.length := by omega
       exact ⟨Nat.le_of_eq (Nat.zero_add _), trivial⟩)

theorem pair_join (a b : List D) : joinD [.sl a, .sl b] = a ++ b := by simp [joinD, D.els]

theorem same_t (xs : List D) (a : List UInt8) (hx : xs = a.map byteD) : LocalCall Try.prog 14 [.d (.sl xs), .d (.sl xs)] [] [] (one [.d (.bool true)]) [] := by
  have := same_ok xs xs a a hx hx
  rw [decide_eq_true rfl] at this
  exact this

theorem join2 (a b : List D) (ha : ∀ y, y ∈ a → y.size = 1) (hb : ∀ y, y ∈ b → y.size = 1) (hroom : Room (a ++ b).length 1) : LocalCall Try.prog 40 [.d (.sl [.sl a, .sl b])] [] [] (one [.d (.sl (a ++ b))]) [] := by
  have := join_ok [.sl a, .sl b] (fun y hy => by
    simp only [List.mem_cons, List.not_mem_nil, or_false] at hy
    rcases hy with rfl | rfl <;> exact ⟨_, rfl⟩) (by simp) (by rw [pair_join]; intro y hy; exact (List.mem_append.1 hy).elim (ha y) (hb y)) (by rw [pair_join]; exact hroom)
  rw [pair_join] at this
  exact this

theorem same_b (a b : List UInt8) : LocalCall Try.prog 14 [.d (.sl (a.map byteD)), .d (.sl (b.map byteD))] [] [] (one [.d (.bool (decide (a = b)))]) [] := same_ok _ _ a b rfl rfl

theorem joinD_texts : ∀ ts : List (List UInt8), joinD (ts.map tD) = ts.flatten.map byteD
  | [] => rfl
  | t :: ts => by
    have := joinD_texts ts
    simp only [joinD, List.map_cons, List.flatMap_cons, List.flatten_cons, List.map_append] at this ⊢
    rw [this]; rfl

theorem join_b (ts : List (List UInt8)) (hl : ts.length < 2 ^ 62) (hroom : Room ts.flatten.length 1) : LocalCall Try.prog 40 [.d (.sl (ts.map tD))] [] [] (one [.d (.sl (ts.flatten.map byteD))]) [] := by
  have := join_ok (ts.map tD) (fun y hy => by obtain ⟨t, _, rfl⟩ := List.mem_map.1 hy; exact ⟨_, rfl⟩) (by rw [List.length_map]; exact hl) (by rw [joinD_texts]; exact size_bytes _) (by rw [joinD_texts, List.length_map]; exact hroom)
  rw [joinD_texts] at this
  exact this

theorem same_yes (a : List UInt8) : LocalCall Try.prog 14 [.d (.sl (a.map byteD)), .d (.sl (a.map byteD))] [] [] (one [.d (.bool true)]) [] := by
  have := same_b a a
  rwa [decide_eq_true rfl] at this

end Go.Proofs.Ytogncghpngmjpaa

/-
Texts and digests as bytes; the references' joins.
-/
set_option linter.unusedSimpArgs false
set_option linter.unusedVariables false
namespace Go.Proofs.Ytogncghpngmjpaa
open Go.Sym
set_option maxRecDepth 10000
set_option maxHeartbeats 1000000

theorem num_at {A B : Nat} (h : A ≠ B) (xs : List D) (i : Int) (n : Nat) (hi : i = n) (hn : n < 2 ^ 64) (hroom : Room (xs ++ (numB n).map byteD).length 1) :
    LocalCall Try.prog 39 [.sl A [] 1 0 xs.length, .d (.int .u64 i)] [(A, .row 1 xs)] [B] (one [.sl B [] 1 0 (xs ++ (numB n).map byteD).length]) [(B, .row 1 (xs ++ (numB n).map byteD)), (A, .dead)] := by
  subst hi
  exact local_ren [(1, A), (2, B)] [(A, 1), (B, 2)] (num_ok xs n hn hroom) (ren_two h (by simp [AV.namesL, AV.names]) (by simp [one, AV.names]))

theorem num_nil {A B : Nat} (h : A ≠ B) (i : Int) (n : Nat) (hi : i = n) (hn : n < 2 ^ 64) :
    LocalCall Try.prog 39 [.d .nils, .d (.int .u64 i)] [] [A, B] (one [.sl B [] 1 0 ((numB n).map byteD).length]) [(B, .row 1 ((numB n).map byteD)), (A, .dead)] := by
  have := numB_le10 hn
  exact local_nil A 1 (num_at h [] i n hi hn (by unfold Room; simp; omega)) (by simp [hasKey, lkp, beq_ne h.symm]) rfl (by simp [beq_ne h.symm])

theorem text_ok (xs ts : List D) (hts : ∀ y, y ∈ ts → y.size = 1) (hroom : Room (xs ++ (numB ts.length).map byteD ++ ts).length 1) :
    LocalCall Try.prog 38 [.sl 1 [] 1 0 xs.length, .d (.sl ts)] [(1, .row 1 xs)] [2] (one [.sl 2 [] 1 0 (xs ++ (numB ts.length).map byteD ++ ts).length]) [(2, .row 1 (xs ++ (numB ts.length).map byteD ++ ts)), (1, .dead)] := by
  have hl := room_lt hroom
  simp only [List.length_append] at hl
  refine vc_fn mixed Try.func38 rfl rfl [] (vc_chk rfl) ?_
  have hr1 : Room (xs ++ (numB ts.length).map byteD).length 1 := room_le hroom rfl (by simp only [List.length_append]; omega)
  repeat' (first
      | ((with_reducible refine vc_chk ?_); first | decide +kernel | rfl)
      | (with_reducible refine vc_side0 ?_; rfl)
      | (with_reducible first
           | refine vc_true ?_ | refine vc_true2 ?_ | refine vc_side ?_ ?_ | refine vc_triv | refine vc_later ?_ | refine vc_caseT ?_ | refine vc_caseF ?_ | refine vc_cons ?_ | refine vc_nil ?_ ?_ | refine vc_seq ?_
              | refine vc_region ?_ | refine vc_cond ?_ | refine vc_block ?_ | refine vc_retc ?_ | refine vc_exit ?_ | refine vc_skip ?_ | refine vc_scope ?_ | refine vc_label ?_ | refine vc_goto ?_ | refine vc_wkSl0
              | refine vc_wkHp0 | refine vc_eqAVs0 | refine vc_preG0 | refine vc_wkSl ?_ ?_ | refine vc_wkHp ?_ ?_ | refine vc_eqAVs ?_ ?_ | refine vc_preG ?_ ?_ | refine vc_side0 ?_
              | refine vc_callU (num_at (A := 1) (B := 3) (by decide) xs _ ts.length (wrapU64_id (by omega) (by omega)) (by omega) hr1) ?_ ?_ | refine vc_ret [] [(2, 2024)] ?_ | refine vc_weakf [] ?_ ?_ ?_ | refine vc_and ?_ ?_
              | refine vc_ret [] [] ?_)
      | ((with_reducible first | refine vc_caseD (fun h => ?_) (fun h => ?_) | refine vc_caseN (fun h => ?_) (fun h => ?_)) <;> try (exfalso; omega))
      | ((with_reducible refine vc_case (fun h => ?_) (fun h => ?_)) <;> (try simp at h) <;> try (exfalso; omega))
      | (conv in Vc _ => arg 1; whnf
         first
          | (with_reducible refine vc_side0 ?_; rfl)
          | (with_reducible first
              | refine vc_true ?_ | refine vc_true2 ?_ | refine vc_side ?_ ?_ | refine vc_triv | refine vc_later ?_ | refine vc_caseT ?_ | refine vc_caseF ?_ | refine vc_cons ?_ | refine vc_nil ?_ ?_ | refine vc_seq ?_
                 | refine vc_region ?_ | refine vc_cond ?_ | refine vc_block ?_ | refine vc_retc ?_ | refine vc_exit ?_ | refine vc_skip ?_ | refine vc_scope ?_ | refine vc_label ?_ | refine vc_goto ?_ | refine vc_wkSl0
                 | refine vc_wkHp0 | refine vc_eqAVs0 | refine vc_preG0 | refine vc_wkSl ?_ ?_ | refine vc_wkHp ?_ ?_ | refine vc_eqAVs ?_ ?_ | refine vc_preG ?_ ?_ | refine vc_side0 ?_
                 | refine vc_callU (num_at (A := 1) (B := 3) (by decide) xs _ ts.length (wrapU64_id (by omega) (by omega)) (by omega) hr1) ?_ ?_ | refine vc_ret [] [(2, 2024)] ?_ | refine vc_weakf [] ?_ ?_ ?_ | refine vc_and ?_ ?_
                 | refine vc_ret [] [] ?_)
          | ((with_reducible first | refine vc_caseD (fun h => ?_) (fun h => ?_) | refine vc_caseN (fun h => ?_) (fun h => ?_)) <;> try (exfalso; omega))
          | ((with_reducible refine vc_case (fun h => ?_) (fun h => ?_)) <;> (try simp at h) <;> try (exfalso; omega))))
  all_goals first | rfl | exact ⟨⟨trivial, trivial, hroom⟩, hts⟩ | exact ⟨⟨trivial, rfl, hroom⟩, hts⟩

theorem text_at {A B : Nat} (h : A ≠ B) (xs ts : List D) (hts : ∀ y, y ∈ ts → y.size = 1) (hroom : Room (xs ++ (numB ts.length).map byteD ++ ts).length 1) :
    LocalCall Try.prog 38 [.sl A [] 1 0 xs.length, .d (.sl ts)] [(A, .row 1 xs)] [B] (one [.sl B [] 1 0 (xs ++ (numB ts.length).map byteD ++ ts).length]) [(B, .row 1 (xs ++ (numB ts.length).map byteD ++ ts)), (A, .dead)] :=
  local_ren [(1, A), (2, B)] [(A, 1), (B, 2)] (text_ok xs ts hts hroom) (ren_two h (by simp [AV.namesL, AV.names]) (by simp [one, AV.names]))

theorem digest_ok (xs ds : List D) (hd : ds.length = 32) (hts : ∀ y, y ∈ ds → y.size = 1) (hroom : Room (xs ++ ds).length 1) :
    LocalCall Try.prog 43 [.sl 1 [] 1 0 xs.length, .d (.arr 32 1 ds)] [(1, .row 1 xs)] [2] (one [.sl 2 [] 1 0 (xs ++ ds).length]) [(2, .row 1 (xs ++ ds)), (1, .dead)] := by
  refine vc_fn mixed Try.func43 rfl rfl [] (vc_chk rfl) ?_
  repeat' (first
      | ((with_reducible refine vc_chk ?_); first | decide +kernel | rfl)
      | (with_reducible refine vc_side0 ?_; rfl)
      | (with_reducible first
           | refine vc_true ?_ | refine vc_true2 ?_ | refine vc_side ?_ ?_ | refine vc_triv | refine vc_later ?_ | refine vc_caseT ?_ | refine vc_caseF ?_ | refine vc_cons ?_ | refine vc_nil ?_ ?_ | refine vc_seq ?_
              | refine vc_region ?_ | refine vc_cond ?_ | refine vc_block ?_ | refine vc_retc ?_ | refine vc_exit ?_ | refine vc_skip ?_ | refine vc_scope ?_ | refine vc_label ?_ | refine vc_goto ?_ | refine vc_wkSl0
              | refine vc_wkHp0 | refine vc_eqAVs0 | refine vc_preG0 | refine vc_wkSl ?_ ?_ | refine vc_wkHp ?_ ?_ | refine vc_eqAVs ?_ ?_ | refine vc_preG ?_ ?_ | refine vc_side0 ?_ | refine vc_ret [] [(2, 2008)] ?_
              | refine vc_weakf [] ?_ ?_ ?_ | refine vc_and ?_ ?_ | refine vc_ret [] [] ?_)
      | ((with_reducible first | refine vc_caseD (fun h => ?_) (fun h => ?_) | refine vc_caseN (fun h => ?_) (fun h => ?_)) <;> try (exfalso; omega))
      | ((with_reducible refine vc_case (fun h => ?_) (fun h => ?_)) <;> (try simp at h) <;> try (exfalso; omega))
      | (conv in Vc _ => arg 1; whnf
         first
          | (with_reducible refine vc_side0 ?_; rfl)
          | (with_reducible first
              | refine vc_true ?_ | refine vc_true2 ?_ | refine vc_side ?_ ?_ | refine vc_triv | refine vc_later ?_ | refine vc_caseT ?_ | refine vc_caseF ?_ | refine vc_cons ?_ | refine vc_nil ?_ ?_ | refine vc_seq ?_
                 | refine vc_region ?_ | refine vc_cond ?_ | refine vc_block ?_ | refine vc_retc ?_ | refine vc_exit ?_ | refine vc_skip ?_ | refine vc_scope ?_ | refine vc_label ?_ | refine vc_goto ?_ | refine vc_wkSl0
                 | refine vc_wkHp0 | refine vc_eqAVs0 | refine vc_preG0 | refine vc_wkSl ?_ ?_ | refine vc_wkHp ?_ ?_ | refine vc_eqAVs ?_ ?_ | refine vc_preG ?_ ?_ | refine vc_side0 ?_ | refine vc_ret [] [(2, 2008)] ?_
                 | refine vc_weakf [] ?_ ?_ ?_ | refine vc_and ?_ ?_ | refine vc_ret [] [] ?_)
          | ((with_reducible first | refine vc_caseD (fun h => ?_) (fun h => ?_) | refine vc_caseN (fun h => ?_) (fun h => ?_)) <;> try (exfalso; omega))
          | ((with_reducible refine vc_case (fun h => ?_) (fun h => ?_)) <;> (try simp at h) <;> try (exfalso; omega))))
  all_goals
    have e : List.take (((32 : Nat) : Int).toNat - Int.toNat 0) (List.drop (Int.toNat 0) ds) = ds := by
      show List.take 32 (List.drop 0 ds) = ds
      rw [List.drop_zero, List.take_of_length_le (by omega)]
    simp only [e]
  all_goals first
    | rfl
    | exact ⟨⟨by decide, by decide, by decide⟩, trivial⟩
    | exact ⟨⟨⟨trivial, Nat.le_of_eq hd.symm⟩, trivial, hroom⟩, hts⟩
    | exact ⟨⟨⟨trivial, Nat.le_of_eq hd.symm⟩, rfl, hroom⟩, hts⟩

theorem rstep (m : Nat) : D.int .u8 (IntKind.u8.wrap (IntKind.u64.wrap (128 + (m : Int).tmod 128))) = byteD (UInt8.ofNat (m % 128 + 128)) := by
  have e : (128 + (m : Int).tmod 128) = ((m % 128 + 128 : Nat) : Int) := by
    rw [Int.tmod_eq_emod_of_nonneg (by omega)]; omega
  rw [e, wrapU64_id (by omega) (by omega), wrap8, byteD_of (by omega)]
  congr 2
  omega

theorem rdiv {m : Nat} (h : m < 2 ^ 64) : IntKind.u64.wrap ((m : Int).tdiv 128) = ((m / 128 : Nat) : Int) := by
  have e : (m : Int).tdiv 128 = ((m / 128 : Nat) : Int) := by
    rw [Int.tdiv_eq_ediv_of_nonneg (by omega)]; omega
  rw [e, wrapU64_id (by omega) (by omega)]

theorem rNum_ok (i : Int) (n : Nat) (hi : i = n) (hn : n < 2 ^ 64) : LocalCall Try.prog 42 [.d (.int .u64 i)] [] [] (one [.d (.sl ((numB n).map byteD))]) [] := by
  subst hi
  have h10 := numB_le10 hn
  refine vc_fn mixed Try.func42 rfl rfl [(500001, [7001003])] (vc_chk rfl) ?_
  repeat' (first
      | ((with_reducible refine vc_chk ?_); first | decide +kernel | rfl)
      | (with_reducible refine vc_side0 ?_; rfl)
      | (with_reducible first
           | refine vc_true ?_ | refine vc_true2 ?_ | refine vc_side ?_ ?_ | refine vc_triv | refine vc_later ?_ | refine vc_caseT ?_ | refine vc_caseF ?_ | refine vc_cons ?_ | refine vc_nil ?_ ?_ | refine vc_seq ?_
              | refine vc_region ?_ | refine vc_cond ?_ | refine vc_block ?_ | refine vc_retc ?_ | refine vc_exit ?_ | refine vc_skip ?_ | refine vc_scope ?_ | refine vc_label ?_ | refine vc_goto ?_ | refine vc_wkSl0
              | refine vc_wkHp0 | refine vc_eqAVs0 | refine vc_preG0 | refine vc_wkSl ?_ ?_ | refine vc_wkHp ?_ ?_ | refine vc_eqAVs ?_ ?_ | refine vc_preG ?_ ?_ | refine vc_side0 ?_
              | refine vc_loopI 20 (fun (x : List D × Nat) => [(3, .sl 7 [] 1 0 x.1.length), (0, .d (.int .u64 (x.2 : Int)))]) (fun x => [(7, .row 1 x.1)]) (fun x => x.2) (fun x => x.1 ++ (numB x.2).map byteD = (numB n).map byteD ∧ x.2 < 2 ^ 64) ([], n) [] ?_ ?_ ?_ ?_ ?_ (fun x hI => ?_)
              | refine vc_nextI (x.1 ++ [byteD (UInt8.ofNat (x.2 % 128 + 128))], x.2 / 128) [(7, 4024)] ?_ ?_ ?_ ?_ ?_ ?_ | refine vc_ret [true] [] ?_ | refine vc_weakf [] ?_ ?_ ?_ | refine vc_and ?_ ?_ | refine vc_ret [] [] ?_)
      | ((with_reducible first | refine vc_caseD (fun h => ?_) (fun h => ?_) | refine vc_caseN (fun h => ?_) (fun h => ?_)) <;> try (exfalso; omega))
      | ((with_reducible refine vc_case (fun h => ?_) (fun h => ?_)) <;> (try simp at h) <;> try (exfalso; omega))
      | (conv in Vc _ => arg 1; whnf
         first
          | (with_reducible refine vc_side0 ?_; rfl)
          | (with_reducible first
              | refine vc_true ?_ | refine vc_true2 ?_ | refine vc_side ?_ ?_ | refine vc_triv | refine vc_later ?_ | refine vc_caseT ?_ | refine vc_caseF ?_ | refine vc_cons ?_ | refine vc_nil ?_ ?_ | refine vc_seq ?_
                 | refine vc_region ?_ | refine vc_cond ?_ | refine vc_block ?_ | refine vc_retc ?_ | refine vc_exit ?_ | refine vc_skip ?_ | refine vc_scope ?_ | refine vc_label ?_ | refine vc_goto ?_ | refine vc_wkSl0
                 | refine vc_wkHp0 | refine vc_eqAVs0 | refine vc_preG0 | refine vc_wkSl ?_ ?_ | refine vc_wkHp ?_ ?_ | refine vc_eqAVs ?_ ?_ | refine vc_preG ?_ ?_ | refine vc_side0 ?_
                 | refine vc_loopI 20 (fun (x : List D × Nat) => [(3, .sl 7 [] 1 0 x.1.length), (0, .d (.int .u64 (x.2 : Int)))]) (fun x => [(7, .row 1 x.1)]) (fun x => x.2) (fun x => x.1 ++ (numB x.2).map byteD = (numB n).map byteD ∧ x.2 < 2 ^ 64) ([], n) [] ?_ ?_ ?_ ?_ ?_ (fun x hI => ?_)
                 | refine vc_nextI (x.1 ++ [byteD (UInt8.ofNat (x.2 % 128 + 128))], x.2 / 128) [(7, 4024)] ?_ ?_ ?_ ?_ ?_ ?_ | refine vc_ret [true] [] ?_ | refine vc_weakf [] ?_ ?_ ?_ | refine vc_and ?_ ?_ | refine vc_ret [] [] ?_)
          | ((with_reducible first | refine vc_caseD (fun h => ?_) (fun h => ?_) | refine vc_caseN (fun h => ?_) (fun h => ?_)) <;> try (exfalso; omega))
          | ((with_reducible refine vc_case (fun h => ?_) (fun h => ?_)) <;> (try simp at h) <;> try (exfalso; omega))))
  all_goals (try simp only [List.drop_zero, List.take_length, rstep])
  all_goals (try rw [rdiv (by omega)])
  all_goals first
    | rfl
    | exact ⟨rfl, hn⟩
    | omega
    | decide
    | exact fun h => by cases h
    | skip
  all_goals
    obtain ⟨acc, m⟩ := x
    obtain ⟨h1, h2⟩ := hI
    simp only at h1 h2 h ⊢
    have hroom : Room (numB n).length 1 := by unfold Room; omega
    have hlen := congrArg List.length h1
    simp only [List.length_append, List.length_map] at hlen
    rcases Nat.lt_or_ge m 128 with hm | hm
    rotate_left
    · have hm : ¬ m < 128 := by omega
      have hns := numB_step (xs := []) hm h1
      have hlen2 := congrArg List.length hns
      simp only [List.length_append, List.length_map, List.length_nil] at hlen2
      first
      | (exfalso; omega)
      | exact ⟨hns, by omega⟩
      | refine ⟨⟨by simp, trivial, room_le hroom rfl ?_⟩, fun y hy => ?_⟩
        · simp only [List.length_append]; omega
        · simp only [List.mem_singleton] at hy; subst hy; rfl
    · rw [numB_small hm] at h1
      first
      | (exfalso; omega)
      | (rw [low8 hm]; exact h1)
      | (rw [low8 hm]; exact congrArg List.length h1)
      | exact ⟨Nat.le_of_eq (Nat.zero_add _), trivial⟩
      | (rw [low8 hm]; exact congrArg D.sl h1)
      | (rw [low8 hm]; refine ⟨⟨by simp, trivial, room_le hroom rfl (Nat.le_of_eq ((congrArg List.length h1).trans (List.length_map _)))⟩, fun y hy => ?_⟩
         simp only [List.mem_singleton] at hy; subst hy; rfl)

end Go.Proofs.Ytogncghpngmjpaa

/-
The references' joins and texts.
-/
set_option linter.unusedSimpArgs false
set_option linter.unusedVariables false
namespace Go.Proofs.Ytogncghpngmjpaa
open Go.Sym
set_option maxRecDepth 10000
set_option maxHeartbeats 1000000

theorem rText_ok (ts : List D) (hts : ∀ y, y ∈ ts → y.size = 1) (hroom : Room ((numB ts.length).map byteD ++ ts).length 1) : LocalCall Try.prog 41 [.d (.sl ts)] [] [] (one [.d (.sl ((numB ts.length).map byteD ++ ts))]) [] := by
  have hl := room_lt hroom
  simp only [List.length_append] at hl
  refine vc_fn mixed Try.func41 rfl rfl [] (vc_chk rfl) ?_
  repeat' (first
      | ((with_reducible refine vc_chk ?_); first | decide +kernel | rfl)
      | (with_reducible refine vc_side0 ?_; rfl)
      | (with_reducible first
           | refine vc_true ?_ | refine vc_true2 ?_ | refine vc_side ?_ ?_ | refine vc_triv | refine vc_later ?_ | refine vc_caseT ?_ | refine vc_caseF ?_ | refine vc_cons ?_ | refine vc_nil ?_ ?_ | refine vc_seq ?_
              | refine vc_region ?_ | refine vc_cond ?_ | refine vc_block ?_ | refine vc_retc ?_ | refine vc_exit ?_ | refine vc_skip ?_ | refine vc_scope ?_ | refine vc_label ?_ | refine vc_goto ?_ | refine vc_wkSl0
              | refine vc_wkHp0 | refine vc_eqAVs0 | refine vc_preG0 | refine vc_wkSl ?_ ?_ | refine vc_wkHp ?_ ?_ | refine vc_eqAVs ?_ ?_ | refine vc_preG ?_ ?_ | refine vc_side0 ?_
              | refine vc_pure (rNum_ok _ ts.length (wrapU64_id (by omega) (by omega)) (by omega)) ?_ ?_ ?_ | refine vc_call [true] (join_ok [.sl ((numB ts.length).map byteD), .sl ts] ?_ ?_ ?_ ?_) ?_ | refine vc_weakf [] ?_ ?_ ?_
              | refine vc_and ?_ ?_ | refine vc_ret [] [] ?_)
      | ((with_reducible first | refine vc_caseD (fun h => ?_) (fun h => ?_) | refine vc_caseN (fun h => ?_) (fun h => ?_)) <;> try (exfalso; omega))
      | ((with_reducible refine vc_case (fun h => ?_) (fun h => ?_)) <;> (try simp at h) <;> try (exfalso; omega))
      | (conv in Vc _ => arg 1; whnf
         first
          | (with_reducible refine vc_side0 ?_; rfl)
          | (with_reducible first
              | refine vc_true ?_ | refine vc_true2 ?_ | refine vc_side ?_ ?_ | refine vc_triv | refine vc_later ?_ | refine vc_caseT ?_ | refine vc_caseF ?_ | refine vc_cons ?_ | refine vc_nil ?_ ?_ | refine vc_seq ?_
                 | refine vc_region ?_ | refine vc_cond ?_ | refine vc_block ?_ | refine vc_retc ?_ | refine vc_exit ?_ | refine vc_skip ?_ | refine vc_scope ?_ | refine vc_label ?_ | refine vc_goto ?_ | refine vc_wkSl0
                 | refine vc_wkHp0 | refine vc_eqAVs0 | refine vc_preG0 | refine vc_wkSl ?_ ?_ | refine vc_wkHp ?_ ?_ | refine vc_eqAVs ?_ ?_ | refine vc_preG ?_ ?_ | refine vc_side0 ?_
                 | refine vc_pure (rNum_ok _ ts.length (wrapU64_id (by omega) (by omega)) (by omega)) ?_ ?_ ?_ | refine vc_call [true] (join_ok [.sl ((numB ts.length).map byteD), .sl ts] ?_ ?_ ?_ ?_) ?_
                 | refine vc_weakf [] ?_ ?_ ?_ | refine vc_and ?_ ?_ | refine vc_ret [] [] ?_)
          | ((with_reducible first | refine vc_caseD (fun h => ?_) (fun h => ?_) | refine vc_caseN (fun h => ?_) (fun h => ?_)) <;> try (exfalso; omega))
          | ((with_reducible refine vc_case (fun h => ?_) (fun h => ?_)) <;> (try simp at h) <;> try (exfalso; omega))))
  all_goals first
    | (rw [pair_join]; done)
    | (rw [pair_join]; exact hroom)
    | exact ⟨Nat.le_of_eq (Nat.zero_add _), trivial⟩
    | rfl
    | (rw [pair_join]
       intro y hy
       rcases List.mem_append.1 hy with hy | hy
       · obtain ⟨c, _, rfl⟩ := List.mem_map.1 hy; rfl
       · exact hts y hy)
    | (intro y hy
       simp only [List.mem_cons, List.not_mem_nil, or_false] at hy
       rcases hy with rfl | rfl <;> exact ⟨_, rfl⟩)
    | (show 2 < 2 ^ 62; omega)

end Go.Proofs.Ytogncghpngmjpaa

/-
What the deferred closure of codec.Read does.
-/
set_option linter.unusedSimpArgs false
set_option linter.unusedVariables false
namespace Go.Proofs.Ytogncghpngmjpaa
open Go.Sym
set_option maxRecDepth 10000
set_option maxHeartbeats 1000000


/-- What is thrown where bytes are none such. -/
def fault : Value := .iface 95 (.agg #[])

theorem not_nil (w : World) : (binOp .eql 20 fault .nilIface).run Try.prog w = .ok (.bool false) w := by kernel_rfl
theorem guard_nil (w : World) : (eqGuard .eql 20 (.tmp 4) (.const .nilIface) fault .nilIface).run Try.prog w = .ok () w := by kernel_rfl
theorem is_nil (w : World) : (binOp .eql 20 .nilIface .nilIface).run Try.prog w = .ok (.bool true) w := by kernel_rfl
theorem is_fault (w : World) : (Instr.typeAssert fault 20 95 true).run Try.prog w = .ok (.tuple #[.agg #[], .bool true]) w := by kernel_rfl

theorem FR_round (ro : Option Nat) : (FR ro).round = ro := rfl
theorem FR_fn (ro : Option Nat) (f : FuncId) : (FR ro).fn f = True := rfl
theorem FR_depth (ro : Option Nat) : (FR ro).depth = none := rfl

theorem tmpsC (p : Addr) (v : Value) : (#[Value.pointer (some p)] ++ (Array.replicate 9 undef).setIfInBounds 3 v) = #[.pointer (some p), undef, undef, undef, v, undef, undef, undef, undef, undef] := rfl

theorem catch_idle (p : Addr) (w : World) :
    CallsDIn (FR none) 0 Try.prog 69 #[.pointer (some p)] .returning w fun e u' w' => e = .returned (.tuple #[]) ∧ u' = .returning ∧ w' = w := by
  refine callsDIn_of_wpSIn Try.func69 rfl trivial fun c₀ cs hu => ?_
  have h0 := is_nil w
  have q1 := FR_round none
  have q2 := FR_fn none
  have q3 := FR_depth none
  apply wpSIn_seq
  apply wpSIn_region
  simp [wpOpsSIn, go_sem, recoverD, hu, Exit.thenS]
  rw [tmpsC]
  refine wpSIn_of_wpIn rfl ?_
  gi_wp2
  cases c₀
  simp_all [bodyPostS, results]

theorem catch_pan (p : Addr) (w : World) (k : IntKind) (x : Int) (hc : (w.alloc (.cells #[] 95)).cell? p = some (.int k x)) (hz : (w.alloc (.cells #[] 95)).frozen? p = false) :
    CallsDIn (FR none) 0 Try.prog 69 #[.pointer (some p)] (.panicking [{ v := fault, recovered := false }]) w fun e u' w' =>
      e = .returned (.tuple #[]) ∧ u' = .panicking [{ v := fault, recovered := true }] ∧ w' = (w.alloc (.cells #[] 95)).setCell p (.int .i64 3) := by
  refine callsDIn_of_wpSIn Try.func69 rfl trivial fun c₀ cs hu => ?_
  have h0 := not_nil w
  have hg := guard_nil w
  have q1 := FR_round none
  have q2 := FR_fn none
  have q3 := FR_depth none
  have h1 := is_fault w
  apply wpSIn_seq
  apply wpSIn_region
  simp [wpOpsSIn, go_sem, recoverD, hu, Exit.thenS]
  rw [tmpsC]
  refine wpSIn_of_wpIn rfl ?_
  gi_wp2
  all_goals simp [bodyPostS, results]

end Go.Proofs.Ytogncghpngmjpaa

/-
The reader: bytes and numbers.
-/
set_option linter.unusedSimpArgs false
set_option linter.unusedVariables false
namespace Go.Proofs.Ytogncghpngmjpaa
open Go.Sym
set_option maxRecDepth 10000
set_option maxHeartbeats 1000000

/-- A reader: bytes, and how many were read. -/
def rd (B : List D) (k : Nat) : AObj := .var (.d (.st [.sl B, .int .i64 (k : Int)]))

/-- A number read from a place on ('n': what the bytes up to now tell; 'k': how many they were). -/
def rdN (bs : List UInt8) : Nat → Nat → Nat → Nat → Option (Nat × Nat)
  | 0, _, _, _ => none
  | f + 1, at_, n, k => bif decide (at_ < bs.length) then
      bif (decide (k = 9) && decide (1 < (bs.getD at_ 0).toNat)) || (decide (0 < k) && decide ((bs.getD at_ 0).toNat = 0)) then none
      else bif decide ((bs.getD at_ 0).toNat < 128) then some (n + (bs.getD at_ 0).toNat % 128 * 2 ^ (7 * k), at_ + 1)
      else rdN bs f (at_ + 1) (n + (bs.getD at_ 0).toNat % 128 * 2 ^ (7 * k)) (k + 1)
    else none

theorem fail_pan (B : List D) (k : Nat) : LocalPan Try.prog 48 [.ptr 9 []] [(9, rd B k)] [] fault [(9, .dead)] := by
  refine vc_fnPan mixed Try.func48 rfl rfl [] (vc_chk rfl) ?_
  repeat' (first
      | ((with_reducible refine vc_chk ?_); first | decide +kernel | rfl)
      | (with_reducible refine vc_side0 ?_; rfl)
      | (with_reducible first
           | refine vc_true ?_ | refine vc_true2 ?_ | refine vc_side ?_ ?_ | refine vc_triv | refine vc_later ?_ | refine vc_caseT ?_ | refine vc_caseF ?_ | refine vc_cons ?_ | refine vc_nil ?_ ?_ | refine vc_seq ?_
              | refine vc_region ?_ | refine vc_cond ?_ | refine vc_block ?_ | refine vc_retc ?_ | refine vc_exit ?_ | refine vc_skip ?_ | refine vc_scope ?_ | refine vc_label ?_ | refine vc_goto ?_ | refine vc_wkSl0
              | refine vc_wkHp0 | refine vc_eqAVs0 | refine vc_preG0 | refine vc_wkSl ?_ ?_ | refine vc_wkHp ?_ ?_ | refine vc_eqAVs ?_ ?_ | refine vc_preG ?_ ?_ | refine vc_side0 ?_ | refine vc_panc [] [9] ?_ ?_
              | refine vc_weakf [] ?_ ?_ ?_ | refine vc_and ?_ ?_ | refine vc_ret [] [] ?_)
      | ((with_reducible first | refine vc_caseD (fun h => ?_) (fun h => ?_) | refine vc_caseN (fun h => ?_) (fun h => ?_)) <;> try (exfalso; omega))
      | ((with_reducible refine vc_case (fun h => ?_) (fun h => ?_)) <;> (try simp at h) <;> try (exfalso; omega))
      | (conv in Vc _ => arg 1; whnf
         first
          | (with_reducible refine vc_side0 ?_; rfl)
          | (with_reducible first
              | refine vc_true ?_ | refine vc_true2 ?_ | refine vc_side ?_ ?_ | refine vc_triv | refine vc_later ?_ | refine vc_caseT ?_ | refine vc_caseF ?_ | refine vc_cons ?_ | refine vc_nil ?_ ?_ | refine vc_seq ?_
                 | refine vc_region ?_ | refine vc_cond ?_ | refine vc_block ?_ | refine vc_retc ?_ | refine vc_exit ?_ | refine vc_skip ?_ | refine vc_scope ?_ | refine vc_label ?_ | refine vc_goto ?_ | refine vc_wkSl0
                 | refine vc_wkHp0 | refine vc_eqAVs0 | refine vc_preG0 | refine vc_wkSl ?_ ?_ | refine vc_wkHp ?_ ?_ | refine vc_eqAVs ?_ ?_ | refine vc_preG ?_ ?_ | refine vc_side0 ?_ | refine vc_panc [] [9] ?_ ?_
                 | refine vc_weakf [] ?_ ?_ ?_ | refine vc_and ?_ ?_ | refine vc_ret [] [] ?_)
          | ((with_reducible first | refine vc_caseD (fun h => ?_) (fun h => ?_) | refine vc_caseN (fun h => ?_) (fun h => ?_)) <;> try (exfalso; omega))
          | ((with_reducible refine vc_case (fun h => ?_) (fun h => ?_)) <;> (try simp at h) <;> try (exfalso; omega))))
  all_goals rfl

theorem byte_ok (B : List D) (bs : List UInt8) (hB : B = bs.map byteD) (k : Nat) (hk : k < bs.length) (hl : bs.length < 2 ^ 63) (c : UInt8) (hc : bs.getD k 0 = c) : LocalCall Try.prog 64 [.ptr 9 []] [(9, rd B k)] [] (one [.d (.int .u8 (c.toNat : Int))]) [(9, rd B (k + 1))] := by
  have hlen : B.length = bs.length := by rw [hB]; simp
  refine vc_fn mixed Try.func64 rfl rfl [] (vc_chk rfl) ?_
  have e1 : IntKind.i64.wrap ((k : Int) + 1) = ((k + 1 : Nat) : Int) := by rw [wrap64_id (by omega) (by omega)]; rfl
  have e2 : IntKind.i64.wrap (((k + 1 : Nat) : Int) - 1) = (k : Int) := by rw [wrap64_id (by omega) (by omega)]; omega
  have e3 : B.getD k .nilp = .int .u8 (c.toNat : Int) := by rw [hB, getD_byte hk, hc]; rfl
  repeat' (first
      | ((with_reducible refine vc_chk ?_); first | decide +kernel | rfl)
      | (with_reducible refine vc_side0 ?_; rfl)
      | (with_reducible first
           | refine vc_true ?_ | refine vc_true2 ?_ | refine vc_side ?_ ?_ | refine vc_triv | refine vc_later ?_ | refine vc_caseT ?_ | refine vc_caseF ?_ | refine vc_cons ?_ | refine vc_nil ?_ ?_ | refine vc_seq ?_
              | refine vc_region ?_ | refine vc_cond ?_ | refine vc_block ?_ | refine vc_retc ?_ | refine vc_exit ?_ | refine vc_skip ?_ | refine vc_scope ?_ | refine vc_label ?_ | refine vc_goto ?_ | refine vc_wkSl0
              | refine vc_wkHp0 | refine vc_eqAVs0 | refine vc_preG0 | refine vc_wkSl ?_ ?_ | refine vc_wkHp ?_ ?_ | refine vc_eqAVs ?_ ?_ | refine vc_preG ?_ ?_ | refine vc_side0 ?_ | refine vc_weakf [] ?_ ?_ ?_
              | refine vc_and ?_ ?_ | refine vc_ret [] [] ?_)
      | ((with_reducible first | refine vc_caseD (fun h => ?_) (fun h => ?_) | refine vc_caseN (fun h => ?_) (fun h => ?_)) <;> try (exfalso; omega))
      | ((with_reducible refine vc_case (fun h => ?_) (fun h => ?_)) <;> (try simp at h) <;> try (exfalso; omega))
      | (conv in Vc _ => arg 1; whnf
         first
          | (with_reducible refine vc_side0 ?_; rfl)
          | (with_reducible first
              | refine vc_true ?_ | refine vc_true2 ?_ | refine vc_side ?_ ?_ | refine vc_triv | refine vc_later ?_ | refine vc_caseT ?_ | refine vc_caseF ?_ | refine vc_cons ?_ | refine vc_nil ?_ ?_ | refine vc_seq ?_
                 | refine vc_region ?_ | refine vc_cond ?_ | refine vc_block ?_ | refine vc_retc ?_ | refine vc_exit ?_ | refine vc_skip ?_ | refine vc_scope ?_ | refine vc_label ?_ | refine vc_goto ?_ | refine vc_wkSl0
                 | refine vc_wkHp0 | refine vc_eqAVs0 | refine vc_preG0 | refine vc_wkSl ?_ ?_ | refine vc_wkHp ?_ ?_ | refine vc_eqAVs ?_ ?_ | refine vc_preG ?_ ?_ | refine vc_side0 ?_ | refine vc_weakf [] ?_ ?_ ?_
                 | refine vc_and ?_ ?_ | refine vc_ret [] [] ?_)
          | ((with_reducible first | refine vc_caseD (fun h => ?_) (fun h => ?_) | refine vc_caseN (fun h => ?_) (fun h => ?_)) <;> try (exfalso; omega))
          | ((with_reducible refine vc_case (fun h => ?_) (fun h => ?_)) <;> (try simp at h) <;> try (exfalso; omega))))
  all_goals simp only [e1, e2, e3, Int.toNat_natCast]
  all_goals first
    | rfl
    | exact ⟨⟨by omega, by omega⟩, rfl⟩

theorem byte_pan (B : List D) (bs : List UInt8) (hB : B = bs.map byteD) (k : Nat) (hk : ¬ k < bs.length) : LocalPan Try.prog 64 [.ptr 9 []] [(9, rd B k)] [] fault [(9, .dead)] := by
  have hlen : B.length = bs.length := by rw [hB]; simp
  refine vc_fnPan mixed Try.func64 rfl rfl [] (vc_chk rfl) ?_
  repeat' (first
      | ((with_reducible refine vc_chk ?_); first | decide +kernel | rfl)
      | (with_reducible refine vc_side0 ?_; rfl)
      | (with_reducible first
           | refine vc_true ?_ | refine vc_true2 ?_ | refine vc_side ?_ ?_ | refine vc_triv | refine vc_later ?_ | refine vc_caseT ?_ | refine vc_caseF ?_ | refine vc_cons ?_ | refine vc_nil ?_ ?_ | refine vc_seq ?_
              | refine vc_region ?_ | refine vc_cond ?_ | refine vc_block ?_ | refine vc_retc ?_ | refine vc_exit ?_ | refine vc_skip ?_ | refine vc_scope ?_ | refine vc_label ?_ | refine vc_goto ?_ | refine vc_wkSl0
              | refine vc_wkHp0 | refine vc_eqAVs0 | refine vc_preG0 | refine vc_wkSl ?_ ?_ | refine vc_wkHp ?_ ?_ | refine vc_eqAVs ?_ ?_ | refine vc_preG ?_ ?_ | refine vc_side0 ?_ | refine vc_pan [] (fail_pan B k) ?_
              | refine vc_panc [] [] ?_ ?_ | refine vc_weakf [] ?_ ?_ ?_ | refine vc_and ?_ ?_ | refine vc_ret [] [] ?_)
      | ((with_reducible first | refine vc_caseD (fun h => ?_) (fun h => ?_) | refine vc_caseN (fun h => ?_) (fun h => ?_)) <;> try (exfalso; omega))
      | ((with_reducible refine vc_case (fun h => ?_) (fun h => ?_)) <;> (try simp at h) <;> try (exfalso; omega))
      | (conv in Vc _ => arg 1; whnf
         first
          | (with_reducible refine vc_side0 ?_; rfl)
          | (with_reducible first
              | refine vc_true ?_ | refine vc_true2 ?_ | refine vc_side ?_ ?_ | refine vc_triv | refine vc_later ?_ | refine vc_caseT ?_ | refine vc_caseF ?_ | refine vc_cons ?_ | refine vc_nil ?_ ?_ | refine vc_seq ?_
                 | refine vc_region ?_ | refine vc_cond ?_ | refine vc_block ?_ | refine vc_retc ?_ | refine vc_exit ?_ | refine vc_skip ?_ | refine vc_scope ?_ | refine vc_label ?_ | refine vc_goto ?_ | refine vc_wkSl0
                 | refine vc_wkHp0 | refine vc_eqAVs0 | refine vc_preG0 | refine vc_wkSl ?_ ?_ | refine vc_wkHp ?_ ?_ | refine vc_eqAVs ?_ ?_ | refine vc_preG ?_ ?_ | refine vc_side0 ?_ | refine vc_pan [] (fail_pan B k) ?_
                 | refine vc_panc [] [] ?_ ?_ | refine vc_weakf [] ?_ ?_ ?_ | refine vc_and ?_ ?_ | refine vc_ret [] [] ?_)
          | ((with_reducible first | refine vc_caseD (fun h => ?_) (fun h => ?_) | refine vc_caseN (fun h => ?_) (fun h => ?_)) <;> try (exfalso; omega))
          | ((with_reducible refine vc_case (fun h => ?_) (fun h => ?_)) <;> (try simp at h) <;> try (exfalso; omega))))
  all_goals rfl

theorem vc_by (p : Prop) [Decidable p] {q : Prop} (h1 : p → Vc q) (h2 : ¬ p → Vc q) : Vc q := if h : p then h1 h else h2 h

theorem rdN_step (bs : List UInt8) {k : Nat} (hk : k ≤ 9) (i n : Nat) : rdN bs (10 - k) i n k = bif decide (i < bs.length) then
      bif (decide (k = 9) && decide (1 < (bs.getD i 0).toNat)) || (decide (0 < k) && decide ((bs.getD i 0).toNat = 0)) then none
      else bif decide ((bs.getD i 0).toNat < 128) then some (n + (bs.getD i 0).toNat % 128 * 2 ^ (7 * k), i + 1)
      else rdN bs (10 - (k + 1)) (i + 1) (n + (bs.getD i 0).toNat % 128 * 2 ^ (7 * k)) (k + 1)
    else none := by
  obtain ⟨f, hf⟩ : ∃ f, 10 - k = f + 1 := ⟨9 - k, by omega⟩
  rw [hf, rdN, show f = 10 - (k + 1) by omega]

structure RdI (bs : List UInt8) (R : Option (Nat × Nat)) (x : Nat × Nat × Nat) : Prop where
  h : rdN bs (10 - x.2.1) x.2.2 x.1 x.2.1 = R
  lt : x.1 < 2 ^ (7 * x.2.1)
  le : x.2.1 ≤ 9

theorem RdI.cases {bs : List UInt8} {R : Option (Nat × Nat)} {n k i : Nat} (hI : RdI bs R (n, k, i)) : n < 2 ^ (7 * k) ∧ k ≤ 9 ∧ ((¬ i < bs.length ∧ R = none) ∨ (i < bs.length ∧ ∃ c, bs.getD i 0 = c ∧
    ((((7 * k = 63 ∧ 1 < c.toNat) ∨ (0 < k ∧ c.toNat = 0)) ∧ R = none) ∨
     (¬ (7 * k = 63 ∧ 1 < c.toNat) ∧ ¬ (0 < k ∧ c.toNat = 0) ∧ c.toNat < 128 ∧ R = some (n + c.toNat % 128 * 2 ^ (7 * k), i + 1)) ∨
     (¬ (7 * k = 63 ∧ 1 < c.toNat) ∧ ¬ (0 < k ∧ c.toNat = 0) ∧ ¬ c.toNat < 128 ∧ RdI bs R (n + c.toNat % 128 * 2 ^ (7 * k), k + 1, i + 1))))) := by
  obtain ⟨h, lt, le⟩ := hI
  simp only at h lt le
  refine ⟨lt, le, ?_⟩
  rw [rdN_step bs le] at h
  by_cases hi : i < bs.length
  · refine .inr ⟨hi, _, rfl, ?_⟩
    generalize bs.getD i 0 = c at h
    simp only [hi, decide_true, cond_true] at h
    by_cases hb : (7 * k = 63 ∧ 1 < c.toNat) ∨ (0 < k ∧ c.toNat = 0)
    · have e : ((decide (k = 9) && decide (1 < c.toNat)) || (decide (0 < k) && decide (c.toNat = 0))) = true := by
        simp only [Bool.or_eq_true, Bool.and_eq_true, decide_eq_true_eq]
        exact hb.imp (fun h => ⟨by omega, h.2⟩) id
      rw [e] at h
      exact .inl ⟨hb, h.symm⟩
    · have e : ((decide (k = 9) && decide (1 < c.toNat)) || (decide (0 < k) && decide (c.toNat = 0))) = false := by
        rw [Bool.eq_false_iff]
        simp only [ne_eq, Bool.or_eq_true, Bool.and_eq_true, decide_eq_true_eq]
        exact fun hq => hb (hq.imp (fun h => ⟨by omega, h.2⟩) id)
      rw [e] at h
      have hb1 := fun hq => hb (.inl hq)
      have hb2 := fun hq => hb (.inr hq)
      by_cases hc : c.toNat < 128
      · simp only [hc, decide_true, cond_true, cond_false] at h
        exact .inr (.inl ⟨hb1, hb2, hc, h.symm⟩)
      · simp only [hc, decide_false, cond_false] at h
        refine .inr (.inr ⟨hb1, hb2, hc, h, ?_, ?_⟩)
        · have := Nat.mod_lt c.toNat (show 0 < 128 by omega)
          simp only
          rw [show 7 * (k + 1) = 7 * k + 7 by omega, Nat.pow_add]
          generalize c.toNat % 128 = d at this
          have : (d + 1) * 2 ^ (7 * k) ≤ 128 * 2 ^ (7 * k) := Nat.mul_le_mul_right _ (by omega)
          rw [Nat.add_mul] at this
          omega
        · have hlt := c.toNat_lt
          simp only
          omega
  · refine .inl ⟨hi, ?_⟩
    simp only [hi, decide_false, cond_false] at h
    exact h.symm

theorem RdI.ok {bs : List UInt8} {v e : Nat} {x : Nat × Nat × Nat} (hI : RdI bs (some (v, e)) x) {q : Prop} (h : ∀ c : UInt8, bs.getD x.2.2 0 = c → x.2.2 < bs.length → x.1 < 2 ^ (7 * x.2.1) → x.2.1 ≤ 9 → ¬ (7 * x.2.1 = 63 ∧ 1 < c.toNat) → ¬ (0 < x.2.1 ∧ c.toNat = 0) →
    (c.toNat < 128 → v = x.1 + c.toNat % 128 * 2 ^ (7 * x.2.1) ∧ e = x.2.2 + 1) → (¬ c.toNat < 128 → RdI bs (some (v, e)) (x.1 + c.toNat % 128 * 2 ^ (7 * x.2.1), x.2.1 + 1, x.2.2 + 1)) → Vc q) : Vc q := by
  obtain ⟨n, k, i⟩ := x
  obtain ⟨lt, le, ⟨_, h1⟩ | ⟨hi, c, hc, ⟨_, h1⟩ | ⟨h1, h2, h3, h4⟩ | ⟨h1, h2, h3, h4⟩⟩⟩ := hI.cases
  · cases h1
  · cases h1
  · cases h4; exact h c hc hi lt le h1 h2 (fun _ => ⟨rfl, rfl⟩) (fun h => absurd h3 h)
  · exact h c hc hi lt le h1 h2 (fun h => absurd h h3) (fun _ => h4)

theorem RdI.no {bs : List UInt8} {x : Nat × Nat × Nat} (hI : RdI bs none x) {q : Prop} (h0 : ¬ x.2.2 < bs.length → Vc q) (h : ∀ c : UInt8, bs.getD x.2.2 0 = c → x.2.2 < bs.length → x.1 < 2 ^ (7 * x.2.1) → x.2.1 ≤ 9 → ((7 * x.2.1 = 63 ∧ 1 < c.toNat) ∨ (0 < x.2.1 ∧ c.toNat = 0) ∨ ¬ c.toNat < 128) →
    (¬ (7 * x.2.1 = 63 ∧ 1 < c.toNat) → ¬ (0 < x.2.1 ∧ c.toNat = 0) → RdI bs none (x.1 + c.toNat % 128 * 2 ^ (7 * x.2.1), x.2.1 + 1, x.2.2 + 1)) → Vc q) : Vc q := by
  obtain ⟨n, k, i⟩ := x
  obtain ⟨lt, le, ⟨hi, _⟩ | ⟨hi, c, hc, ⟨hb, _⟩ | ⟨h1, h2, h3, h4⟩ | ⟨h1, h2, h3, h4⟩⟩⟩ := hI.cases
  · exact h0 hi
  · exact h c hc hi lt le (hb.imp id .inl) (fun a b => hb.elim (fun h => absurd h a) (fun h => absurd h b))
  · cases h4
  · exact h c hc hi lt le (.inr (.inr h3)) (fun _ _ => h4)

theorem and127 (c : UInt8) : aBits .and .u8 (c.toNat : Int) 127 = ((c.toNat % 128 : Nat) : Int) := by
  have key : ∀ k : Fin 256, aBits .and .u8 ((k.val : Nat) : Int) 127 = ((k.val % 128 : Nat) : Int) := by decide +kernel
  exact key ⟨c.toNat, c.toNat_lt⟩

theorem orNat {a b : Nat} (ha : a < 2 ^ 64) (hb : b < 2 ^ 64) : aBits .or .u64 (a : Int) (b : Int) = ((a ||| b : Nat) : Int) := by
  have hlt := Nat.or_lt_two_pow ha hb
  have e : (BitVec.ofInt 64 (a : Int) ||| BitVec.ofInt 64 (b : Int)).toNat = a ||| b := by
    rw [BitVec.toNat_or, BitVec.ofInt_natCast, BitVec.ofInt_natCast, BitVec.toNat_ofNat, BitVec.toNat_ofNat, Nat.mod_eq_of_lt ha, Nat.mod_eq_of_lt hb]
  show IntKind.u64.wrap (((BitVec.ofInt 64 (a : Int) ||| BitVec.ofInt 64 (b : Int)).toNat : Nat) : Int) = _
  rw [e, wrapU64_id (by omega) (by omega)]

theorem or_shift {n k : Nat} {c : UInt8} (hn : n < 2 ^ (7 * k)) (hk : k ≤ 9) (h1 : ¬ (7 * k = 63 ∧ 1 < c.toNat)) :
    aBits .or .u64 (n : Int) (shlI .u64 (IntKind.u64.wrap (aBits .and .u8 (c.toNat : Int) 127)) ((7 * k : Nat) : Int)) = ((n + c.toNat % 128 * 2 ^ (7 * k) : Nat) : Int) := by
  have hd : c.toNat % 128 < 128 := Nat.mod_lt _ (by omega)
  have hp : 2 ^ (7 * k) ≤ 2 ^ 63 := Nat.pow_le_pow_right (by omega) (by omega)
  have hbig : c.toNat % 128 * 2 ^ (7 * k) < 2 ^ 64 := by
    rcases Nat.lt_or_ge k 9 with h9 | h9
    · have h56 : 2 ^ (7 * k) ≤ 2 ^ 56 := Nat.pow_le_pow_right (by omega) (by omega)
      calc c.toNat % 128 * 2 ^ (7 * k) ≤ 127 * 2 ^ 56 := Nat.mul_le_mul (by omega) h56
        _ < 2 ^ 64 := by decide
    · obtain rfl : k = 9 := by omega
      have : c.toNat ≤ 1 := by omega
      have : c.toNat % 128 ≤ 1 := by omega
      calc c.toNat % 128 * 2 ^ (7 * 9) ≤ 1 * 2 ^ 63 := Nat.mul_le_mul this (Nat.le_refl _)
        _ < 2 ^ 64 := by decide
  have hs : shlI .u64 (IntKind.u64.wrap (aBits .and .u8 (c.toNat : Int) 127)) ((7 * k : Nat) : Int) = ((c.toNat % 128 * 2 ^ (7 * k) : Nat) : Int) := by
    rw [and127, wrapU64_id (by omega) (by omega)]
    have hm : min ((7 * k : Nat) : Int).toNat IntKind.u64.bits = 7 * k := by
      show min (7 * k) 64 = _
      omega
    unfold shlI
    rw [hm]
    have : ((c.toNat % 128 : Nat) : Int) * 2 ^ (7 * k) = ((c.toNat % 128 * 2 ^ (7 * k) : Nat) : Int) := by
      rw [Int.natCast_mul, Int.natCast_pow]; rfl
    rw [this, wrapU64_id (by omega) (by omega)]
  rw [hs, orNat (by omega) hbig]
  congr 1
  rw [Nat.or_comm, Nat.mul_comm, ← Nat.two_pow_add_eq_or_of_lt hn]
  omega

end Go.Proofs.Ytogncghpngmjpaa

/-
The reader's numbers.
-/
set_option linter.unusedSimpArgs false
set_option linter.unusedVariables false
namespace Go.Proofs.Ytogncghpngmjpaa
open Go.Sym
set_option maxRecDepth 10000
set_option maxHeartbeats 1000000

theorem num_read (B : List D) (bs : List UInt8) (hB : B = bs.map byteD) (k v e : Nat) (hr : rdN bs 10 k 0 0 = some (v, e)) (hl : bs.length < 2 ^ 63) :
    LocalCall Try.prog 47 [.ptr 9 []] [(9, rd B k)] [] (one [.d (.int .u64 (v : Int))]) [(9, rd B e)] := by
  refine vc_fn mixed Try.func47 rfl rfl [] (vc_chk rfl) ?_
  repeat' (first
      | ((with_reducible refine vc_chk ?_); first | decide +kernel | rfl)
      | (with_reducible refine vc_side0 ?_; rfl)
      | (with_reducible first
           | refine vc_true ?_ | refine vc_true2 ?_ | refine vc_side ?_ ?_ | refine vc_triv | refine vc_later ?_ | refine vc_caseT ?_ | refine vc_caseF ?_ | refine vc_cons ?_ | refine vc_nil ?_ ?_ | refine vc_seq ?_
              | refine vc_region ?_ | refine vc_cond ?_ | refine vc_block ?_ | refine vc_retc ?_ | refine vc_exit ?_ | refine vc_skip ?_ | refine vc_scope ?_ | refine vc_label ?_ | refine vc_goto ?_ | refine vc_wkSl0
              | refine vc_wkHp0 | refine vc_eqAVs0 | refine vc_preG0 | refine vc_wkSl ?_ ?_ | refine vc_wkHp ?_ ?_ | refine vc_eqAVs ?_ ?_ | refine vc_preG ?_ ?_ | refine vc_side0 ?_
              | refine vc_loopI 36 (fun (x : Nat × Nat × Nat) => [(0, .ptr 9 []), (3, .d (.int .u64 (x.1 : Int))), (4, .d (.int .i64 ((7 * x.2.1 : Nat) : Int)))]) (fun x => [(9, rd B x.2.2)]) (fun x => 10 - x.2.1) (RdI bs (some (v, e))) (0, 0, k) [] ?_ ?_ ?_ ?_ ?_ (fun x hI => hI.ok fun c hc hi hn hj hb1 hb2 hv hx => ?_)
              | refine vc_call [] (byte_ok B bs hB x.2.2 hi hl c hc) ?_ | refine vc_nextI (x.1 + c.toNat % 128 * 2 ^ (7 * x.2.1), x.2.1 + 1, x.2.2 + 1) [] ?_ ?_ ?_ ?_ ?_ ?_ | refine vc_weakf [] ?_ ?_ ?_ | refine vc_and ?_ ?_
              | refine vc_ret [] [] ?_)
      | ((with_reducible first | refine vc_caseD (fun h => ?_) (fun h => ?_) | refine vc_caseN (fun h => ?_) (fun h => ?_)) <;> try (exfalso; omega))
      | ((with_reducible refine vc_case (fun h => ?_) (fun h => ?_)) <;> (try simp at h) <;> try (exfalso; omega))
      | (conv in Vc _ => arg 1; whnf
         first
          | (with_reducible refine vc_side0 ?_; rfl)
          | (with_reducible first
              | refine vc_true ?_ | refine vc_true2 ?_ | refine vc_side ?_ ?_ | refine vc_triv | refine vc_later ?_ | refine vc_caseT ?_ | refine vc_caseF ?_ | refine vc_cons ?_ | refine vc_nil ?_ ?_ | refine vc_seq ?_
                 | refine vc_region ?_ | refine vc_cond ?_ | refine vc_block ?_ | refine vc_retc ?_ | refine vc_exit ?_ | refine vc_skip ?_ | refine vc_scope ?_ | refine vc_label ?_ | refine vc_goto ?_ | refine vc_wkSl0
                 | refine vc_wkHp0 | refine vc_eqAVs0 | refine vc_preG0 | refine vc_wkSl ?_ ?_ | refine vc_wkHp ?_ ?_ | refine vc_eqAVs ?_ ?_ | refine vc_preG ?_ ?_ | refine vc_side0 ?_
                 | refine vc_loopI 36 (fun (x : Nat × Nat × Nat) => [(0, .ptr 9 []), (3, .d (.int .u64 (x.1 : Int))), (4, .d (.int .i64 ((7 * x.2.1 : Nat) : Int)))]) (fun x => [(9, rd B x.2.2)]) (fun x => 10 - x.2.1) (RdI bs (some (v, e))) (0, 0, k) [] ?_ ?_ ?_ ?_ ?_ (fun x hI => hI.ok fun c hc hi hn hj hb1 hb2 hv hx => ?_)
                 | refine vc_call [] (byte_ok B bs hB x.2.2 hi hl c hc) ?_ | refine vc_nextI (x.1 + c.toNat % 128 * 2 ^ (7 * x.2.1), x.2.1 + 1, x.2.2 + 1) [] ?_ ?_ ?_ ?_ ?_ ?_ | refine vc_weakf [] ?_ ?_ ?_ | refine vc_and ?_ ?_
                 | refine vc_ret [] [] ?_)
          | ((with_reducible first | refine vc_caseD (fun h => ?_) (fun h => ?_) | refine vc_caseN (fun h => ?_) (fun h => ?_)) <;> try (exfalso; omega))
          | ((with_reducible refine vc_case (fun h => ?_) (fun h => ?_)) <;> (try simp at h) <;> try (exfalso; omega))))
  all_goals first
    | rfl
    | exact ⟨hr, by simp, by simp⟩
    | (simp only; omega)
    | exact hx (by omega)
    | (have hw := hv (by omega)
       rw [or_shift hn hj hb1, hw.1]; done)
    | (have hw := hv (by omega)
       rw [hw.2]; done)
    | (rw [or_shift hn hj hb1]; done)
    | (congr 1; rw [wrap64_id (by omega) (by omega)]; simp only; omega)

theorem num_nread (B : List D) (bs : List UInt8) (hB : B = bs.map byteD) (k : Nat) (hr : rdN bs 10 k 0 0 = none) (hl : bs.length < 2 ^ 63) :
    LocalPan Try.prog 47 [.ptr 9 []] [(9, rd B k)] [] fault [(9, .dead)] := by
  refine vc_fnPan mixed Try.func47 rfl rfl [] (vc_chk rfl) ?_
  repeat' (first
      | ((with_reducible refine vc_chk ?_); first | decide +kernel | rfl)
      | (with_reducible refine vc_side0 ?_; rfl)
      | (with_reducible first
           | refine vc_true ?_ | refine vc_true2 ?_ | refine vc_side ?_ ?_ | refine vc_triv | refine vc_later ?_ | refine vc_caseT ?_ | refine vc_caseF ?_ | refine vc_cons ?_ | refine vc_nil ?_ ?_ | refine vc_seq ?_
              | refine vc_region ?_ | refine vc_cond ?_ | refine vc_block ?_ | refine vc_retc ?_ | refine vc_exit ?_ | refine vc_skip ?_ | refine vc_scope ?_ | refine vc_label ?_ | refine vc_goto ?_ | refine vc_wkSl0
              | refine vc_wkHp0 | refine vc_eqAVs0 | refine vc_preG0 | refine vc_wkSl ?_ ?_ | refine vc_wkHp ?_ ?_ | refine vc_eqAVs ?_ ?_ | refine vc_preG ?_ ?_ | refine vc_side0 ?_
              | refine vc_loopI 36 (fun (x : Nat × Nat × Nat) => [(0, .ptr 9 []), (3, .d (.int .u64 (x.1 : Int))), (4, .d (.int .i64 ((7 * x.2.1 : Nat) : Int)))]) (fun x => [(9, rd B x.2.2)]) (fun x => 10 - x.2.1) (RdI bs none) (0, 0, k) [] ?_ ?_ ?_ ?_ ?_ (fun x hI => hI.no (fun hi => ?_) fun c hc hi hn hj hb hx => ?_)
              | refine vc_call [] (byte_ok B bs hB x.2.2 hi hl c hc) ?_ | refine vc_pan [] (byte_pan B bs hB x.2.2 hi) ?_ | refine vc_pan [] (fail_pan B (x.2.2 + 1)) ?_
              | refine vc_nextI (x.1 + c.toNat % 128 * 2 ^ (7 * x.2.1), x.2.1 + 1, x.2.2 + 1) [] ?_ ?_ ?_ ?_ ?_ ?_ | refine vc_panc [] [] ?_ ?_ | refine vc_weakf [] ?_ ?_ ?_ | refine vc_and ?_ ?_ | refine vc_ret [] [] ?_)
      | ((with_reducible first | refine vc_caseD (fun h => ?_) (fun h => ?_) | refine vc_caseN (fun h => ?_) (fun h => ?_)) <;> try (exfalso; omega))
      | ((with_reducible refine vc_case (fun h => ?_) (fun h => ?_)) <;> (try simp at h) <;> try (exfalso; omega))
      | (conv in Vc _ => arg 1; whnf
         first
          | (with_reducible refine vc_side0 ?_; rfl)
          | (with_reducible first
              | refine vc_true ?_ | refine vc_true2 ?_ | refine vc_side ?_ ?_ | refine vc_triv | refine vc_later ?_ | refine vc_caseT ?_ | refine vc_caseF ?_ | refine vc_cons ?_ | refine vc_nil ?_ ?_ | refine vc_seq ?_
                 | refine vc_region ?_ | refine vc_cond ?_ | refine vc_block ?_ | refine vc_retc ?_ | refine vc_exit ?_ | refine vc_skip ?_ | refine vc_scope ?_ | refine vc_label ?_ | refine vc_goto ?_ | refine vc_wkSl0
                 | refine vc_wkHp0 | refine vc_eqAVs0 | refine vc_preG0 | refine vc_wkSl ?_ ?_ | refine vc_wkHp ?_ ?_ | refine vc_eqAVs ?_ ?_ | refine vc_preG ?_ ?_ | refine vc_side0 ?_
                 | refine vc_loopI 36 (fun (x : Nat × Nat × Nat) => [(0, .ptr 9 []), (3, .d (.int .u64 (x.1 : Int))), (4, .d (.int .i64 ((7 * x.2.1 : Nat) : Int)))]) (fun x => [(9, rd B x.2.2)]) (fun x => 10 - x.2.1) (RdI bs none) (0, 0, k) [] ?_ ?_ ?_ ?_ ?_ (fun x hI => hI.no (fun hi => ?_) fun c hc hi hn hj hb hx => ?_)
                 | refine vc_call [] (byte_ok B bs hB x.2.2 hi hl c hc) ?_ | refine vc_pan [] (byte_pan B bs hB x.2.2 hi) ?_ | refine vc_pan [] (fail_pan B (x.2.2 + 1)) ?_
                 | refine vc_nextI (x.1 + c.toNat % 128 * 2 ^ (7 * x.2.1), x.2.1 + 1, x.2.2 + 1) [] ?_ ?_ ?_ ?_ ?_ ?_ | refine vc_panc [] [] ?_ ?_ | refine vc_weakf [] ?_ ?_ ?_ | refine vc_and ?_ ?_ | refine vc_ret [] [] ?_)
          | ((with_reducible first | refine vc_caseD (fun h => ?_) (fun h => ?_) | refine vc_caseN (fun h => ?_) (fun h => ?_)) <;> try (exfalso; omega))
          | ((with_reducible refine vc_case (fun h => ?_) (fun h => ?_)) <;> (try simp at h) <;> try (exfalso; omega))))
  all_goals first
    | rfl
    | exact ⟨hr, by simp, by simp⟩
    | (simp only; omega)
    | exact hx (by omega) (by omega)
    | (rw [or_shift hn hj (by omega)]; done)
    | (congr 1; rw [wrap64_id (by omega) (by omega)]; simp only; omega)

end Go.Proofs.Ytogncghpngmjpaa

/-
The reader's counts, and numbers one behind the other.
-/
set_option linter.unusedSimpArgs false
set_option linter.unusedVariables false
namespace Go.Proofs.Ytogncghpngmjpaa
open Go.Sym
set_option maxRecDepth 10000
set_option maxHeartbeats 1000000

/-- A number that is at most so great. -/
def rdC (bs : List UInt8) (most : Int) (k : Nat) : Option (Nat × Nat) := match rdN bs 10 k 0 0 with
  | some (v, e) => bif decide (0 ≤ most) && decide ((v : Int) ≤ most) then some (v, e) else none
  | none => none

theorem rdC_ok {bs : List UInt8} {most : Int} {k v e : Nat} (h : rdC bs most k = some (v, e)) : rdN bs 10 k 0 0 = some (v, e) ∧ 0 ≤ most ∧ (v : Int) ≤ most := by
  unfold rdC at h
  split at h
  · rename_i v' e' hr
    cases hb : decide (0 ≤ most) && decide ((v' : Int) ≤ most) with
    | true =>
      rw [hb] at h
      cases h
      simp only [Bool.and_eq_true, decide_eq_true_eq] at hb
      exact ⟨hr, hb.1, hb.2⟩
    | false => rw [hb] at h; cases h
  · cases h

theorem rdC_no {bs : List UInt8} {most : Int} {k : Nat} (h : rdC bs most k = none) : rdN bs 10 k 0 0 = none ∨ ∃ v e, rdN bs 10 k 0 0 = some (v, e) ∧ ¬ (0 ≤ most ∧ (v : Int) ≤ most) := by
  unfold rdC at h
  split at h
  · rename_i v' e' hr
    refine .inr ⟨v', e', hr, fun hq => ?_⟩
    simp only [hq.1, hq.2, decide_true, Bool.and_self, cond_true] at h
    cases h
  · exact .inl ‹_›

theorem count_ok (B : List D) (bs : List UInt8) (hB : B = bs.map byteD) (most : Int) (k v e : Nat) (hr : rdC bs most k = some (v, e)) (hm : most < 2 ^ 63) (hl : bs.length < 2 ^ 63) :
    LocalCall Try.prog 54 [.ptr 9 [], .d (.int .i64 most)] [(9, rd B k)] [] (one [.d (.int .i64 (v : Int))]) [(9, rd B e)] := by
  obtain ⟨h1, h2, h3⟩ := rdC_ok hr
  have hw : IntKind.u64.wrap most = most := wrapU64_id (by omega) (by omega)
  have hv : IntKind.i64.wrap (v : Int) = v := wrap64_id (by omega) (by omega)
  refine vc_fn mixed Try.func54 rfl rfl [] (vc_chk rfl) ?_
  repeat' (first
      | ((with_reducible refine vc_chk ?_); first | decide +kernel | rfl)
      | (with_reducible refine vc_side0 ?_; rfl)
      | (with_reducible first
           | refine vc_true ?_ | refine vc_true2 ?_ | refine vc_side ?_ ?_ | refine vc_triv | refine vc_later ?_ | refine vc_caseT ?_ | refine vc_caseF ?_ | refine vc_cons ?_ | refine vc_nil ?_ ?_ | refine vc_seq ?_
              | refine vc_region ?_ | refine vc_cond ?_ | refine vc_block ?_ | refine vc_retc ?_ | refine vc_exit ?_ | refine vc_skip ?_ | refine vc_scope ?_ | refine vc_label ?_ | refine vc_goto ?_ | refine vc_wkSl0
              | refine vc_wkHp0 | refine vc_eqAVs0 | refine vc_preG0 | refine vc_wkSl ?_ ?_ | refine vc_wkHp ?_ ?_ | refine vc_eqAVs ?_ ?_ | refine vc_preG ?_ ?_ | refine vc_side0 ?_
              | refine vc_call [] (num_read B bs hB k v e h1 hl) ?_ | refine vc_weakf [] ?_ ?_ ?_ | refine vc_and ?_ ?_ | refine vc_ret [] [] ?_)
      | ((with_reducible first | refine vc_caseD (fun h => ?_) (fun h => ?_) | refine vc_caseN (fun h => ?_) (fun h => ?_)) <;> try (exfalso; omega))
      | ((with_reducible refine vc_case (fun h => ?_) (fun h => ?_)) <;> (try simp at h) <;> try (exfalso; omega))
      | (conv in Vc _ => arg 1; whnf
         first
          | (with_reducible refine vc_side0 ?_; rfl)
          | (with_reducible first
              | refine vc_true ?_ | refine vc_true2 ?_ | refine vc_side ?_ ?_ | refine vc_triv | refine vc_later ?_ | refine vc_caseT ?_ | refine vc_caseF ?_ | refine vc_cons ?_ | refine vc_nil ?_ ?_ | refine vc_seq ?_
                 | refine vc_region ?_ | refine vc_cond ?_ | refine vc_block ?_ | refine vc_retc ?_ | refine vc_exit ?_ | refine vc_skip ?_ | refine vc_scope ?_ | refine vc_label ?_ | refine vc_goto ?_ | refine vc_wkSl0
                 | refine vc_wkHp0 | refine vc_eqAVs0 | refine vc_preG0 | refine vc_wkSl ?_ ?_ | refine vc_wkHp ?_ ?_ | refine vc_eqAVs ?_ ?_ | refine vc_preG ?_ ?_ | refine vc_side0 ?_
                 | refine vc_call [] (num_read B bs hB k v e h1 hl) ?_ | refine vc_weakf [] ?_ ?_ ?_ | refine vc_and ?_ ?_ | refine vc_ret [] [] ?_)
          | ((with_reducible first | refine vc_caseD (fun h => ?_) (fun h => ?_) | refine vc_caseN (fun h => ?_) (fun h => ?_)) <;> try (exfalso; omega))
          | ((with_reducible refine vc_case (fun h => ?_) (fun h => ?_)) <;> (try simp at h) <;> try (exfalso; omega))))
  all_goals first
    | rfl
    | (rw [hv]; done)

theorem count_pan (B : List D) (bs : List UInt8) (hB : B = bs.map byteD) (most : Int) (k : Nat) (hr : rdC bs most k = none) (hm : -2 ^ 63 ≤ most) (hm2 : most < 2 ^ 63) (hl : bs.length < 2 ^ 63) :
    LocalPan Try.prog 54 [.ptr 9 [], .d (.int .i64 most)] [(9, rd B k)] [] fault [(9, .dead)] := by
  refine vc_fnPan mixed Try.func54 rfl rfl [] (vc_chk rfl) ?_
  have hw : 0 ≤ most → IntKind.u64.wrap most = most := fun h => wrapU64_id h (by omega)
  rcases rdC_no hr with h1 | ⟨v, e, h1, h2⟩
  · skip
    repeat' (first
        | ((with_reducible refine vc_chk ?_); first | decide +kernel | rfl)
        | (with_reducible refine vc_side0 ?_; rfl)
        | (with_reducible first
             | refine vc_true ?_ | refine vc_true2 ?_ | refine vc_side ?_ ?_ | refine vc_triv | refine vc_later ?_ | refine vc_caseT ?_ | refine vc_caseF ?_ | refine vc_cons ?_ | refine vc_nil ?_ ?_ | refine vc_seq ?_
                | refine vc_region ?_ | refine vc_cond ?_ | refine vc_block ?_ | refine vc_retc ?_ | refine vc_exit ?_ | refine vc_skip ?_ | refine vc_scope ?_ | refine vc_label ?_ | refine vc_goto ?_ | refine vc_wkSl0
                | refine vc_wkHp0 | refine vc_eqAVs0 | refine vc_preG0 | refine vc_wkSl ?_ ?_ | refine vc_wkHp ?_ ?_ | refine vc_eqAVs ?_ ?_ | refine vc_preG ?_ ?_ | refine vc_side0 ?_
                | refine vc_pan [] (num_nread B bs hB k h1 hl) ?_ | refine vc_panc [] [] ?_ ?_ | refine vc_weakf [] ?_ ?_ ?_ | refine vc_and ?_ ?_ | refine vc_ret [] [] ?_)
        | ((with_reducible first | refine vc_caseD (fun h => ?_) (fun h => ?_) | refine vc_caseN (fun h => ?_) (fun h => ?_)) <;> try (exfalso; omega))
        | ((with_reducible refine vc_case (fun h => ?_) (fun h => ?_)) <;> (try simp at h) <;> try (exfalso; omega))
        | (conv in Vc _ => arg 1; whnf
           first
            | (with_reducible refine vc_side0 ?_; rfl)
            | (with_reducible first
                | refine vc_true ?_ | refine vc_true2 ?_ | refine vc_side ?_ ?_ | refine vc_triv | refine vc_later ?_ | refine vc_caseT ?_ | refine vc_caseF ?_ | refine vc_cons ?_ | refine vc_nil ?_ ?_ | refine vc_seq ?_
                   | refine vc_region ?_ | refine vc_cond ?_ | refine vc_block ?_ | refine vc_retc ?_ | refine vc_exit ?_ | refine vc_skip ?_ | refine vc_scope ?_ | refine vc_label ?_ | refine vc_goto ?_ | refine vc_wkSl0
                   | refine vc_wkHp0 | refine vc_eqAVs0 | refine vc_preG0 | refine vc_wkSl ?_ ?_ | refine vc_wkHp ?_ ?_ | refine vc_eqAVs ?_ ?_ | refine vc_preG ?_ ?_ | refine vc_side0 ?_
                   | refine vc_pan [] (num_nread B bs hB k h1 hl) ?_ | refine vc_panc [] [] ?_ ?_ | refine vc_weakf [] ?_ ?_ ?_ | refine vc_and ?_ ?_ | refine vc_ret [] [] ?_)
            | ((with_reducible first | refine vc_caseD (fun h => ?_) (fun h => ?_) | refine vc_caseN (fun h => ?_) (fun h => ?_)) <;> try (exfalso; omega))
            | ((with_reducible refine vc_case (fun h => ?_) (fun h => ?_)) <;> (try simp at h) <;> try (exfalso; omega))))
    all_goals rfl
  · skip
    repeat' (first
        | ((with_reducible refine vc_chk ?_); first | decide +kernel | rfl)
        | (with_reducible refine vc_side0 ?_; rfl)
        | (with_reducible first
             | refine vc_true ?_ | refine vc_true2 ?_ | refine vc_side ?_ ?_ | refine vc_triv | refine vc_later ?_ | refine vc_caseT ?_ | refine vc_caseF ?_ | refine vc_cons ?_ | refine vc_nil ?_ ?_ | refine vc_seq ?_
                | refine vc_region ?_ | refine vc_cond ?_ | refine vc_block ?_ | refine vc_retc ?_ | refine vc_exit ?_ | refine vc_skip ?_ | refine vc_scope ?_ | refine vc_label ?_ | refine vc_goto ?_ | refine vc_wkSl0
                | refine vc_wkHp0 | refine vc_eqAVs0 | refine vc_preG0 | refine vc_wkSl ?_ ?_ | refine vc_wkHp ?_ ?_ | refine vc_eqAVs ?_ ?_ | refine vc_preG ?_ ?_ | refine vc_side0 ?_
                | refine vc_call [] (num_read B bs hB k v e h1 hl) ?_ | refine vc_pan [] (fail_pan B e) ?_ | refine vc_panc [] [] ?_ ?_ | refine vc_weakf [] ?_ ?_ ?_ | refine vc_and ?_ ?_ | refine vc_ret [] [] ?_)
        | ((with_reducible first | refine vc_caseD (fun h => ?_) (fun h => ?_) | refine vc_caseN (fun h => ?_) (fun h => ?_)) <;> try (exfalso; omega))
        | ((with_reducible refine vc_case (fun h => ?_) (fun h => ?_)) <;> (try simp at h) <;> try (exfalso; omega))
        | (conv in Vc _ => arg 1; whnf
           first
            | (with_reducible refine vc_side0 ?_; rfl)
            | (with_reducible first
                | refine vc_true ?_ | refine vc_true2 ?_ | refine vc_side ?_ ?_ | refine vc_triv | refine vc_later ?_ | refine vc_caseT ?_ | refine vc_caseF ?_ | refine vc_cons ?_ | refine vc_nil ?_ ?_ | refine vc_seq ?_
                   | refine vc_region ?_ | refine vc_cond ?_ | refine vc_block ?_ | refine vc_retc ?_ | refine vc_exit ?_ | refine vc_skip ?_ | refine vc_scope ?_ | refine vc_label ?_ | refine vc_goto ?_ | refine vc_wkSl0
                   | refine vc_wkHp0 | refine vc_eqAVs0 | refine vc_preG0 | refine vc_wkSl ?_ ?_ | refine vc_wkHp ?_ ?_ | refine vc_eqAVs ?_ ?_ | refine vc_preG ?_ ?_ | refine vc_side0 ?_
                   | refine vc_call [] (num_read B bs hB k v e h1 hl) ?_ | refine vc_pan [] (fail_pan B e) ?_ | refine vc_panc [] [] ?_ ?_ | refine vc_weakf [] ?_ ?_ ?_ | refine vc_and ?_ ?_ | refine vc_ret [] [] ?_)
            | ((with_reducible first | refine vc_caseD (fun h => ?_) (fun h => ?_) | refine vc_caseN (fun h => ?_) (fun h => ?_)) <;> try (exfalso; omega))
            | ((with_reducible refine vc_case (fun h => ?_) (fun h => ?_)) <;> (try simp at h) <;> try (exfalso; omega))))
    all_goals rfl

end Go.Proofs.Ytogncghpngmjpaa

/-
The reader's texts and digests.
-/
set_option linter.unusedSimpArgs false
set_option linter.unusedVariables false
namespace Go.Proofs.Ytogncghpngmjpaa
open Go.Sym
set_option maxRecDepth 10000
set_option maxHeartbeats 1000000

theorem rdN_le (bs : List UInt8) : ∀ (f k n j v e : Nat), rdN bs f k n j = some (v, e) → k < e ∧ e ≤ bs.length
  | 0, k, n, j, v, e, h => by cases h
  | f + 1, k, n, j, v, e, h => by
    rw [rdN] at h
    by_cases hk : k < bs.length
    · simp only [hk, decide_true, cond_true] at h
      cases hb : (decide (j = 9) && decide (1 < (bs.getD k 0).toNat)) || (decide (0 < j) && decide ((bs.getD k 0).toNat = 0)) with
      | true => rw [hb] at h; cases h
      | false =>
        rw [hb] at h
        by_cases hc : (bs.getD k 0).toNat < 128
        · simp only [hc, decide_true, cond_true, cond_false] at h
          cases h; omega
        · simp only [hc, decide_false, cond_false] at h
          have := rdN_le bs f _ _ _ _ _ h
          omega
    · simp only [hk, decide_false, cond_false] at h
      cases h

/-- A text. -/
def rdT (bs : List UInt8) (k : Nat) : Option (List UInt8 × Nat) := match rdC bs 1048576 k with
  | some (n, e) => bif decide (e + n ≤ bs.length) then some ((bs.drop e).take n, e + n) else none
  | none => none

theorem rdT_ok {bs ts : List UInt8} {k m : Nat} (h : rdT bs k = some (ts, m)) : ∃ n e, rdC bs 1048576 k = some (n, e) ∧ e + n ≤ bs.length ∧ ts = (bs.drop e).take n ∧ m = e + n := by
  unfold rdT at h
  split at h
  · rename_i n e hr
    cases hb : decide (e + n ≤ bs.length) with
    | true => rw [hb] at h; cases h; exact ⟨n, e, hr, of_decide_eq_true hb, rfl, rfl⟩
    | false => rw [hb] at h; cases h
  · cases h

theorem rdT_no {bs : List UInt8} {k : Nat} (h : rdT bs k = none) : rdC bs 1048576 k = none ∨ ∃ n e, rdC bs 1048576 k = some (n, e) ∧ ¬ e + n ≤ bs.length := by
  unfold rdT at h
  split at h
  · rename_i n e hr
    refine .inr ⟨n, e, hr, fun hq => ?_⟩
    rw [decide_eq_true hq] at h; cases h
  · exact .inl ‹_›

theorem text_read (B : List D) (bs ts : List UInt8) (hB : B = bs.map byteD) (k m : Nat) (hr : rdT bs k = some (ts, m)) (hl : bs.length < 2 ^ 63) :
    LocalCall Try.prog 46 [.ptr 9 []] [(9, rd B k)] [] (one [.d (.sl (ts.map byteD))]) [(9, rd B m)] := by
  obtain ⟨n, e, hc, hn, rfl, rfl⟩ := rdT_ok hr
  obtain ⟨h1, h2, h3⟩ := rdC_ok hc
  have he := rdN_le bs _ _ _ _ _ _ h1
  have hlen : B.length = bs.length := by rw [hB]; simp
  have w1 : IntKind.i64.wrap ((B.length : Int) - (e : Int)) = (B.length : Int) - e := wrap64_id (by omega) (by omega)
  have w2 : IntKind.i64.wrap ((e : Int) + (n : Int)) = ((e + n : Nat) : Int) := by rw [wrap64_id (by omega) (by omega)]; rfl
  have w3 : IntKind.i64.wrap (((e + n : Nat) : Int) - (n : Int)) = (e : Int) := by rw [wrap64_id (by omega) (by omega)]; omega
  have hcut : cutD B (e : Int) ((e + n : Nat) : Int) = ((bs.drop e).take n).map byteD := by
    unfold cutD
    rw [Int.toNat_natCast, Int.toNat_natCast, hB, List.drop_take, ← List.map_drop, ← List.map_take]
    congr 2; omega
  have hcl : (((bs.drop e).take n).map byteD).length = n := by
    rw [List.length_map, List.length_take, List.length_drop]; omega
  refine vc_fn mixed Try.func46 rfl rfl [] (vc_chk rfl) ?_
  repeat' (first
      | ((with_reducible refine vc_chk ?_); first | decide +kernel | rfl)
      | (with_reducible refine vc_side0 ?_; rfl)
      | (with_reducible first
           | refine vc_true ?_ | refine vc_true2 ?_ | refine vc_side ?_ ?_ | refine vc_triv | refine vc_later ?_ | refine vc_caseT ?_ | refine vc_caseF ?_ | refine vc_cons ?_ | refine vc_nil ?_ ?_ | refine vc_seq ?_
              | refine vc_region ?_ | refine vc_cond ?_ | refine vc_block ?_ | refine vc_retc ?_ | refine vc_exit ?_ | refine vc_skip ?_ | refine vc_scope ?_ | refine vc_label ?_ | refine vc_goto ?_ | refine vc_wkSl0
              | refine vc_wkHp0 | refine vc_eqAVs0 | refine vc_preG0 | refine vc_wkSl ?_ ?_ | refine vc_wkHp ?_ ?_ | refine vc_eqAVs ?_ ?_ | refine vc_preG ?_ ?_ | refine vc_side0 ?_
              | refine vc_call [] (count_ok B bs hB 1048576 k n e hc (by omega) hl) ?_ | refine vc_ret [true] [] ?_ | refine vc_weakf [] ?_ ?_ ?_ | refine vc_and ?_ ?_ | refine vc_ret [] [] ?_)
      | ((with_reducible first | refine vc_caseD (fun h => ?_) (fun h => ?_) | refine vc_caseN (fun h => ?_) (fun h => ?_)) <;> try (exfalso; omega))
      | ((with_reducible refine vc_case (fun h => ?_) (fun h => ?_)) <;> (try simp at h) <;> try (exfalso; omega))
      | (conv in Vc _ => arg 1; whnf
         first
          | (with_reducible refine vc_side0 ?_; rfl)
          | (with_reducible first
              | refine vc_true ?_ | refine vc_true2 ?_ | refine vc_side ?_ ?_ | refine vc_triv | refine vc_later ?_ | refine vc_caseT ?_ | refine vc_caseF ?_ | refine vc_cons ?_ | refine vc_nil ?_ ?_ | refine vc_seq ?_
                 | refine vc_region ?_ | refine vc_cond ?_ | refine vc_block ?_ | refine vc_retc ?_ | refine vc_exit ?_ | refine vc_skip ?_ | refine vc_scope ?_ | refine vc_label ?_ | refine vc_goto ?_ | refine vc_wkSl0
                 | refine vc_wkHp0 | refine vc_eqAVs0 | refine vc_preG0 | refine vc_wkSl ?_ ?_ | refine vc_wkHp ?_ ?_ | refine vc_eqAVs ?_ ?_ | refine vc_preG ?_ ?_ | refine vc_side0 ?_
                 | refine vc_call [] (count_ok B bs hB 1048576 k n e hc (by omega) hl) ?_ | refine vc_ret [true] [] ?_ | refine vc_weakf [] ?_ ?_ ?_ | refine vc_and ?_ ?_ | refine vc_ret [] [] ?_)
          | ((with_reducible first | refine vc_caseD (fun h => ?_) (fun h => ?_) | refine vc_caseN (fun h => ?_) (fun h => ?_)) <;> try (exfalso; omega))
          | ((with_reducible refine vc_case (fun h => ?_) (fun h => ?_)) <;> (try simp at h) <;> try (exfalso; omega))))
  all_goals (try simp only [w2, w3, hcut])
  all_goals first
    | rfl
    | exact ⟨⟨by omega, by omega, by omega⟩, fun y hy => by rw [hB] at hy; obtain ⟨c, _, rfl⟩ := List.mem_map.1 hy; rfl⟩
    | exact ⟨⟨trivial, room_le (b := 1048576) (by unfold Room; omega) rfl (by rw [hcl]; omega)⟩, fun y hy => by obtain ⟨c, _, rfl⟩ := List.mem_map.1 hy; rfl⟩
    | exact ⟨Nat.le_of_eq (Nat.zero_add _), trivial⟩
    | (rw [List.drop_zero, List.take_length]; done)

theorem text_nread (B : List D) (bs : List UInt8) (hB : B = bs.map byteD) (k : Nat) (hr : rdT bs k = none) (hl : bs.length < 2 ^ 63) :
    LocalPan Try.prog 46 [.ptr 9 []] [(9, rd B k)] [] fault [(9, .dead)] := by
  have hlen : B.length = bs.length := by rw [hB]; simp
  refine vc_fnPan mixed Try.func46 rfl rfl [] (vc_chk rfl) ?_
  rcases rdT_no hr with h1 | ⟨n, e, hc, hn⟩
  · skip
    repeat' (first
        | ((with_reducible refine vc_chk ?_); first | decide +kernel | rfl)
        | (with_reducible refine vc_side0 ?_; rfl)
        | (with_reducible first
             | refine vc_true ?_ | refine vc_true2 ?_ | refine vc_side ?_ ?_ | refine vc_triv | refine vc_later ?_ | refine vc_caseT ?_ | refine vc_caseF ?_ | refine vc_cons ?_ | refine vc_nil ?_ ?_ | refine vc_seq ?_
                | refine vc_region ?_ | refine vc_cond ?_ | refine vc_block ?_ | refine vc_retc ?_ | refine vc_exit ?_ | refine vc_skip ?_ | refine vc_scope ?_ | refine vc_label ?_ | refine vc_goto ?_ | refine vc_wkSl0
                | refine vc_wkHp0 | refine vc_eqAVs0 | refine vc_preG0 | refine vc_wkSl ?_ ?_ | refine vc_wkHp ?_ ?_ | refine vc_eqAVs ?_ ?_ | refine vc_preG ?_ ?_ | refine vc_side0 ?_
                | refine vc_pan [] (count_pan B bs hB 1048576 k h1 (by omega) (by omega) hl) ?_ | refine vc_panc [] [] ?_ ?_ | refine vc_weakf [] ?_ ?_ ?_ | refine vc_and ?_ ?_ | refine vc_ret [] [] ?_)
        | ((with_reducible first | refine vc_caseD (fun h => ?_) (fun h => ?_) | refine vc_caseN (fun h => ?_) (fun h => ?_)) <;> try (exfalso; omega))
        | ((with_reducible refine vc_case (fun h => ?_) (fun h => ?_)) <;> (try simp at h) <;> try (exfalso; omega))
        | (conv in Vc _ => arg 1; whnf
           first
            | (with_reducible refine vc_side0 ?_; rfl)
            | (with_reducible first
                | refine vc_true ?_ | refine vc_true2 ?_ | refine vc_side ?_ ?_ | refine vc_triv | refine vc_later ?_ | refine vc_caseT ?_ | refine vc_caseF ?_ | refine vc_cons ?_ | refine vc_nil ?_ ?_ | refine vc_seq ?_
                   | refine vc_region ?_ | refine vc_cond ?_ | refine vc_block ?_ | refine vc_retc ?_ | refine vc_exit ?_ | refine vc_skip ?_ | refine vc_scope ?_ | refine vc_label ?_ | refine vc_goto ?_ | refine vc_wkSl0
                   | refine vc_wkHp0 | refine vc_eqAVs0 | refine vc_preG0 | refine vc_wkSl ?_ ?_ | refine vc_wkHp ?_ ?_ | refine vc_eqAVs ?_ ?_ | refine vc_preG ?_ ?_ | refine vc_side0 ?_
                   | refine vc_pan [] (count_pan B bs hB 1048576 k h1 (by omega) (by omega) hl) ?_ | refine vc_panc [] [] ?_ ?_ | refine vc_weakf [] ?_ ?_ ?_ | refine vc_and ?_ ?_ | refine vc_ret [] [] ?_)
            | ((with_reducible first | refine vc_caseD (fun h => ?_) (fun h => ?_) | refine vc_caseN (fun h => ?_) (fun h => ?_)) <;> try (exfalso; omega))
            | ((with_reducible refine vc_case (fun h => ?_) (fun h => ?_)) <;> (try simp at h) <;> try (exfalso; omega))))
    all_goals rfl
  · obtain ⟨h1, h2, h3⟩ := rdC_ok hc
    have he := rdN_le bs _ _ _ _ _ _ h1
    have w1 : IntKind.i64.wrap ((B.length : Int) - (e : Int)) = (B.length : Int) - e := wrap64_id (by omega) (by omega)
    repeat' (first
        | ((with_reducible refine vc_chk ?_); first | decide +kernel | rfl)
        | (with_reducible refine vc_side0 ?_; rfl)
        | (with_reducible first
             | refine vc_true ?_ | refine vc_true2 ?_ | refine vc_side ?_ ?_ | refine vc_triv | refine vc_later ?_ | refine vc_caseT ?_ | refine vc_caseF ?_ | refine vc_cons ?_ | refine vc_nil ?_ ?_ | refine vc_seq ?_
                | refine vc_region ?_ | refine vc_cond ?_ | refine vc_block ?_ | refine vc_retc ?_ | refine vc_exit ?_ | refine vc_skip ?_ | refine vc_scope ?_ | refine vc_label ?_ | refine vc_goto ?_ | refine vc_wkSl0
                | refine vc_wkHp0 | refine vc_eqAVs0 | refine vc_preG0 | refine vc_wkSl ?_ ?_ | refine vc_wkHp ?_ ?_ | refine vc_eqAVs ?_ ?_ | refine vc_preG ?_ ?_ | refine vc_side0 ?_
                | refine vc_call [] (count_ok B bs hB 1048576 k n e hc (by omega) hl) ?_ | refine vc_pan [] (fail_pan B e) ?_ | refine vc_panc [] [] ?_ ?_ | refine vc_weakf [] ?_ ?_ ?_ | refine vc_and ?_ ?_
                | refine vc_ret [] [] ?_)
        | ((with_reducible first | refine vc_caseD (fun h => ?_) (fun h => ?_) | refine vc_caseN (fun h => ?_) (fun h => ?_)) <;> try (exfalso; omega))
        | ((with_reducible refine vc_case (fun h => ?_) (fun h => ?_)) <;> (try simp at h) <;> try (exfalso; omega))
        | (conv in Vc _ => arg 1; whnf
           first
            | (with_reducible refine vc_side0 ?_; rfl)
            | (with_reducible first
                | refine vc_true ?_ | refine vc_true2 ?_ | refine vc_side ?_ ?_ | refine vc_triv | refine vc_later ?_ | refine vc_caseT ?_ | refine vc_caseF ?_ | refine vc_cons ?_ | refine vc_nil ?_ ?_ | refine vc_seq ?_
                   | refine vc_region ?_ | refine vc_cond ?_ | refine vc_block ?_ | refine vc_retc ?_ | refine vc_exit ?_ | refine vc_skip ?_ | refine vc_scope ?_ | refine vc_label ?_ | refine vc_goto ?_ | refine vc_wkSl0
                   | refine vc_wkHp0 | refine vc_eqAVs0 | refine vc_preG0 | refine vc_wkSl ?_ ?_ | refine vc_wkHp ?_ ?_ | refine vc_eqAVs ?_ ?_ | refine vc_preG ?_ ?_ | refine vc_side0 ?_
                   | refine vc_call [] (count_ok B bs hB 1048576 k n e hc (by omega) hl) ?_ | refine vc_pan [] (fail_pan B e) ?_ | refine vc_panc [] [] ?_ ?_ | refine vc_weakf [] ?_ ?_ ?_ | refine vc_and ?_ ?_
                   | refine vc_ret [] [] ?_)
            | ((with_reducible first | refine vc_caseD (fun h => ?_) (fun h => ?_) | refine vc_caseN (fun h => ?_) (fun h => ?_)) <;> try (exfalso; omega))
            | ((with_reducible refine vc_case (fun h => ?_) (fun h => ?_)) <;> (try simp at h) <;> try (exfalso; omega))))
    all_goals rfl

end Go.Proofs.Ytogncghpngmjpaa

/-
What is written is what is read: numbers and texts; no program in sight.
-/
set_option linter.unusedSimpArgs false
set_option linter.unusedVariables false
namespace Go.Proofs.Ytogncghpngmjpaa
open Go.Sym
set_option maxRecDepth 10000
set_option maxHeartbeats 1000000

def textB (t : List UInt8) : List UInt8 := numB t.length ++ t
/-- Texts one behind the other. -/
def textsB (vs : List (List UInt8)) : List UInt8 := vs.flatMap textB

theorem drop_cons {bs t : List UInt8} {k : Nat} {c : UInt8} (h : bs.drop k = c :: t) : k < bs.length ∧ bs.getD k 0 = c ∧ bs.drop (k + 1) = t := by
  have hk : k < bs.length := by
    rcases Nat.lt_or_ge k bs.length with hk | hk
    · exact hk
    · rw [List.drop_eq_nil_of_le hk] at h; cases h
  rw [List.drop_eq_getElem_cons hk] at h
  simp only [List.cons.injEq] at h
  refine ⟨hk, ?_, h.2⟩
  rw [List.getD_eq_getElem?_getD, List.getElem?_eq_getElem hk]; exact h.1

theorem cons_drop {bs : List UInt8} {k : Nat} (hk : k < bs.length) : bs.drop k = bs.getD k 0 :: bs.drop (k + 1) := by
  rw [List.drop_eq_getElem_cons hk, List.getD_eq_getElem?_getD, List.getElem?_eq_getElem hk]; rfl

theorem ofNat_byte (c : UInt8) : UInt8.ofNat c.toNat = c := by simp

theorem byte_inj {a b : Nat} (ha : a < 256) (hb : b < 256) (h : UInt8.ofNat a = UInt8.ofNat b) : a = b := by
  have := congrArg UInt8.toNat h
  rwa [UInt8.toNat_ofNat_of_lt' ha, UInt8.toNat_ofNat_of_lt' hb] at this

/-- No number's bytes begin another one's. -/
theorem numB_code : ∀ (m n : Nat) (u v : List UInt8), numB m ++ u = numB n ++ v → m = n ∧ u = v := by
  intro m
  induction m using Nat.strongRecOn with
  | ind m ih =>
    intro n u v h
    by_cases hm : m < 128
    · by_cases hn : n < 128
      · rw [numB_small hm, numB_small hn] at h
        simp only [List.cons_append, List.nil_append, List.cons.injEq] at h
        exact ⟨byte_inj (by omega) (by omega) h.1, h.2⟩
      · rw [numB_small hm, numB_big hn] at h
        simp only [List.cons_append, List.nil_append, List.cons.injEq] at h
        have := byte_inj (by omega) (by omega) h.1
        omega
    · by_cases hn : n < 128
      · rw [numB_big hm, numB_small hn] at h
        simp only [List.cons_append, List.nil_append, List.cons.injEq] at h
        have := byte_inj (by omega) (by omega) h.1
        omega
      · rw [numB_big hm, numB_big hn] at h
        simp only [List.cons_append, List.cons.injEq] at h
        have h1 := byte_inj (by omega) (by omega) h.1
        obtain ⟨h2, h3⟩ := ih (m / 128) (by omega) (n / 128) u v h.2
        exact ⟨by omega, h3⟩

theorem pow_step (j : Nat) : 2 ^ (7 * (j + 1)) = 128 * 2 ^ (7 * j) := by
  rw [show 7 * (j + 1) = 7 * j + 7 by omega, Nat.pow_add]; omega

theorem pow_left {j : Nat} (h : j + 1 ≤ 9) : 2 ^ (64 - 7 * j) = 128 * 2 ^ (64 - 7 * (j + 1)) := by
  rw [show 64 - 7 * j = (64 - 7 * (j + 1)) + 7 by omega, Nat.pow_add]; omega

/-- What was read as a number is what it is written as. -/
theorem rdN_num (bs : List UInt8) : ∀ (f j k n v e : Nat), f = 10 - j → j ≤ 9 → rdN bs f k n j = some (v, e) → ∃ m, v = n + m * 2 ^ (7 * j) ∧ m < 2 ^ (64 - 7 * j) ∧ (0 < j → 0 < m) ∧ bs.drop k = numB m ++ bs.drop e
  | 0, j, k, n, v, e, hf, hj, h => by cases h
  | f + 1, j, k, n, v, e, hf, hj, h => by
    rw [rdN] at h
    by_cases hk : k < bs.length
    rotate_left
    · simp only [hk, decide_false, cond_false] at h; cases h
    have hd := cons_drop hk
    generalize hc : bs.getD k 0 = c at h hd
    simp only [hk, decide_true, cond_true] at h
    have hlt := c.toNat_lt
    cases hb : (decide (j = 9) && decide (1 < c.toNat)) || (decide (0 < j) && decide (c.toNat = 0)) with
    | true => rw [hb] at h; cases h
    | false =>
      rw [hb] at h
      simp only [Bool.or_eq_false_iff, Bool.and_eq_false_iff, decide_eq_false_iff_not] at hb
      by_cases h8 : c.toNat < 128
      · simp only [h8, decide_true, cond_true, cond_false, Option.some.injEq, Prod.mk.injEq] at h
        refine ⟨c.toNat, ?_, ?_, fun hj0 => ?_, ?_⟩
        · rw [← h.1, Nat.mod_eq_of_lt h8]
        · rcases Nat.lt_or_ge j 9 with h9 | h9
          · have : 2 ^ 8 ≤ 2 ^ (64 - 7 * j) := Nat.pow_le_pow_right (by omega) (by omega)
            omega
          · obtain rfl : j = 9 := by omega
            have : c.toNat ≤ 1 := by omega
            omega
        · omega
        · rw [numB_small h8, ofNat_byte, ← h.2, hd]; rfl
      · simp only [h8, decide_false, cond_false] at h
        have hj8 : j + 1 ≤ 9 := by
          rcases Nat.lt_or_ge j 9 with h9 | h9
          · omega
          · exfalso
            have : j = 9 := by omega
            omega
        obtain ⟨m, h1, h2, h3, h4⟩ := rdN_num bs f (j + 1) (k + 1) _ v e (by omega) hj8 h
        have hm := h3 (by omega)
        refine ⟨c.toNat % 128 + 128 * m, ?_, ?_, fun _ => by omega, ?_⟩
        · rw [h1, pow_step, Nat.add_mul]
          have : m * (128 * 2 ^ (7 * j)) = 128 * m * 2 ^ (7 * j) := by rw [← Nat.mul_assoc, Nat.mul_comm m 128]
          omega
        · rw [pow_left hj8]; omega
        · rw [numB_big (by omega), show (c.toNat % 128 + 128 * m) / 128 = m by omega, hd, h4, show (c.toNat % 128 + 128 * m) % 128 + 128 = c.toNat by omega, ofNat_byte]
          rfl

/-- What is written as a number is read as it. -/
theorem num_rdN (bs : List UInt8) : ∀ (f j k n m : Nat) (rest : List UInt8), f = 10 - j → j ≤ 9 → m < 2 ^ (64 - 7 * j) → (0 < j → 0 < m) → bs.drop k = numB m ++ rest → rdN bs f k n j = some (n + m * 2 ^ (7 * j), k + (numB m).length) ∧ bs.drop (k + (numB m).length) = rest
  | 0, j, k, n, m, rest, hf, hj, hm, h0, h => by omega
  | f + 1, j, k, n, m, rest, hf, hj, hm, h0, h => by
    by_cases h8 : m < 128
    · rw [numB_small h8] at h ⊢
      obtain ⟨hk, hc, hd⟩ := drop_cons h
      refine ⟨?_, hd⟩
      rw [rdN, hc]
      have hcn : (UInt8.ofNat m).toNat = m := UInt8.toNat_ofNat_of_lt' (show m < 256 by omega)
      rw [hcn]
      have hb : ((decide (j = 9) && decide (1 < m)) || (decide (0 < j) && decide (m = 0))) = false := by
        simp only [Bool.or_eq_false_iff, Bool.and_eq_false_iff, decide_eq_false_iff_not]
        refine ⟨?_, ?_⟩
        · by_cases h9 : j = 9
          · subst h9; right; omega
          · exact .inl h9
        · by_cases hj0 : 0 < j
          · have := h0 hj0; right; omega
          · exact .inl hj0
      simp only [hk, hb, h8, decide_true, cond_true, cond_false, Nat.mod_eq_of_lt h8, List.length_singleton]
    · rw [numB_big h8] at h ⊢
      have hj8 : j + 1 ≤ 9 := by
        rcases Nat.lt_or_ge j 9 with h9 | h9
        · omega
        · exfalso
          obtain rfl : j = 9 := by omega
          omega
      obtain ⟨hk, hc, hd⟩ := drop_cons h
      have hcn : (UInt8.ofNat (m % 128 + 128)).toNat = m % 128 + 128 := UInt8.toNat_ofNat_of_lt' (show m % 128 + 128 < 256 by omega)
      have hb : ((decide (j = 9) && decide (1 < m % 128 + 128)) || (decide (0 < j) && decide (m % 128 + 128 = 0))) = false := by
        simp only [Bool.or_eq_false_iff, Bool.and_eq_false_iff, decide_eq_false_iff_not]
        exact ⟨.inl (by omega), .inr (by omega)⟩
      have hn8 : ¬ m % 128 + 128 < 128 := by omega
      rw [pow_left hj8] at hm
      obtain ⟨k1, k2⟩ := num_rdN bs f (j + 1) (k + 1) (n + (m % 128 + 128) % 128 * 2 ^ (7 * j)) (m / 128) rest (by omega) hj8 (by omega) (fun _ => by omega) hd
      refine ⟨?_, ?_⟩
      · rw [rdN, hc, hcn]
        simp only [hk, hb, hn8, decide_true, decide_false, cond_true, cond_false]
        rw [k1]
        simp only [List.length_cons, Option.some.injEq, Prod.mk.injEq]
        refine ⟨?_, by omega⟩
        rw [pow_step, ← Nat.mul_assoc, Nat.mul_comm (m / 128) 128, Nat.add_assoc, ← Nat.add_mul]
        congr 2
        omega
      · rw [List.length_cons, show k + ((numB (m / 128)).length + 1) = k + 1 + (numB (m / 128)).length by omega]; exact k2

theorem rdN_iff {bs : List UInt8} {k v e : Nat} (h : rdN bs 10 k 0 0 = some (v, e)) : v < 2 ^ 64 ∧ bs.drop k = numB v ++ bs.drop e := by
  obtain ⟨m, h1, h2, _, h4⟩ := rdN_num bs 10 0 k 0 v e rfl (by omega) h
  have hv : v = m := by simpa using h1
  subst hv
  exact ⟨by simpa using h2, h4⟩

theorem iff_rdN {bs rest : List UInt8} {k v : Nat} (hv : v < 2 ^ 64) (h : bs.drop k = numB v ++ rest) : rdN bs 10 k 0 0 = some (v, k + (numB v).length) ∧ bs.drop (k + (numB v).length) = rest := by
  have := num_rdN bs 10 0 k 0 v rest rfl (by omega) (by simpa using hv) (by omega) h
  simpa using this

theorem iff_rdC {bs rest : List UInt8} {k v : Nat} {most : Int} (hv : v < 2 ^ 64) (h0 : 0 ≤ most) (hm : (v : Int) ≤ most) (h : bs.drop k = numB v ++ rest) : rdC bs most k = some (v, k + (numB v).length) ∧ bs.drop (k + (numB v).length) = rest := by
  obtain ⟨h1, h2⟩ := iff_rdN hv h
  refine ⟨?_, h2⟩
  unfold rdC
  rw [h1]
  simp [h0, hm]

theorem rdT_iff {bs ts : List UInt8} {k m : Nat} (h : rdT bs k = some (ts, m)) : ts.length ≤ 1048576 ∧ bs.drop k = textB ts ++ bs.drop m := by
  obtain ⟨n, e, h1, h2, rfl, rfl⟩ := rdT_ok h
  obtain ⟨h3, _, h5⟩ := rdC_ok h1
  obtain ⟨h6, h7⟩ := rdN_iff h3
  have hl : ((bs.drop e).take n).length = n := by rw [List.length_take, List.length_drop]; omega
  refine ⟨by rw [hl]; omega, ?_⟩
  unfold textB
  rw [hl, h7, List.append_assoc, ← List.drop_drop, List.take_append_drop]

theorem iff_rdT {bs ts rest : List UInt8} {k : Nat} (hl : ts.length ≤ 1048576) (h : bs.drop k = textB ts ++ rest) : rdT bs k = some (ts, k + (textB ts).length) ∧ bs.drop (k + (textB ts).length) = rest := by
  unfold textB at h ⊢
  rw [List.append_assoc] at h
  obtain ⟨h1, h2⟩ := iff_rdC (most := 1048576) (by omega) (by omega) (by omega) h
  have hd : bs.drop (k + (numB ts.length).length + ts.length) = rest := by
    rw [← List.drop_drop, h2]; simp
  have hlen := congrArg List.length h2
  rw [List.length_drop, List.length_append] at hlen
  have hk : k + (numB ts.length).length ≤ bs.length ∨ ts = [] := by
    rcases Nat.lt_or_ge bs.length (k + (numB ts.length).length) with hh | hh
    · right
      have : ts.length = 0 := by omega
      exact List.eq_nil_of_length_eq_zero this
    · exact .inl hh
  have hk2 := congrArg List.length h
  rw [List.length_drop, List.length_append, List.length_append] at hk2
  have hp := numB_pos ts.length
  refine ⟨?_, by rw [List.length_append, ← Nat.add_assoc]; exact hd⟩
  unfold rdT
  rw [h1]
  simp only
  rw [decide_eq_true (show k + (numB ts.length).length + ts.length ≤ bs.length by omega), cond_true, h2]
  simp only [List.take_left', List.length_append, Nat.add_assoc]

theorem textB_code {s t u v : List UInt8} (h : textB s ++ u = textB t ++ v) : s = t ∧ u = v := by
  unfold textB at h
  rw [List.append_assoc, List.append_assoc] at h
  obtain ⟨h1, h2⟩ := numB_code _ _ _ _ h
  exact List.append_inj h2 h1

end Go.Proofs.Ytogncghpngmjpaa

/-
The reference's reader: numbers.
-/
set_option linter.unusedSimpArgs false
set_option linter.unusedVariables false
namespace Go.Proofs.Ytogncghpngmjpaa
open Go.Sym
set_option maxRecDepth 10000
set_option maxHeartbeats 1000000

/-- The reference's reader: bytes, how many were read, whether they are none. -/
def rIn (B : List D) (k : Nat) (b : Bool) : AObj := .var (.d (.st [.sl B, .int .i64 (k : Int), .bool b]))

/-- A number, as the reference reads it: what it is, where it ends, whether it is none. -/
def inN (bs : List UInt8) : Nat → Nat → Nat → Nat → Nat × Nat × Bool
  | 0, k, _, _ => (0, k, true)
  | f + 1, k, n, j => bif decide (k < bs.length) then
      bif (decide (j = 9) && decide (1 < (bs.getD k 0).toNat)) || (decide (0 < j) && decide ((bs.getD k 0).toNat = 0)) then (0, k + 1, true)
      else bif decide ((bs.getD k 0).toNat < 128) then (n + (bs.getD k 0).toNat % 128 * 2 ^ (7 * j), k + 1, false)
      else inN bs f (k + 1) (n + (bs.getD k 0).toNat % 128 * 2 ^ (7 * j)) (j + 1)
    else (0, k, true)

def optN (r : Nat × Nat × Bool) : Option (Nat × Nat) := bif r.2.2 then none else some (r.1, r.2.1)

theorem inN_rdN (bs : List UInt8) : ∀ f k n j, rdN bs f k n j = optN (inN bs f k n j)
  | 0, _, _, _ => rfl
  | f + 1, k, n, j => by
    rw [rdN, inN]
    cases decide (k < bs.length) with
    | false => rfl
    | true =>
      simp only [cond_true]
      cases (decide (j = 9) && decide (1 < (bs.getD k 0).toNat)) || (decide (0 < j) && decide ((bs.getD k 0).toNat = 0)) with
      | true => rfl
      | false =>
        simp only [cond_false]
        cases decide ((bs.getD k 0).toNat < 128) with
        | true => rfl
        | false => exact inN_rdN bs f _ _ _

theorem inN_le (bs : List UInt8) : ∀ f k n j, k ≤ bs.length → (inN bs f k n j).2.1 ≤ bs.length
  | 0, _, _, _, h => h
  | f + 1, k, n, j, h => by
    rw [inN]
    by_cases hk : k < bs.length
    · simp only [hk, decide_true, cond_true]
      cases (decide (j = 9) && decide (1 < (bs.getD k 0).toNat)) || (decide (0 < j) && decide ((bs.getD k 0).toNat = 0)) with
      | true => exact hk
      | false =>
        simp only [cond_false]
        cases decide ((bs.getD k 0).toNat < 128) with
        | true => exact hk
        | false => exact inN_le bs f _ _ _ hk
    · simp only [hk, decide_false, cond_false]; exact h

structure InI (bs : List UInt8) (R : Nat × Nat × Bool) (x : Nat × Nat × Nat) : Prop where
  h : inN bs (10 - x.2.1) x.2.2 x.1 x.2.1 = R
  lt : x.1 < 2 ^ (7 * x.2.1)
  le : x.2.1 ≤ 10
  hk : x.2.2 ≤ bs.length

theorem InI.go {bs : List UInt8} {R : Nat × Nat × Bool} {x : Nat × Nat × Nat} (hI : InI bs R x) {q : Prop} (h10 : x.2.1 = 10 → R = (0, x.2.2, true) → Vc q) (h0 : x.2.1 ≤ 9 → ¬ x.2.2 < bs.length → R = (0, x.2.2, true) → Vc q)
    (h : ∀ c : UInt8, bs.getD x.2.2 0 = c → x.2.2 < bs.length → x.1 < 2 ^ (7 * x.2.1) → x.2.1 ≤ 9 → ((x.2.1 = 9 ∧ 1 < c.toNat) ∨ (0 < x.2.1 ∧ c.toNat = 0) → R = (0, x.2.2 + 1, true)) →
      (¬ (x.2.1 = 9 ∧ 1 < c.toNat) → ¬ (0 < x.2.1 ∧ c.toNat = 0) → c.toNat < 128 → R = (x.1 + c.toNat % 128 * 2 ^ (7 * x.2.1), x.2.2 + 1, false)) →
      (¬ (x.2.1 = 9 ∧ 1 < c.toNat) → ¬ (0 < x.2.1 ∧ c.toNat = 0) → ¬ c.toNat < 128 → InI bs R (x.1 + c.toNat % 128 * 2 ^ (7 * x.2.1), x.2.1 + 1, x.2.2 + 1)) → Vc q) : Vc q := by
  obtain ⟨n, j, k⟩ := x
  obtain ⟨e, lt, le, hk⟩ := hI
  simp only at e lt le hk h10 h0 h ⊢
  rcases Nat.lt_or_ge j 10 with hj | hj
  rotate_left
  · obtain rfl : j = 10 := by omega
    exact h10 rfl e.symm
  obtain ⟨f, hf⟩ : ∃ f, 10 - j = f + 1 := ⟨9 - j, by omega⟩
  rw [hf, inN] at e
  by_cases hi : k < bs.length
  rotate_left
  · simp only [hi, decide_false, cond_false] at e
    exact h0 (by omega) hi e.symm
  simp only [hi, decide_true, cond_true] at e
  refine h _ rfl hi lt (by omega) (fun hb => ?_) (fun h1 h2 h3 => ?_) (fun h1 h2 h3 => ?_)
  · have hb' : ((decide (j = 9) && decide (1 < (bs.getD k 0).toNat)) || (decide (0 < j) && decide ((bs.getD k 0).toNat = 0))) = true := by
      simpa only [Bool.or_eq_true, Bool.and_eq_true, decide_eq_true_eq] using hb
    rw [hb'] at e
    exact e.symm
  · have hb' : ((decide (j = 9) && decide (1 < (bs.getD k 0).toNat)) || (decide (0 < j) && decide ((bs.getD k 0).toNat = 0))) = false := by
      rw [Bool.eq_false_iff]
      simp only [ne_eq, Bool.or_eq_true, Bool.and_eq_true, decide_eq_true_eq]
      omega
    rw [hb'] at e
    simp only [h3, decide_true, cond_true, cond_false] at e
    exact e.symm
  · have hb' : ((decide (j = 9) && decide (1 < (bs.getD k 0).toNat)) || (decide (0 < j) && decide ((bs.getD k 0).toNat = 0))) = false := by
      rw [Bool.eq_false_iff]
      simp only [ne_eq, Bool.or_eq_true, Bool.and_eq_true, decide_eq_true_eq]
      omega
    rw [hb'] at e
    simp only [h3, decide_false, cond_false] at e
    have hd : (bs.getD k 0).toNat % 128 < 128 := Nat.mod_lt _ (by omega)
    refine ⟨by simp only; rw [show 10 - (j + 1) = f by omega]; exact e, ?_, by simp only; omega, by simp only; omega⟩
    simp only
    rw [show 7 * (j + 1) = 7 * j + 7 by omega, Nat.pow_add]
    have : (bs.getD k 0).toNat % 128 * 2 ^ (7 * j) ≤ 127 * 2 ^ (7 * j) := Nat.mul_le_mul_right _ (by omega)
    omega

theorem add_shift {n j : Nat} {c : UInt8} (hn : n < 2 ^ (7 * j)) (hj : j ≤ 9) (h1 : ¬ (j = 9 ∧ 1 < c.toNat)) :
    IntKind.u64.wrap ((n : Int) + shlI .u64 (IntKind.u64.wrap ((c.toNat : Int).tmod 128)) (IntKind.u64.wrap (IntKind.i64.wrap (7 * (j : Int))))) = ((n + c.toNat % 128 * 2 ^ (7 * j) : Nat) : Int) := by
  have hd : c.toNat % 128 < 128 := Nat.mod_lt _ (by omega)
  have hp : 2 ^ (7 * j) ≤ 2 ^ 63 := Nat.pow_le_pow_right (by omega) (by omega)
  have hbig : n + c.toNat % 128 * 2 ^ (7 * j) < 2 ^ 64 := by
    rcases Nat.lt_or_ge j 9 with h9 | h9
    · have h56 : 2 ^ (7 * j) ≤ 2 ^ 56 := Nat.pow_le_pow_right (by omega) (by omega)
      have : c.toNat % 128 * 2 ^ (7 * j) ≤ 127 * 2 ^ 56 := Nat.mul_le_mul (by omega) h56
      omega
    · obtain rfl : j = 9 := by omega
      have : c.toNat ≤ 1 := by omega
      have : c.toNat % 128 ≤ 1 := by omega
      have : c.toNat % 128 * 2 ^ (7 * 9) ≤ 1 * 2 ^ 63 := Nat.mul_le_mul this (Nat.le_refl _)
      omega
  have e1 : (c.toNat : Int).tmod 128 = ((c.toNat % 128 : Nat) : Int) := by
    rw [Int.tmod_eq_emod_of_nonneg (by omega)]; omega
  have e2 : IntKind.u64.wrap (IntKind.i64.wrap (7 * (j : Int))) = ((7 * j : Nat) : Int) := by
    rw [wrap64_id (by omega) (by omega), wrapU64_id (by omega) (by omega)]; omega
  have hs : shlI .u64 (IntKind.u64.wrap ((c.toNat : Int).tmod 128)) (IntKind.u64.wrap (IntKind.i64.wrap (7 * (j : Int)))) = ((c.toNat % 128 * 2 ^ (7 * j) : Nat) : Int) := by
    rw [e1, e2, wrapU64_id (by omega) (by omega)]
    have hm : min ((7 * j : Nat) : Int).toNat IntKind.u64.bits = 7 * j := by
      show min (7 * j) 64 = _
      omega
    unfold shlI
    rw [hm]
    have : ((c.toNat % 128 : Nat) : Int) * 2 ^ (7 * j) = ((c.toNat % 128 * 2 ^ (7 * j) : Nat) : Int) := by
      rw [Int.natCast_mul, Int.natCast_pow]; rfl
    rw [this, wrapU64_id (by omega) (by omega)]
  rw [hs, wrapU64_id (by omega) (by omega)]
  omega

theorem wrapU64_nn (n : Int) : 0 ≤ IntKind.u64.wrap n := by
  have e : IntKind.u64.wrap n = n % 18446744073709551616 := by simp [IntKind.wrap, IntKind.signed, IntKind.bits]
  rw [e]; omega

theorem inNum_bad (B : List D) (k : Nat) :
    LocalCall Try.prog 50 [.ptr 9 []] [(9, rIn B k true)] [] (one [.d (.int .u64 0)]) [(9, rIn B k true)] := by
  refine vc_fn mixed Try.func50 rfl rfl [] (vc_chk rfl) ?_
  repeat' (first
      | ((with_reducible refine vc_chk ?_); first | decide +kernel | rfl)
      | (with_reducible refine vc_side0 ?_; rfl)
      | (with_reducible first
           | refine vc_true ?_ | refine vc_true2 ?_ | refine vc_side ?_ ?_ | refine vc_triv | refine vc_later ?_ | refine vc_caseT ?_ | refine vc_caseF ?_ | refine vc_cons ?_ | refine vc_nil ?_ ?_ | refine vc_seq ?_
              | refine vc_region ?_ | refine vc_cond ?_ | refine vc_block ?_ | refine vc_retc ?_ | refine vc_exit ?_ | refine vc_skip ?_ | refine vc_scope ?_ | refine vc_label ?_ | refine vc_goto ?_ | refine vc_wkSl0
              | refine vc_wkHp0 | refine vc_eqAVs0 | refine vc_preG0 | refine vc_wkSl ?_ ?_ | refine vc_wkHp ?_ ?_ | refine vc_eqAVs ?_ ?_ | refine vc_preG ?_ ?_ | refine vc_side0 ?_
              | refine vc_loopI 79 (fun (_ : Unit) => [(0, .ptr 9 []), (3, .d (.int .u64 0)), (4, .d (.int .i64 0))]) (fun _ => [(9, rIn B k true)]) (fun _ => 0) (fun _ => True) () [] ?_ ?_ ?_ ?_ ?_ (fun x hI => ?_)
              | refine vc_weakf [] ?_ ?_ ?_ | refine vc_and ?_ ?_ | refine vc_ret [] [] ?_)
      | ((with_reducible first | refine vc_caseD (fun h => ?_) (fun h => ?_) | refine vc_caseN (fun h => ?_) (fun h => ?_)) <;> try (exfalso; omega))
      | ((with_reducible refine vc_case (fun h => ?_) (fun h => ?_)) <;> (try simp at h) <;> try (exfalso; omega))
      | (conv in Vc _ => arg 1; whnf
         first
          | (with_reducible refine vc_side0 ?_; rfl)
          | (with_reducible first
              | refine vc_true ?_ | refine vc_true2 ?_ | refine vc_side ?_ ?_ | refine vc_triv | refine vc_later ?_ | refine vc_caseT ?_ | refine vc_caseF ?_ | refine vc_cons ?_ | refine vc_nil ?_ ?_ | refine vc_seq ?_
                 | refine vc_region ?_ | refine vc_cond ?_ | refine vc_block ?_ | refine vc_retc ?_ | refine vc_exit ?_ | refine vc_skip ?_ | refine vc_scope ?_ | refine vc_label ?_ | refine vc_goto ?_ | refine vc_wkSl0
                 | refine vc_wkHp0 | refine vc_eqAVs0 | refine vc_preG0 | refine vc_wkSl ?_ ?_ | refine vc_wkHp ?_ ?_ | refine vc_eqAVs ?_ ?_ | refine vc_preG ?_ ?_ | refine vc_side0 ?_
                 | refine vc_loopI 79 (fun (_ : Unit) => [(0, .ptr 9 []), (3, .d (.int .u64 0)), (4, .d (.int .i64 0))]) (fun _ => [(9, rIn B k true)]) (fun _ => 0) (fun _ => True) () [] ?_ ?_ ?_ ?_ ?_ (fun x hI => ?_)
                 | refine vc_weakf [] ?_ ?_ ?_ | refine vc_and ?_ ?_ | refine vc_ret [] [] ?_)
          | ((with_reducible first | refine vc_caseD (fun h => ?_) (fun h => ?_) | refine vc_caseN (fun h => ?_) (fun h => ?_)) <;> try (exfalso; omega))
          | ((with_reducible refine vc_case (fun h => ?_) (fun h => ?_)) <;> (try simp at h) <;> try (exfalso; omega))))
  all_goals first
    | rfl
    | trivial

theorem inNum_ok (B : List D) (bs : List UInt8) (hB : B = bs.map byteD) (k : Nat) (hk : k ≤ bs.length) (hl : bs.length < 2 ^ 63) (R : Nat × Nat × Bool) (hR : inN bs 10 k 0 0 = R) :
    LocalCall Try.prog 50 [.ptr 9 []] [(9, rIn B k false)] [] (one [.d (.int .u64 (R.1 : Int))]) [(9, rIn B R.2.1 R.2.2)] := by
  have hlen : B.length = bs.length := by rw [hB]; simp
  have hget : ∀ i (c : UInt8), i < bs.length → bs.getD i 0 = c → B[i]?.getD .nilp = .int .u8 (c.toNat : Int) ∧ B.getD i .nilp = .int .u8 (c.toNat : Int) := fun i c hi hc => by
    have : B.getD i .nilp = .int .u8 (c.toNat : Int) := by rw [hB, getD_byte hi, hc]; rfl
    exact ⟨by rw [← List.getD_eq_getElem?_getD]; exact this, this⟩
  refine vc_fn mixed Try.func50 rfl rfl [] (vc_chk rfl) ?_
  repeat' (first
      | ((with_reducible refine vc_chk ?_); first | decide +kernel | rfl)
      | (with_reducible refine vc_side0 ?_; rfl)
      | (with_reducible first
           | refine vc_true ?_ | refine vc_true2 ?_ | refine vc_side ?_ ?_ | refine vc_triv | refine vc_later ?_ | refine vc_caseT ?_ | refine vc_caseF ?_ | refine vc_cons ?_ | refine vc_nil ?_ ?_ | refine vc_seq ?_
              | refine vc_region ?_ | refine vc_cond ?_ | refine vc_block ?_ | refine vc_retc ?_ | refine vc_exit ?_ | refine vc_skip ?_ | refine vc_scope ?_ | refine vc_label ?_ | refine vc_goto ?_ | refine vc_wkSl0
              | refine vc_wkHp0 | refine vc_eqAVs0 | refine vc_preG0 | refine vc_wkSl ?_ ?_ | refine vc_wkHp ?_ ?_ | refine vc_eqAVs ?_ ?_ | refine vc_preG ?_ ?_ | refine vc_side0 ?_
              | refine vc_loopI 79 (fun (x : Nat × Nat × Nat) => [(0, .ptr 9 []), (3, .d (.int .u64 (x.1 : Int))), (4, .d (.int .i64 (x.2.1 : Int)))]) (fun x => [(9, rIn B x.2.2 false)]) (fun x => 10 - x.2.1) (InI bs R) (0, 0, k) [] ?_ ?_ ?_ ?_ ?_ (fun x hI => hI.go (fun hj e => ?_) (fun hj hi e => ?_) (fun c hc hi hn hj hb he hx => ?_))
              | refine vc_nextI (x.1 + c.toNat % 128 * 2 ^ (7 * x.2.1), x.2.1 + 1, x.2.2 + 1) [] ?_ ?_ ?_ ?_ ?_ ?_ | refine vc_weakf [] ?_ ?_ ?_ | refine vc_and ?_ ?_ | refine vc_ret [] [] ?_)
      | ((with_reducible first | refine vc_caseD (fun h => ?_) (fun h => ?_) | refine vc_caseN (fun h => ?_) (fun h => ?_)) <;> try (exfalso; omega))
      | ((with_reducible refine vc_case (fun h => ?_) (fun h => ?_)) <;> (try simp at h) <;> try (exfalso; omega))
      | (conv in Vc _ => arg 1; whnf
         first
          | (with_reducible refine vc_side0 ?_; rfl)
          | (with_reducible first
              | refine vc_true ?_ | refine vc_true2 ?_ | refine vc_side ?_ ?_ | refine vc_triv | refine vc_later ?_ | refine vc_caseT ?_ | refine vc_caseF ?_ | refine vc_cons ?_ | refine vc_nil ?_ ?_ | refine vc_seq ?_
                 | refine vc_region ?_ | refine vc_cond ?_ | refine vc_block ?_ | refine vc_retc ?_ | refine vc_exit ?_ | refine vc_skip ?_ | refine vc_scope ?_ | refine vc_label ?_ | refine vc_goto ?_ | refine vc_wkSl0
                 | refine vc_wkHp0 | refine vc_eqAVs0 | refine vc_preG0 | refine vc_wkSl ?_ ?_ | refine vc_wkHp ?_ ?_ | refine vc_eqAVs ?_ ?_ | refine vc_preG ?_ ?_ | refine vc_side0 ?_
                 | refine vc_loopI 79 (fun (x : Nat × Nat × Nat) => [(0, .ptr 9 []), (3, .d (.int .u64 (x.1 : Int))), (4, .d (.int .i64 (x.2.1 : Int)))]) (fun x => [(9, rIn B x.2.2 false)]) (fun x => 10 - x.2.1) (InI bs R) (0, 0, k) [] ?_ ?_ ?_ ?_ ?_ (fun x hI => hI.go (fun hj e => ?_) (fun hj hi e => ?_) (fun c hc hi hn hj hb he hx => ?_))
                 | refine vc_nextI (x.1 + c.toNat % 128 * 2 ^ (7 * x.2.1), x.2.1 + 1, x.2.2 + 1) [] ?_ ?_ ?_ ?_ ?_ ?_ | refine vc_weakf [] ?_ ?_ ?_ | refine vc_and ?_ ?_ | refine vc_ret [] [] ?_)
          | ((with_reducible first | refine vc_caseD (fun h => ?_) (fun h => ?_) | refine vc_caseN (fun h => ?_) (fun h => ?_)) <;> try (exfalso; omega))
          | ((with_reducible refine vc_case (fun h => ?_) (fun h => ?_)) <;> (try simp at h) <;> try (exfalso; omega))))
  all_goals first
    | rfl
    | exact ⟨hR, by simp, by simp, hk⟩
    | (rw [e]; done)
    | (rw [e]; rfl)
    | (simp only; omega)
    | (congr 1; rw [wrap64_id (by omega) (by omega)]; simp only; omega)
    | skip
  all_goals
    obtain ⟨v1, v2⟩ := hget _ c hi hc
    have w1 : IntKind.i64.wrap ((x.2.2 : Int) + 1) = ((x.2.2 + 1 : Nat) : Int) := by rw [wrap64_id (by omega) (by omega)]; rfl
    simp only [v1, v2, w1, D.toInt, Int.toNat_natCast] at *
  all_goals first
    | rfl
    | (exfalso; omega)
    | (rw [hb (by omega)]; done)
    | (rw [hb (by omega)]; rfl)
    | exact hx (by omega) (by omega) (by omega)
    | (rw [add_shift hn hj (by omega)]; done)
    | (rw [he (by omega) (by omega) (by omega)]; done)
    | (rw [he (by omega) (by omega) (by omega), add_shift hn hj (by omega)]; done)
    | omega
    | exact wrapU64_nn _
    | exact ⟨⟨by omega, by omega⟩, rfl⟩

end Go.Proofs.Ytogncghpngmjpaa

/-
The reference's reader: counts, pieces, texts, digests; whether it is done.
-/
set_option linter.unusedSimpArgs false
set_option linter.unusedVariables false
namespace Go.Proofs.Ytogncghpngmjpaa
open Go.Sym
set_option maxRecDepth 10000
set_option maxHeartbeats 1000000

def inC (bs : List UInt8) (most k : Nat) : Nat × Nat × Bool := let r := inN bs 10 k 0 0; bif r.2.2 || decide (most < r.1) then (0, r.2.1, true) else (r.1, r.2.1, false)

theorem inC_rdC (bs : List UInt8) (most k : Nat) : rdC bs (most : Int) k = optN (inC bs most k) := by
  unfold rdC inC
  rw [inN_rdN]
  rcases inN bs 10 k 0 0 with ⟨v, e, b⟩
  cases b with
  | true => rfl
  | false =>
    simp only [optN, cond_false, Bool.false_or]
    by_cases h : most < v
    · have : ¬ ((v : Int) ≤ most) := by omega
      simp [h, this]
    · have : ((v : Int) ≤ most) := by omega
      simp [h, this]

theorem inC_le (bs : List UInt8) (most k : Nat) (h : k ≤ bs.length) : (inC bs most k).2.1 ≤ bs.length := by
  have := inN_le bs 10 k 0 0 h
  unfold inC
  simp only
  cases (inN bs 10 k 0 0).2.2 || decide (most < (inN bs 10 k 0 0).1) <;> exact this

theorem inC_most (bs : List UInt8) (most k : Nat) : (inC bs most k).1 ≤ most := by
  unfold inC
  simp only
  cases h : (inN bs 10 k 0 0).2.2 || decide (most < (inN bs 10 k 0 0).1) with
  | true => exact Nat.zero_le _
  | false =>
    simp only [Bool.or_eq_false_iff, decide_eq_false_iff_not] at h
    simp only [cond_false]
    omega

theorem inCnt_bad (B : List D) (k : Nat) (most : Int) :
    LocalCall Try.prog 56 [.ptr 9 [], .d (.int .i64 most)] [(9, rIn B k true)] [] (one [.d (.int .i64 0)]) [(9, rIn B k true)] := by
  refine vc_fn mixed Try.func56 rfl rfl [] (vc_chk rfl) ?_
  repeat' (first
      | ((with_reducible refine vc_chk ?_); first | decide +kernel | rfl)
      | (with_reducible refine vc_side0 ?_; rfl)
      | (with_reducible first
           | refine vc_true ?_ | refine vc_true2 ?_ | refine vc_side ?_ ?_ | refine vc_triv | refine vc_later ?_ | refine vc_caseT ?_ | refine vc_caseF ?_ | refine vc_cons ?_ | refine vc_nil ?_ ?_ | refine vc_seq ?_
              | refine vc_region ?_ | refine vc_cond ?_ | refine vc_block ?_ | refine vc_retc ?_ | refine vc_exit ?_ | refine vc_skip ?_ | refine vc_scope ?_ | refine vc_label ?_ | refine vc_goto ?_ | refine vc_wkSl0
              | refine vc_wkHp0 | refine vc_eqAVs0 | refine vc_preG0 | refine vc_wkSl ?_ ?_ | refine vc_wkHp ?_ ?_ | refine vc_eqAVs ?_ ?_ | refine vc_preG ?_ ?_ | refine vc_side0 ?_ | refine vc_call [] (inNum_bad B k) ?_
              | refine vc_weakf [] ?_ ?_ ?_ | refine vc_and ?_ ?_ | refine vc_ret [] [] ?_)
      | ((with_reducible first | refine vc_caseD (fun h => ?_) (fun h => ?_) | refine vc_caseN (fun h => ?_) (fun h => ?_)) <;> try (exfalso; omega))
      | ((with_reducible refine vc_case (fun h => ?_) (fun h => ?_)) <;> (try simp at h) <;> try (exfalso; omega))
      | (conv in Vc _ => arg 1; whnf
         first
          | (with_reducible refine vc_side0 ?_; rfl)
          | (with_reducible first
              | refine vc_true ?_ | refine vc_true2 ?_ | refine vc_side ?_ ?_ | refine vc_triv | refine vc_later ?_ | refine vc_caseT ?_ | refine vc_caseF ?_ | refine vc_cons ?_ | refine vc_nil ?_ ?_ | refine vc_seq ?_
                 | refine vc_region ?_ | refine vc_cond ?_ | refine vc_block ?_ | refine vc_retc ?_ | refine vc_exit ?_ | refine vc_skip ?_ | refine vc_scope ?_ | refine vc_label ?_ | refine vc_goto ?_ | refine vc_wkSl0
                 | refine vc_wkHp0 | refine vc_eqAVs0 | refine vc_preG0 | refine vc_wkSl ?_ ?_ | refine vc_wkHp ?_ ?_ | refine vc_eqAVs ?_ ?_ | refine vc_preG ?_ ?_ | refine vc_side0 ?_ | refine vc_call [] (inNum_bad B k) ?_
                 | refine vc_weakf [] ?_ ?_ ?_ | refine vc_and ?_ ?_ | refine vc_ret [] [] ?_)
          | ((with_reducible first | refine vc_caseD (fun h => ?_) (fun h => ?_) | refine vc_caseN (fun h => ?_) (fun h => ?_)) <;> try (exfalso; omega))
          | ((with_reducible refine vc_case (fun h => ?_) (fun h => ?_)) <;> (try simp at h) <;> try (exfalso; omega))))
  all_goals rfl

theorem inCnt_ok (B : List D) (bs : List UInt8) (hB : B = bs.map byteD) (most k : Nat) (hm : most < 2 ^ 63) (hk : k ≤ bs.length) (hl : bs.length < 2 ^ 63) (R : Nat × Nat × Bool) (hR : inC bs most k = R) :
    LocalCall Try.prog 56 [.ptr 9 [], .d (.int .i64 (most : Int))] [(9, rIn B k false)] [] (one [.d (.int .i64 (R.1 : Int))]) [(9, rIn B R.2.1 R.2.2)] := by
  have hw : IntKind.u64.wrap (most : Int) = most := wrapU64_id (by omega) (by omega)
  unfold inC at hR
  simp only at hR
  rcases h0 : inN bs 10 k 0 0 with ⟨v, e, b⟩
  rw [h0] at hR
  have hc := inNum_ok B bs hB k hk hl _ h0
  simp only at hR hc
  refine vc_fn mixed Try.func56 rfl rfl [] (vc_chk rfl) ?_
  cases b with
  | true =>
    simp only [Bool.true_or, cond_true] at hR
    subst hR
    repeat' (first
        | ((with_reducible refine vc_chk ?_); first | decide +kernel | rfl)
        | (with_reducible refine vc_side0 ?_; rfl)
        | (with_reducible first
             | refine vc_true ?_ | refine vc_true2 ?_ | refine vc_side ?_ ?_ | refine vc_triv | refine vc_later ?_ | refine vc_caseT ?_ | refine vc_caseF ?_ | refine vc_cons ?_ | refine vc_nil ?_ ?_ | refine vc_seq ?_
                | refine vc_region ?_ | refine vc_cond ?_ | refine vc_block ?_ | refine vc_retc ?_ | refine vc_exit ?_ | refine vc_skip ?_ | refine vc_scope ?_ | refine vc_label ?_ | refine vc_goto ?_ | refine vc_wkSl0
                | refine vc_wkHp0 | refine vc_eqAVs0 | refine vc_preG0 | refine vc_wkSl ?_ ?_ | refine vc_wkHp ?_ ?_ | refine vc_eqAVs ?_ ?_ | refine vc_preG ?_ ?_ | refine vc_side0 ?_ | refine vc_call [] hc ?_
                | refine vc_weakf [] ?_ ?_ ?_ | refine vc_and ?_ ?_ | refine vc_ret [] [] ?_)
        | ((with_reducible first | refine vc_caseD (fun h => ?_) (fun h => ?_) | refine vc_caseN (fun h => ?_) (fun h => ?_)) <;> try (exfalso; omega))
        | ((with_reducible refine vc_case (fun h => ?_) (fun h => ?_)) <;> (try simp at h) <;> try (exfalso; omega))
        | (conv in Vc _ => arg 1; whnf
           first
            | (with_reducible refine vc_side0 ?_; rfl)
            | (with_reducible first
                | refine vc_true ?_ | refine vc_true2 ?_ | refine vc_side ?_ ?_ | refine vc_triv | refine vc_later ?_ | refine vc_caseT ?_ | refine vc_caseF ?_ | refine vc_cons ?_ | refine vc_nil ?_ ?_ | refine vc_seq ?_
                   | refine vc_region ?_ | refine vc_cond ?_ | refine vc_block ?_ | refine vc_retc ?_ | refine vc_exit ?_ | refine vc_skip ?_ | refine vc_scope ?_ | refine vc_label ?_ | refine vc_goto ?_ | refine vc_wkSl0
                   | refine vc_wkHp0 | refine vc_eqAVs0 | refine vc_preG0 | refine vc_wkSl ?_ ?_ | refine vc_wkHp ?_ ?_ | refine vc_eqAVs ?_ ?_ | refine vc_preG ?_ ?_ | refine vc_side0 ?_ | refine vc_call [] hc ?_
                   | refine vc_weakf [] ?_ ?_ ?_ | refine vc_and ?_ ?_ | refine vc_ret [] [] ?_)
            | ((with_reducible first | refine vc_caseD (fun h => ?_) (fun h => ?_) | refine vc_caseN (fun h => ?_) (fun h => ?_)) <;> try (exfalso; omega))
            | ((with_reducible refine vc_case (fun h => ?_) (fun h => ?_)) <;> (try simp at h) <;> try (exfalso; omega))))
    all_goals rfl
  | false =>
    simp only [Bool.false_or] at hR
    by_cases hv : most < v
    · rw [decide_eq_true hv, cond_true] at hR
      subst hR
      repeat' (first
          | ((with_reducible refine vc_chk ?_); first | decide +kernel | rfl)
          | (with_reducible refine vc_side0 ?_; rfl)
          | (with_reducible first
               | refine vc_true ?_ | refine vc_true2 ?_ | refine vc_side ?_ ?_ | refine vc_triv | refine vc_later ?_ | refine vc_caseT ?_ | refine vc_caseF ?_ | refine vc_cons ?_ | refine vc_nil ?_ ?_ | refine vc_seq ?_
                  | refine vc_region ?_ | refine vc_cond ?_ | refine vc_block ?_ | refine vc_retc ?_ | refine vc_exit ?_ | refine vc_skip ?_ | refine vc_scope ?_ | refine vc_label ?_ | refine vc_goto ?_ | refine vc_wkSl0
                  | refine vc_wkHp0 | refine vc_eqAVs0 | refine vc_preG0 | refine vc_wkSl ?_ ?_ | refine vc_wkHp ?_ ?_ | refine vc_eqAVs ?_ ?_ | refine vc_preG ?_ ?_ | refine vc_side0 ?_ | refine vc_call [] hc ?_
                  | refine vc_weakf [] ?_ ?_ ?_ | refine vc_and ?_ ?_ | refine vc_ret [] [] ?_)
          | ((with_reducible first | refine vc_caseD (fun h => ?_) (fun h => ?_) | refine vc_caseN (fun h => ?_) (fun h => ?_)) <;> try (exfalso; omega))
          | ((with_reducible refine vc_case (fun h => ?_) (fun h => ?_)) <;> (try simp at h) <;> try (exfalso; omega))
          | (conv in Vc _ => arg 1; whnf
             first
              | (with_reducible refine vc_side0 ?_; rfl)
              | (with_reducible first
                  | refine vc_true ?_ | refine vc_true2 ?_ | refine vc_side ?_ ?_ | refine vc_triv | refine vc_later ?_ | refine vc_caseT ?_ | refine vc_caseF ?_ | refine vc_cons ?_ | refine vc_nil ?_ ?_ | refine vc_seq ?_
                     | refine vc_region ?_ | refine vc_cond ?_ | refine vc_block ?_ | refine vc_retc ?_ | refine vc_exit ?_ | refine vc_skip ?_ | refine vc_scope ?_ | refine vc_label ?_ | refine vc_goto ?_ | refine vc_wkSl0
                     | refine vc_wkHp0 | refine vc_eqAVs0 | refine vc_preG0 | refine vc_wkSl ?_ ?_ | refine vc_wkHp ?_ ?_ | refine vc_eqAVs ?_ ?_ | refine vc_preG ?_ ?_ | refine vc_side0 ?_ | refine vc_call [] hc ?_
                     | refine vc_weakf [] ?_ ?_ ?_ | refine vc_and ?_ ?_ | refine vc_ret [] [] ?_)
              | ((with_reducible first | refine vc_caseD (fun h => ?_) (fun h => ?_) | refine vc_caseN (fun h => ?_) (fun h => ?_)) <;> try (exfalso; omega))
              | ((with_reducible refine vc_case (fun h => ?_) (fun h => ?_)) <;> (try simp at h) <;> try (exfalso; omega))))
      all_goals first
        | rfl
        | (exfalso; rw [hw] at h; omega)
    · rw [decide_eq_false hv, cond_false] at hR
      subst hR
      have hv2 : IntKind.i64.wrap (v : Int) = v := wrap64_id (by omega) (by omega)
      repeat' (first
          | ((with_reducible refine vc_chk ?_); first | decide +kernel | rfl)
          | (with_reducible refine vc_side0 ?_; rfl)
          | (with_reducible first
               | refine vc_true ?_ | refine vc_true2 ?_ | refine vc_side ?_ ?_ | refine vc_triv | refine vc_later ?_ | refine vc_caseT ?_ | refine vc_caseF ?_ | refine vc_cons ?_ | refine vc_nil ?_ ?_ | refine vc_seq ?_
                  | refine vc_region ?_ | refine vc_cond ?_ | refine vc_block ?_ | refine vc_retc ?_ | refine vc_exit ?_ | refine vc_skip ?_ | refine vc_scope ?_ | refine vc_label ?_ | refine vc_goto ?_ | refine vc_wkSl0
                  | refine vc_wkHp0 | refine vc_eqAVs0 | refine vc_preG0 | refine vc_wkSl ?_ ?_ | refine vc_wkHp ?_ ?_ | refine vc_eqAVs ?_ ?_ | refine vc_preG ?_ ?_ | refine vc_side0 ?_ | refine vc_call [] hc ?_
                  | refine vc_weakf [] ?_ ?_ ?_ | refine vc_and ?_ ?_ | refine vc_ret [] [] ?_)
          | ((with_reducible first | refine vc_caseD (fun h => ?_) (fun h => ?_) | refine vc_caseN (fun h => ?_) (fun h => ?_)) <;> try (exfalso; omega))
          | ((with_reducible refine vc_case (fun h => ?_) (fun h => ?_)) <;> (try simp at h) <;> try (exfalso; omega))
          | (conv in Vc _ => arg 1; whnf
             first
              | (with_reducible refine vc_side0 ?_; rfl)
              | (with_reducible first
                  | refine vc_true ?_ | refine vc_true2 ?_ | refine vc_side ?_ ?_ | refine vc_triv | refine vc_later ?_ | refine vc_caseT ?_ | refine vc_caseF ?_ | refine vc_cons ?_ | refine vc_nil ?_ ?_ | refine vc_seq ?_
                     | refine vc_region ?_ | refine vc_cond ?_ | refine vc_block ?_ | refine vc_retc ?_ | refine vc_exit ?_ | refine vc_skip ?_ | refine vc_scope ?_ | refine vc_label ?_ | refine vc_goto ?_ | refine vc_wkSl0
                     | refine vc_wkHp0 | refine vc_eqAVs0 | refine vc_preG0 | refine vc_wkSl ?_ ?_ | refine vc_wkHp ?_ ?_ | refine vc_eqAVs ?_ ?_ | refine vc_preG ?_ ?_ | refine vc_side0 ?_ | refine vc_call [] hc ?_
                     | refine vc_weakf [] ?_ ?_ ?_ | refine vc_and ?_ ?_ | refine vc_ret [] [] ?_)
              | ((with_reducible first | refine vc_caseD (fun h => ?_) (fun h => ?_) | refine vc_caseN (fun h => ?_) (fun h => ?_)) <;> try (exfalso; omega))
              | ((with_reducible refine vc_case (fun h => ?_) (fun h => ?_)) <;> (try simp at h) <;> try (exfalso; omega))))
      all_goals first
        | rfl
        | (exfalso; rw [hw] at h; omega)
        | (rw [hv2]; done)

/-- So many bytes. -/
def inK (bs : List UInt8) (n k : Nat) : List UInt8 × Nat × Bool := bif decide (k + n ≤ bs.length) then ((bs.drop k).take n, k + n, false) else ([], k, true)

theorem inTake_bad (B : List D) (k : Nat) (n : Int) :
    LocalCall Try.prog 65 [.ptr 9 [], .d (.int .i64 n)] [(9, rIn B k true)] [] (one [.d (.sl [])]) [(9, rIn B k true)] := by
  refine vc_fn mixed Try.func65 rfl rfl [] (vc_chk rfl) ?_
  repeat' (first
      | ((with_reducible refine vc_chk ?_); first | decide +kernel | rfl)
      | (with_reducible refine vc_side0 ?_; rfl)
      | (with_reducible first
           | refine vc_true ?_ | refine vc_true2 ?_ | refine vc_side ?_ ?_ | refine vc_triv | refine vc_later ?_ | refine vc_caseT ?_ | refine vc_caseF ?_ | refine vc_cons ?_ | refine vc_nil ?_ ?_ | refine vc_seq ?_
              | refine vc_region ?_ | refine vc_cond ?_ | refine vc_block ?_ | refine vc_retc ?_ | refine vc_exit ?_ | refine vc_skip ?_ | refine vc_scope ?_ | refine vc_label ?_ | refine vc_goto ?_ | refine vc_wkSl0
              | refine vc_wkHp0 | refine vc_eqAVs0 | refine vc_preG0 | refine vc_wkSl ?_ ?_ | refine vc_wkHp ?_ ?_ | refine vc_eqAVs ?_ ?_ | refine vc_preG ?_ ?_ | refine vc_side0 ?_ | refine vc_ret [true] [] ?_
              | refine vc_weakf [] ?_ ?_ ?_ | refine vc_and ?_ ?_ | refine vc_ret [] [] ?_)
      | ((with_reducible first | refine vc_caseD (fun h => ?_) (fun h => ?_) | refine vc_caseN (fun h => ?_) (fun h => ?_)) <;> try (exfalso; omega))
      | ((with_reducible refine vc_case (fun h => ?_) (fun h => ?_)) <;> (try simp at h) <;> try (exfalso; omega))
      | (conv in Vc _ => arg 1; whnf
         first
          | (with_reducible refine vc_side0 ?_; rfl)
          | (with_reducible first
              | refine vc_true ?_ | refine vc_true2 ?_ | refine vc_side ?_ ?_ | refine vc_triv | refine vc_later ?_ | refine vc_caseT ?_ | refine vc_caseF ?_ | refine vc_cons ?_ | refine vc_nil ?_ ?_ | refine vc_seq ?_
                 | refine vc_region ?_ | refine vc_cond ?_ | refine vc_block ?_ | refine vc_retc ?_ | refine vc_exit ?_ | refine vc_skip ?_ | refine vc_scope ?_ | refine vc_label ?_ | refine vc_goto ?_ | refine vc_wkSl0
                 | refine vc_wkHp0 | refine vc_eqAVs0 | refine vc_preG0 | refine vc_wkSl ?_ ?_ | refine vc_wkHp ?_ ?_ | refine vc_eqAVs ?_ ?_ | refine vc_preG ?_ ?_ | refine vc_side0 ?_ | refine vc_ret [true] [] ?_
                 | refine vc_weakf [] ?_ ?_ ?_ | refine vc_and ?_ ?_ | refine vc_ret [] [] ?_)
          | ((with_reducible first | refine vc_caseD (fun h => ?_) (fun h => ?_) | refine vc_caseN (fun h => ?_) (fun h => ?_)) <;> try (exfalso; omega))
          | ((with_reducible refine vc_case (fun h => ?_) (fun h => ?_)) <;> (try simp at h) <;> try (exfalso; omega))))
  all_goals rfl

theorem inTake_ok (B : List D) (bs : List UInt8) (hB : B = bs.map byteD) (n k : Nat) (hn : n ≤ 1048576) (hk : k ≤ bs.length) (hl : bs.length < 2 ^ 63) (R : List UInt8 × Nat × Bool) (hR : inK bs n k = R) :
    LocalCall Try.prog 65 [.ptr 9 [], .d (.int .i64 (n : Int))] [(9, rIn B k false)] [] (one [.d (.sl (R.1.map byteD))]) [(9, rIn B R.2.1 R.2.2)] := by
  have hlen : B.length = bs.length := by rw [hB]; simp
  have w0 : IntKind.i64.wrap ((B.length : Int) - (k : Int)) = (B.length : Int) - k := wrap64_id (by omega) (by omega)
  refine vc_fn mixed Try.func65 rfl rfl [] (vc_chk rfl) ?_
  unfold inK at hR
  by_cases hc : k + n ≤ bs.length
  · rw [decide_eq_true hc, cond_true] at hR
    subst hR
    have w1 : IntKind.i64.wrap ((k : Int) + (n : Int)) = ((k + n : Nat) : Int) := by rw [wrap64_id (by omega) (by omega)]; rfl
    have w2 : IntKind.i64.wrap (((k + n : Nat) : Int) - (n : Int)) = (k : Int) := by rw [wrap64_id (by omega) (by omega)]; omega
    have hcut : cutD B (k : Int) ((k + n : Nat) : Int) = ((bs.drop k).take n).map byteD := by
      unfold cutD
      rw [Int.toNat_natCast, Int.toNat_natCast, hB, List.drop_take, ← List.map_drop, ← List.map_take]
      congr 2; omega
    have hcl : (((bs.drop k).take n).map byteD).length = n := by
      rw [List.length_map, List.length_take, List.length_drop]; omega
    repeat' (first
        | ((with_reducible refine vc_chk ?_); first | decide +kernel | rfl)
        | (with_reducible refine vc_side0 ?_; rfl)
        | (with_reducible first
             | refine vc_true ?_ | refine vc_true2 ?_ | refine vc_side ?_ ?_ | refine vc_triv | refine vc_later ?_ | refine vc_caseT ?_ | refine vc_caseF ?_ | refine vc_cons ?_ | refine vc_nil ?_ ?_ | refine vc_seq ?_
                | refine vc_region ?_ | refine vc_cond ?_ | refine vc_block ?_ | refine vc_retc ?_ | refine vc_exit ?_ | refine vc_skip ?_ | refine vc_scope ?_ | refine vc_label ?_ | refine vc_goto ?_ | refine vc_wkSl0
                | refine vc_wkHp0 | refine vc_eqAVs0 | refine vc_preG0 | refine vc_wkSl ?_ ?_ | refine vc_wkHp ?_ ?_ | refine vc_eqAVs ?_ ?_ | refine vc_preG ?_ ?_ | refine vc_side0 ?_ | refine vc_ret [true] [] ?_
                | refine vc_weakf [] ?_ ?_ ?_ | refine vc_and ?_ ?_ | refine vc_ret [] [] ?_)
        | ((with_reducible first | refine vc_caseD (fun h => ?_) (fun h => ?_) | refine vc_caseN (fun h => ?_) (fun h => ?_)) <;> try (exfalso; omega))
        | ((with_reducible refine vc_case (fun h => ?_) (fun h => ?_)) <;> (try simp at h) <;> try (exfalso; omega))
        | (conv in Vc _ => arg 1; whnf
           first
            | (with_reducible refine vc_side0 ?_; rfl)
            | (with_reducible first
                | refine vc_true ?_ | refine vc_true2 ?_ | refine vc_side ?_ ?_ | refine vc_triv | refine vc_later ?_ | refine vc_caseT ?_ | refine vc_caseF ?_ | refine vc_cons ?_ | refine vc_nil ?_ ?_ | refine vc_seq ?_
                   | refine vc_region ?_ | refine vc_cond ?_ | refine vc_block ?_ | refine vc_retc ?_ | refine vc_exit ?_ | refine vc_skip ?_ | refine vc_scope ?_ | refine vc_label ?_ | refine vc_goto ?_ | refine vc_wkSl0
                   | refine vc_wkHp0 | refine vc_eqAVs0 | refine vc_preG0 | refine vc_wkSl ?_ ?_ | refine vc_wkHp ?_ ?_ | refine vc_eqAVs ?_ ?_ | refine vc_preG ?_ ?_ | refine vc_side0 ?_ | refine vc_ret [true] [] ?_
                   | refine vc_weakf [] ?_ ?_ ?_ | refine vc_and ?_ ?_ | refine vc_ret [] [] ?_)
            | ((with_reducible first | refine vc_caseD (fun h => ?_) (fun h => ?_) | refine vc_caseN (fun h => ?_) (fun h => ?_)) <;> try (exfalso; omega))
            | ((with_reducible refine vc_case (fun h => ?_) (fun h => ?_)) <;> (try simp at h) <;> try (exfalso; omega))))
    all_goals (try simp only [w1, w2, hcut])
    all_goals first
      | rfl
      | (exfalso; rw [w0] at h; omega)
      | exact ⟨⟨by omega, by omega, by omega⟩, fun y hy => by rw [hB] at hy; obtain ⟨c, _, rfl⟩ := List.mem_map.1 hy; rfl⟩
      | exact ⟨⟨trivial, room_le (b := 1048576) (by unfold Room; omega) rfl (by rw [hcl]; omega)⟩, fun y hy => by obtain ⟨c, _, rfl⟩ := List.mem_map.1 hy; rfl⟩
      | exact ⟨Nat.le_of_eq (Nat.zero_add _), trivial⟩
      | (rw [List.drop_zero, List.take_length]; done)
      | skip
  · rw [decide_eq_false hc, cond_false] at hR
    subst hR
    repeat' (first
        | ((with_reducible refine vc_chk ?_); first | decide +kernel | rfl)
        | (with_reducible refine vc_side0 ?_; rfl)
        | (with_reducible first
             | refine vc_true ?_ | refine vc_true2 ?_ | refine vc_side ?_ ?_ | refine vc_triv | refine vc_later ?_ | refine vc_caseT ?_ | refine vc_caseF ?_ | refine vc_cons ?_ | refine vc_nil ?_ ?_ | refine vc_seq ?_
                | refine vc_region ?_ | refine vc_cond ?_ | refine vc_block ?_ | refine vc_retc ?_ | refine vc_exit ?_ | refine vc_skip ?_ | refine vc_scope ?_ | refine vc_label ?_ | refine vc_goto ?_ | refine vc_wkSl0
                | refine vc_wkHp0 | refine vc_eqAVs0 | refine vc_preG0 | refine vc_wkSl ?_ ?_ | refine vc_wkHp ?_ ?_ | refine vc_eqAVs ?_ ?_ | refine vc_preG ?_ ?_ | refine vc_side0 ?_ | refine vc_ret [true] [] ?_
                | refine vc_weakf [] ?_ ?_ ?_ | refine vc_and ?_ ?_ | refine vc_ret [] [] ?_)
        | ((with_reducible first | refine vc_caseD (fun h => ?_) (fun h => ?_) | refine vc_caseN (fun h => ?_) (fun h => ?_)) <;> try (exfalso; omega))
        | ((with_reducible refine vc_case (fun h => ?_) (fun h => ?_)) <;> (try simp at h) <;> try (exfalso; omega))
        | (conv in Vc _ => arg 1; whnf
           first
            | (with_reducible refine vc_side0 ?_; rfl)
            | (with_reducible first
                | refine vc_true ?_ | refine vc_true2 ?_ | refine vc_side ?_ ?_ | refine vc_triv | refine vc_later ?_ | refine vc_caseT ?_ | refine vc_caseF ?_ | refine vc_cons ?_ | refine vc_nil ?_ ?_ | refine vc_seq ?_
                   | refine vc_region ?_ | refine vc_cond ?_ | refine vc_block ?_ | refine vc_retc ?_ | refine vc_exit ?_ | refine vc_skip ?_ | refine vc_scope ?_ | refine vc_label ?_ | refine vc_goto ?_ | refine vc_wkSl0
                   | refine vc_wkHp0 | refine vc_eqAVs0 | refine vc_preG0 | refine vc_wkSl ?_ ?_ | refine vc_wkHp ?_ ?_ | refine vc_eqAVs ?_ ?_ | refine vc_preG ?_ ?_ | refine vc_side0 ?_ | refine vc_ret [true] [] ?_
                   | refine vc_weakf [] ?_ ?_ ?_ | refine vc_and ?_ ?_ | refine vc_ret [] [] ?_)
            | ((with_reducible first | refine vc_caseD (fun h => ?_) (fun h => ?_) | refine vc_caseN (fun h => ?_) (fun h => ?_)) <;> try (exfalso; omega))
            | ((with_reducible refine vc_case (fun h => ?_) (fun h => ?_)) <;> (try simp at h) <;> try (exfalso; omega))))
    all_goals first
      | rfl
      | (exfalso; rw [w0] at h; omega)
      | skip

/-- A text. -/
def inT (bs : List UInt8) (k : Nat) : List UInt8 × Nat × Bool := let c := inC bs 1048576 k; bif c.2.2 then ([], c.2.1, true) else inK bs c.1 c.2.1

theorem inText_bad (B : List D) (k : Nat) :
    LocalCall Try.prog 49 [.ptr 9 []] [(9, rIn B k true)] [] (one [.d (.sl [])]) [(9, rIn B k true)] := by
  refine vc_fn mixed Try.func49 rfl rfl [] (vc_chk rfl) ?_
  repeat' (first
      | ((with_reducible refine vc_chk ?_); first | decide +kernel | rfl)
      | (with_reducible refine vc_side0 ?_; rfl)
      | (with_reducible first
           | refine vc_true ?_ | refine vc_true2 ?_ | refine vc_side ?_ ?_ | refine vc_triv | refine vc_later ?_ | refine vc_caseT ?_ | refine vc_caseF ?_ | refine vc_cons ?_ | refine vc_nil ?_ ?_ | refine vc_seq ?_
              | refine vc_region ?_ | refine vc_cond ?_ | refine vc_block ?_ | refine vc_retc ?_ | refine vc_exit ?_ | refine vc_skip ?_ | refine vc_scope ?_ | refine vc_label ?_ | refine vc_goto ?_ | refine vc_wkSl0
              | refine vc_wkHp0 | refine vc_eqAVs0 | refine vc_preG0 | refine vc_wkSl ?_ ?_ | refine vc_wkHp ?_ ?_ | refine vc_eqAVs ?_ ?_ | refine vc_preG ?_ ?_ | refine vc_side0 ?_ | refine vc_call [] (inCnt_bad B k 1048576) ?_
              | refine vc_call [] (inTake_bad B k 0) ?_ | refine vc_weakf [] ?_ ?_ ?_ | refine vc_and ?_ ?_ | refine vc_ret [] [] ?_)
      | ((with_reducible first | refine vc_caseD (fun h => ?_) (fun h => ?_) | refine vc_caseN (fun h => ?_) (fun h => ?_)) <;> try (exfalso; omega))
      | ((with_reducible refine vc_case (fun h => ?_) (fun h => ?_)) <;> (try simp at h) <;> try (exfalso; omega))
      | (conv in Vc _ => arg 1; whnf
         first
          | (with_reducible refine vc_side0 ?_; rfl)
          | (with_reducible first
              | refine vc_true ?_ | refine vc_true2 ?_ | refine vc_side ?_ ?_ | refine vc_triv | refine vc_later ?_ | refine vc_caseT ?_ | refine vc_caseF ?_ | refine vc_cons ?_ | refine vc_nil ?_ ?_ | refine vc_seq ?_
                 | refine vc_region ?_ | refine vc_cond ?_ | refine vc_block ?_ | refine vc_retc ?_ | refine vc_exit ?_ | refine vc_skip ?_ | refine vc_scope ?_ | refine vc_label ?_ | refine vc_goto ?_ | refine vc_wkSl0
                 | refine vc_wkHp0 | refine vc_eqAVs0 | refine vc_preG0 | refine vc_wkSl ?_ ?_ | refine vc_wkHp ?_ ?_ | refine vc_eqAVs ?_ ?_ | refine vc_preG ?_ ?_ | refine vc_side0 ?_
                 | refine vc_call [] (inCnt_bad B k 1048576) ?_ | refine vc_call [] (inTake_bad B k 0) ?_ | refine vc_weakf [] ?_ ?_ ?_ | refine vc_and ?_ ?_ | refine vc_ret [] [] ?_)
          | ((with_reducible first | refine vc_caseD (fun h => ?_) (fun h => ?_) | refine vc_caseN (fun h => ?_) (fun h => ?_)) <;> try (exfalso; omega))
          | ((with_reducible refine vc_case (fun h => ?_) (fun h => ?_)) <;> (try simp at h) <;> try (exfalso; omega))))
  all_goals rfl

theorem inText_ok (B : List D) (bs : List UInt8) (hB : B = bs.map byteD) (k : Nat) (hk : k ≤ bs.length) (hl : bs.length < 2 ^ 63) (R : List UInt8 × Nat × Bool) (hR : inT bs k = R) :
    LocalCall Try.prog 49 [.ptr 9 []] [(9, rIn B k false)] [] (one [.d (.sl (R.1.map byteD))]) [(9, rIn B R.2.1 R.2.2)] := by
  have hle := inC_le bs 1048576 k hk
  have hmost := inC_most bs 1048576 k
  unfold inT at hR
  simp only at hR
  rcases h0 : inC bs 1048576 k with ⟨v, e, b⟩
  rw [h0] at hR hle hmost
  have hc := inCnt_ok B bs hB 1048576 k (by omega) hk hl _ h0
  simp only at hR hc hle hmost
  refine vc_fn mixed Try.func49 rfl rfl [] (vc_chk rfl) ?_
  cases b with
  | true =>
    simp only [cond_true] at hR
    subst hR
    repeat' (first
        | ((with_reducible refine vc_chk ?_); first | decide +kernel | rfl)
        | (with_reducible refine vc_side0 ?_; rfl)
        | (with_reducible first
             | refine vc_true ?_ | refine vc_true2 ?_ | refine vc_side ?_ ?_ | refine vc_triv | refine vc_later ?_ | refine vc_caseT ?_ | refine vc_caseF ?_ | refine vc_cons ?_ | refine vc_nil ?_ ?_ | refine vc_seq ?_
                | refine vc_region ?_ | refine vc_cond ?_ | refine vc_block ?_ | refine vc_retc ?_ | refine vc_exit ?_ | refine vc_skip ?_ | refine vc_scope ?_ | refine vc_label ?_ | refine vc_goto ?_ | refine vc_wkSl0
                | refine vc_wkHp0 | refine vc_eqAVs0 | refine vc_preG0 | refine vc_wkSl ?_ ?_ | refine vc_wkHp ?_ ?_ | refine vc_eqAVs ?_ ?_ | refine vc_preG ?_ ?_ | refine vc_side0 ?_ | refine vc_call [] hc ?_
                | refine vc_call [] (inTake_bad B e (v : Int)) ?_ | refine vc_weakf [] ?_ ?_ ?_ | refine vc_and ?_ ?_ | refine vc_ret [] [] ?_)
        | ((with_reducible first | refine vc_caseD (fun h => ?_) (fun h => ?_) | refine vc_caseN (fun h => ?_) (fun h => ?_)) <;> try (exfalso; omega))
        | ((with_reducible refine vc_case (fun h => ?_) (fun h => ?_)) <;> (try simp at h) <;> try (exfalso; omega))
        | (conv in Vc _ => arg 1; whnf
           first
            | (with_reducible refine vc_side0 ?_; rfl)
            | (with_reducible first
                | refine vc_true ?_ | refine vc_true2 ?_ | refine vc_side ?_ ?_ | refine vc_triv | refine vc_later ?_ | refine vc_caseT ?_ | refine vc_caseF ?_ | refine vc_cons ?_ | refine vc_nil ?_ ?_ | refine vc_seq ?_
                   | refine vc_region ?_ | refine vc_cond ?_ | refine vc_block ?_ | refine vc_retc ?_ | refine vc_exit ?_ | refine vc_skip ?_ | refine vc_scope ?_ | refine vc_label ?_ | refine vc_goto ?_ | refine vc_wkSl0
                   | refine vc_wkHp0 | refine vc_eqAVs0 | refine vc_preG0 | refine vc_wkSl ?_ ?_ | refine vc_wkHp ?_ ?_ | refine vc_eqAVs ?_ ?_ | refine vc_preG ?_ ?_ | refine vc_side0 ?_ | refine vc_call [] hc ?_
                   | refine vc_call [] (inTake_bad B e (v : Int)) ?_ | refine vc_weakf [] ?_ ?_ ?_ | refine vc_and ?_ ?_ | refine vc_ret [] [] ?_)
            | ((with_reducible first | refine vc_caseD (fun h => ?_) (fun h => ?_) | refine vc_caseN (fun h => ?_) (fun h => ?_)) <;> try (exfalso; omega))
            | ((with_reducible refine vc_case (fun h => ?_) (fun h => ?_)) <;> (try simp at h) <;> try (exfalso; omega))))
    all_goals rfl
  | false =>
    simp only [cond_false] at hR
    have hc2 := inTake_ok B bs hB v e hmost hle hl _ hR
    repeat' (first
        | ((with_reducible refine vc_chk ?_); first | decide +kernel | rfl)
        | (with_reducible refine vc_side0 ?_; rfl)
        | (with_reducible first
             | refine vc_true ?_ | refine vc_true2 ?_ | refine vc_side ?_ ?_ | refine vc_triv | refine vc_later ?_ | refine vc_caseT ?_ | refine vc_caseF ?_ | refine vc_cons ?_ | refine vc_nil ?_ ?_ | refine vc_seq ?_
                | refine vc_region ?_ | refine vc_cond ?_ | refine vc_block ?_ | refine vc_retc ?_ | refine vc_exit ?_ | refine vc_skip ?_ | refine vc_scope ?_ | refine vc_label ?_ | refine vc_goto ?_ | refine vc_wkSl0
                | refine vc_wkHp0 | refine vc_eqAVs0 | refine vc_preG0 | refine vc_wkSl ?_ ?_ | refine vc_wkHp ?_ ?_ | refine vc_eqAVs ?_ ?_ | refine vc_preG ?_ ?_ | refine vc_side0 ?_ | refine vc_call [] hc ?_
                | refine vc_call [] hc2 ?_ | refine vc_weakf [] ?_ ?_ ?_ | refine vc_and ?_ ?_ | refine vc_ret [] [] ?_)
        | ((with_reducible first | refine vc_caseD (fun h => ?_) (fun h => ?_) | refine vc_caseN (fun h => ?_) (fun h => ?_)) <;> try (exfalso; omega))
        | ((with_reducible refine vc_case (fun h => ?_) (fun h => ?_)) <;> (try simp at h) <;> try (exfalso; omega))
        | (conv in Vc _ => arg 1; whnf
           first
            | (with_reducible refine vc_side0 ?_; rfl)
            | (with_reducible first
                | refine vc_true ?_ | refine vc_true2 ?_ | refine vc_side ?_ ?_ | refine vc_triv | refine vc_later ?_ | refine vc_caseT ?_ | refine vc_caseF ?_ | refine vc_cons ?_ | refine vc_nil ?_ ?_ | refine vc_seq ?_
                   | refine vc_region ?_ | refine vc_cond ?_ | refine vc_block ?_ | refine vc_retc ?_ | refine vc_exit ?_ | refine vc_skip ?_ | refine vc_scope ?_ | refine vc_label ?_ | refine vc_goto ?_ | refine vc_wkSl0
                   | refine vc_wkHp0 | refine vc_eqAVs0 | refine vc_preG0 | refine vc_wkSl ?_ ?_ | refine vc_wkHp ?_ ?_ | refine vc_eqAVs ?_ ?_ | refine vc_preG ?_ ?_ | refine vc_side0 ?_ | refine vc_call [] hc ?_
                   | refine vc_call [] hc2 ?_ | refine vc_weakf [] ?_ ?_ ?_ | refine vc_and ?_ ?_ | refine vc_ret [] [] ?_)
            | ((with_reducible first | refine vc_caseD (fun h => ?_) (fun h => ?_) | refine vc_caseN (fun h => ?_) (fun h => ?_)) <;> try (exfalso; omega))
            | ((with_reducible refine vc_case (fun h => ?_) (fun h => ?_)) <;> (try simp at h) <;> try (exfalso; omega))))
    all_goals rfl

theorem inDone_ok (B : List D) (k : Nat) (b : Bool) :
    LocalCall Try.prog 51 [.ptr 9 []] [(9, rIn B k b)] [] (one [.d (.bool (!b && decide (k = B.length)))]) [(9, rIn B k b)] := by
  refine vc_fn mixed Try.func51 rfl rfl [] (vc_chk rfl) ?_
  cases b with
  | true =>
    repeat' (first
        | ((with_reducible refine vc_chk ?_); first | decide +kernel | rfl)
        | (with_reducible refine vc_side0 ?_; rfl)
        | (with_reducible first
             | refine vc_true ?_ | refine vc_true2 ?_ | refine vc_side ?_ ?_ | refine vc_triv | refine vc_later ?_ | refine vc_caseT ?_ | refine vc_caseF ?_ | refine vc_cons ?_ | refine vc_nil ?_ ?_ | refine vc_seq ?_
                | refine vc_region ?_ | refine vc_cond ?_ | refine vc_block ?_ | refine vc_retc ?_ | refine vc_exit ?_ | refine vc_skip ?_ | refine vc_scope ?_ | refine vc_label ?_ | refine vc_goto ?_ | refine vc_wkSl0
                | refine vc_wkHp0 | refine vc_eqAVs0 | refine vc_preG0 | refine vc_wkSl ?_ ?_ | refine vc_wkHp ?_ ?_ | refine vc_eqAVs ?_ ?_ | refine vc_preG ?_ ?_ | refine vc_side0 ?_ | refine vc_weakf [] ?_ ?_ ?_
                | refine vc_and ?_ ?_ | refine vc_ret [] [] ?_)
        | ((with_reducible first | refine vc_caseD (fun h => ?_) (fun h => ?_) | refine vc_caseN (fun h => ?_) (fun h => ?_)) <;> try (exfalso; omega))
        | ((with_reducible refine vc_case (fun h => ?_) (fun h => ?_)) <;> (try simp at h) <;> try (exfalso; omega))
        | (conv in Vc _ => arg 1; whnf
           first
            | (with_reducible refine vc_side0 ?_; rfl)
            | (with_reducible first
                | refine vc_true ?_ | refine vc_true2 ?_ | refine vc_side ?_ ?_ | refine vc_triv | refine vc_later ?_ | refine vc_caseT ?_ | refine vc_caseF ?_ | refine vc_cons ?_ | refine vc_nil ?_ ?_ | refine vc_seq ?_
                   | refine vc_region ?_ | refine vc_cond ?_ | refine vc_block ?_ | refine vc_retc ?_ | refine vc_exit ?_ | refine vc_skip ?_ | refine vc_scope ?_ | refine vc_label ?_ | refine vc_goto ?_ | refine vc_wkSl0
                   | refine vc_wkHp0 | refine vc_eqAVs0 | refine vc_preG0 | refine vc_wkSl ?_ ?_ | refine vc_wkHp ?_ ?_ | refine vc_eqAVs ?_ ?_ | refine vc_preG ?_ ?_ | refine vc_side0 ?_ | refine vc_weakf [] ?_ ?_ ?_
                   | refine vc_and ?_ ?_ | refine vc_ret [] [] ?_)
            | ((with_reducible first | refine vc_caseD (fun h => ?_) (fun h => ?_) | refine vc_caseN (fun h => ?_) (fun h => ?_)) <;> try (exfalso; omega))
            | ((with_reducible refine vc_case (fun h => ?_) (fun h => ?_)) <;> (try simp at h) <;> try (exfalso; omega))))
    all_goals rfl
  | false =>
    repeat' (first
        | ((with_reducible refine vc_chk ?_); first | decide +kernel | rfl)
        | (with_reducible refine vc_side0 ?_; rfl)
        | (with_reducible first
             | refine vc_true ?_ | refine vc_true2 ?_ | refine vc_side ?_ ?_ | refine vc_triv | refine vc_later ?_ | refine vc_caseT ?_ | refine vc_caseF ?_ | refine vc_cons ?_ | refine vc_nil ?_ ?_ | refine vc_seq ?_
                | refine vc_region ?_ | refine vc_cond ?_ | refine vc_block ?_ | refine vc_retc ?_ | refine vc_exit ?_ | refine vc_skip ?_ | refine vc_scope ?_ | refine vc_label ?_ | refine vc_goto ?_ | refine vc_wkSl0
                | refine vc_wkHp0 | refine vc_eqAVs0 | refine vc_preG0 | refine vc_wkSl ?_ ?_ | refine vc_wkHp ?_ ?_ | refine vc_eqAVs ?_ ?_ | refine vc_preG ?_ ?_ | refine vc_side0 ?_ | refine vc_weakf [] ?_ ?_ ?_
                | refine vc_and ?_ ?_ | refine vc_ret [] [] ?_)
        | ((with_reducible first | refine vc_caseD (fun h => ?_) (fun h => ?_) | refine vc_caseN (fun h => ?_) (fun h => ?_)) <;> try (exfalso; omega))
        | ((with_reducible refine vc_case (fun h => ?_) (fun h => ?_)) <;> (try simp at h) <;> try (exfalso; omega))
        | (conv in Vc _ => arg 1; whnf
           first
            | (with_reducible refine vc_side0 ?_; rfl)
            | (with_reducible first
                | refine vc_true ?_ | refine vc_true2 ?_ | refine vc_side ?_ ?_ | refine vc_triv | refine vc_later ?_ | refine vc_caseT ?_ | refine vc_caseF ?_ | refine vc_cons ?_ | refine vc_nil ?_ ?_ | refine vc_seq ?_
                   | refine vc_region ?_ | refine vc_cond ?_ | refine vc_block ?_ | refine vc_retc ?_ | refine vc_exit ?_ | refine vc_skip ?_ | refine vc_scope ?_ | refine vc_label ?_ | refine vc_goto ?_ | refine vc_wkSl0
                   | refine vc_wkHp0 | refine vc_eqAVs0 | refine vc_preG0 | refine vc_wkSl ?_ ?_ | refine vc_wkHp ?_ ?_ | refine vc_eqAVs ?_ ?_ | refine vc_preG ?_ ?_ | refine vc_side0 ?_ | refine vc_weakf [] ?_ ?_ ?_
                   | refine vc_and ?_ ?_ | refine vc_ret [] [] ?_)
            | ((with_reducible first | refine vc_caseD (fun h => ?_) (fun h => ?_) | refine vc_caseN (fun h => ?_) (fun h => ?_)) <;> try (exfalso; omega))
            | ((with_reducible refine vc_case (fun h => ?_) (fun h => ?_)) <;> (try simp at h) <;> try (exfalso; omega))))
    all_goals first
      | rfl
      | (congr 1; simp only [Bool.not_false, Bool.true_and]; rw [Bool.eq_iff_iff]; simp; omega)

/-- A digest's bytes, and what is not yet laid. -/
def padB (ts : List UInt8) (i : Nat) : List UInt8 := ts.take i ++ List.replicate (32 - i) 0

theorem padB_set {ts : List UInt8} {i : Nat} (h : i < ts.length) (h32 : i < 32) : ((padB ts i).map byteD).set i (byteD (ts.getD i 0)) = (padB ts (i + 1)).map byteD := by
  rw [← List.map_set]
  congr 1
  unfold padB
  rw [List.set_append_right _ _ (by rw [List.length_take]; omega), List.length_take, Nat.min_eq_left (by omega), Nat.sub_self]
  rw [show 32 - i = (32 - (i + 1)) + 1 by omega, List.replicate_succ, List.set_cons_zero, List.take_succ_eq_append_getElem h, List.getD_eq_getElem?_getD, List.getElem?_eq_getElem h, List.append_assoc]
  rfl

theorem padB_full {ts : List UInt8} (h : ts.length = 32) : padB ts 32 = ts := by
  unfold padB
  rw [List.take_of_length_le (by omega)]; simp

theorem padB_length {ts : List UInt8} {i : Nat} (h : i ≤ ts.length) (h32 : i ≤ 32) : (padB ts i).length = 32 := by
  unfold padB
  rw [List.length_append, List.length_take, List.length_replicate]; omega

def inD (bs : List UInt8) (k : Nat) : List UInt8 × Nat × Bool := let r := inK bs 32 k; (padB r.1 r.1.length, r.2)

theorem inDig_ok (B : List D) (bs : List UInt8) (hB : B = bs.map byteD) (k : Nat) (hk : k ≤ bs.length) (hl : bs.length < 2 ^ 63) (R : List UInt8 × Nat × Bool) (hR : inK bs 32 k = R) :
    LocalCall Try.prog 57 [.ptr 9 []] [(9, rIn B k false)] [] (one [.d (.arr 32 1 ((padB R.1 R.1.length).map byteD))]) [(9, rIn B R.2.1 R.2.2)] := by
  have hc := inTake_ok B bs hB 32 k (by omega) hk hl _ hR
  have h32 : R.1.length ≤ 32 := by
    rw [← hR]; unfold inK
    cases decide (k + 32 ≤ bs.length) with
    | true => simp only [cond_true, List.length_take]; omega
    | false => simp
  have hlm : (R.1.map byteD).length = R.1.length := List.length_map _
  have hget : ∀ i, i < R.1.length → (R.1.map byteD).getD i .nilp = byteD (R.1.getD i 0) := fun i hi => getD_byte hi
  refine vc_fn mixed Try.func57 rfl rfl [] (vc_chk rfl) ?_
  repeat' (first
      | ((with_reducible refine vc_chk ?_); first | decide +kernel | rfl)
      | (with_reducible refine vc_side0 ?_; rfl)
      | (with_reducible first
           | refine vc_true ?_ | refine vc_true2 ?_ | refine vc_side ?_ ?_ | refine vc_triv | refine vc_later ?_ | refine vc_caseT ?_ | refine vc_caseF ?_ | refine vc_cons ?_ | refine vc_nil ?_ ?_ | refine vc_seq ?_
              | refine vc_region ?_ | refine vc_cond ?_ | refine vc_block ?_ | refine vc_retc ?_ | refine vc_exit ?_ | refine vc_skip ?_ | refine vc_scope ?_ | refine vc_label ?_ | refine vc_goto ?_ | refine vc_wkSl0
              | refine vc_wkHp0 | refine vc_eqAVs0 | refine vc_preG0 | refine vc_wkSl ?_ ?_ | refine vc_wkHp ?_ ?_ | refine vc_eqAVs ?_ ?_ | refine vc_preG ?_ ?_ | refine vc_side0 ?_ | refine vc_call [] hc ?_
              | refine vc_loopI 21 (fun (i : Nat) => [(0, .ptr 9 []), (2, .ptr 1000 []), (3, .ptr 2000 []), (4, .d (.sl (R.1.map byteD))), (5, .d (.int .i64 (i : Int)))]) (fun i => [(9, rIn B R.2.1 R.2.2), (1000, .var (.d (.arr 32 1 (List.replicate 32 (.int .u8 0))))), (2000, .var (.d (.arr 32 1 ((padB R.1 i).map byteD))))]) (fun i => 32 - i) (fun i => i ≤ R.1.length) 0 [] ?_ ?_ ?_ ?_ ?_ (fun i hI => ?_)
              | refine vc_nextI (i + 1) [] ?_ ?_ ?_ ?_ ?_ ?_ | refine vc_weakf [] ?_ ?_ ?_ | refine vc_and ?_ ?_ | refine vc_ret [] [] ?_)
      | ((with_reducible first | refine vc_caseD (fun h => ?_) (fun h => ?_) | refine vc_caseN (fun h => ?_) (fun h => ?_)) <;> try (exfalso; omega))
      | ((with_reducible refine vc_case (fun h => ?_) (fun h => ?_)) <;> (try simp at h) <;> try (exfalso; omega))
      | (conv in Vc _ => arg 1; whnf
         first
          | (with_reducible refine vc_side0 ?_; rfl)
          | (with_reducible first
              | refine vc_true ?_ | refine vc_true2 ?_ | refine vc_side ?_ ?_ | refine vc_triv | refine vc_later ?_ | refine vc_caseT ?_ | refine vc_caseF ?_ | refine vc_cons ?_ | refine vc_nil ?_ ?_ | refine vc_seq ?_
                 | refine vc_region ?_ | refine vc_cond ?_ | refine vc_block ?_ | refine vc_retc ?_ | refine vc_exit ?_ | refine vc_skip ?_ | refine vc_scope ?_ | refine vc_label ?_ | refine vc_goto ?_ | refine vc_wkSl0
                 | refine vc_wkHp0 | refine vc_eqAVs0 | refine vc_preG0 | refine vc_wkSl ?_ ?_ | refine vc_wkHp ?_ ?_ | refine vc_eqAVs ?_ ?_ | refine vc_preG ?_ ?_ | refine vc_side0 ?_ | refine vc_call [] hc ?_
                 | refine vc_loopI 21 (fun (i : Nat) => [(0, .ptr 9 []), (2, .ptr 1000 []), (3, .ptr 2000 []), (4, .d (.sl (R.1.map byteD))), (5, .d (.int .i64 (i : Int)))]) (fun i => [(9, rIn B R.2.1 R.2.2), (1000, .var (.d (.arr 32 1 (List.replicate 32 (.int .u8 0))))), (2000, .var (.d (.arr 32 1 ((padB R.1 i).map byteD))))]) (fun i => 32 - i) (fun i => i ≤ R.1.length) 0 [] ?_ ?_ ?_ ?_ ?_ (fun i hI => ?_)
                 | refine vc_nextI (i + 1) [] ?_ ?_ ?_ ?_ ?_ ?_ | refine vc_weakf [] ?_ ?_ ?_ | refine vc_and ?_ ?_ | refine vc_ret [] [] ?_)
          | ((with_reducible first | refine vc_caseD (fun h => ?_) (fun h => ?_) | refine vc_caseN (fun h => ?_) (fun h => ?_)) <;> try (exfalso; omega))
          | ((with_reducible refine vc_case (fun h => ?_) (fun h => ?_)) <;> (try simp at h) <;> try (exfalso; omega))))
  all_goals (try simp only [Int.toNat_natCast])
  all_goals first
    | rfl
    | omega
    | (simp [padB]; rfl)
    | (rw [hget _ (by omega)]; exact ⟨⟨by omega, by omega⟩, rfl⟩)
    | (congr 1; rw [wrap64_id (by omega) (by omega)]; omega)
    | (rw [hget _ (by omega)]; exact congrArg (D.arr 32 1) (padB_set (by omega) (by omega)))
    | (obtain rfl : i = R.1.length := by omega
       rfl)

end Go.Proofs.Ytogncghpngmjpaa

/-
The reader's digests; the reference's reader, bad or not.
-/
set_option linter.unusedSimpArgs false
set_option linter.unusedVariables false
namespace Go.Proofs.Ytogncghpngmjpaa
open Go.Sym
set_option maxRecDepth 10000
set_option maxHeartbeats 1000000

theorem dig_read (B : List D) (bs : List UInt8) (hB : B = bs.map byteD) (k : Nat) (hk : k + 32 ≤ bs.length) (hl : bs.length < 2 ^ 63) :
    LocalCall Try.prog 55 [.ptr 9 []] [(9, rd B k)] [] (one [.d (.arr 32 1 (((bs.drop k).take 32).map byteD))]) [(9, rd B (k + 32))] := by
  have hl32 : ((bs.drop k).take 32).length = 32 := by rw [List.length_take, List.length_drop]; omega
  have hget : ∀ i, i < 32 → bs.getD (k + i) 0 = ((bs.drop k).take 32).getD i 0 := fun i hi => by
    rw [List.getD_eq_getElem?_getD, List.getD_eq_getElem?_getD, List.getElem?_take, if_pos hi, List.getElem?_drop]
  refine vc_fn mixed Try.func55 rfl rfl [] (vc_chk rfl) ?_
  repeat' (first
      | ((with_reducible refine vc_chk ?_); first | decide +kernel | rfl)
      | (with_reducible refine vc_side0 ?_; rfl)
      | (with_reducible first
           | refine vc_true ?_ | refine vc_true2 ?_ | refine vc_side ?_ ?_ | refine vc_triv | refine vc_later ?_ | refine vc_caseT ?_ | refine vc_caseF ?_ | refine vc_cons ?_ | refine vc_nil ?_ ?_ | refine vc_seq ?_
              | refine vc_region ?_ | refine vc_cond ?_ | refine vc_block ?_ | refine vc_retc ?_ | refine vc_exit ?_ | refine vc_skip ?_ | refine vc_scope ?_ | refine vc_label ?_ | refine vc_goto ?_ | refine vc_wkSl0
              | refine vc_wkHp0 | refine vc_eqAVs0 | refine vc_preG0 | refine vc_wkSl ?_ ?_ | refine vc_wkHp ?_ ?_ | refine vc_eqAVs ?_ ?_ | refine vc_preG ?_ ?_ | refine vc_side0 ?_
              | refine vc_loopI 14 (fun (i : Nat) => [(0, .ptr 9 []), (2, .ptr 1000 []), (3, .ptr 2000 []), (5, .d (.int .i64 (i : Int)))]) (fun i => [(9, rd B (k + i)), (1000, .var (.d (.arr 32 1 (List.replicate 32 (.int .u8 0))))), (2000, .var (.d (.arr 32 1 ((padB ((bs.drop k).take 32) i).map byteD))))]) (fun i => 32 - i) (fun i => i ≤ 32) 0 [] ?_ ?_ ?_ ?_ ?_ (fun i hI => ?_)
              | refine vc_call [] (byte_ok B bs hB (k + i) (by omega) hl _ (hget i (by omega))) ?_ | refine vc_nextI (i + 1) [] ?_ ?_ ?_ ?_ ?_ ?_ | refine vc_weakf [] ?_ ?_ ?_ | refine vc_and ?_ ?_ | refine vc_ret [] [] ?_)
      | ((with_reducible first | refine vc_caseD (fun h => ?_) (fun h => ?_) | refine vc_caseN (fun h => ?_) (fun h => ?_)) <;> try (exfalso; omega))
      | ((with_reducible refine vc_case (fun h => ?_) (fun h => ?_)) <;> (try simp at h) <;> try (exfalso; omega))
      | (conv in Vc _ => arg 1; whnf
         first
          | (with_reducible refine vc_side0 ?_; rfl)
          | (with_reducible first
              | refine vc_true ?_ | refine vc_true2 ?_ | refine vc_side ?_ ?_ | refine vc_triv | refine vc_later ?_ | refine vc_caseT ?_ | refine vc_caseF ?_ | refine vc_cons ?_ | refine vc_nil ?_ ?_ | refine vc_seq ?_
                 | refine vc_region ?_ | refine vc_cond ?_ | refine vc_block ?_ | refine vc_retc ?_ | refine vc_exit ?_ | refine vc_skip ?_ | refine vc_scope ?_ | refine vc_label ?_ | refine vc_goto ?_ | refine vc_wkSl0
                 | refine vc_wkHp0 | refine vc_eqAVs0 | refine vc_preG0 | refine vc_wkSl ?_ ?_ | refine vc_wkHp ?_ ?_ | refine vc_eqAVs ?_ ?_ | refine vc_preG ?_ ?_ | refine vc_side0 ?_
                 | refine vc_loopI 14 (fun (i : Nat) => [(0, .ptr 9 []), (2, .ptr 1000 []), (3, .ptr 2000 []), (5, .d (.int .i64 (i : Int)))]) (fun i => [(9, rd B (k + i)), (1000, .var (.d (.arr 32 1 (List.replicate 32 (.int .u8 0))))), (2000, .var (.d (.arr 32 1 ((padB ((bs.drop k).take 32) i).map byteD))))]) (fun i => 32 - i) (fun i => i ≤ 32) 0 [] ?_ ?_ ?_ ?_ ?_ (fun i hI => ?_)
                 | refine vc_call [] (byte_ok B bs hB (k + i) (by omega) hl _ (hget i (by omega))) ?_ | refine vc_nextI (i + 1) [] ?_ ?_ ?_ ?_ ?_ ?_ | refine vc_weakf [] ?_ ?_ ?_ | refine vc_and ?_ ?_ | refine vc_ret [] [] ?_)
          | ((with_reducible first | refine vc_caseD (fun h => ?_) (fun h => ?_) | refine vc_caseN (fun h => ?_) (fun h => ?_)) <;> try (exfalso; omega))
          | ((with_reducible refine vc_case (fun h => ?_) (fun h => ?_)) <;> (try simp at h) <;> try (exfalso; omega))))
  all_goals (try simp only [Int.toNat_natCast])
  all_goals first
    | rfl
    | omega
    | (simp [padB]; rfl)
    | (congr 1; rw [wrap64_id (by omega) (by omega)]; omega)
    | exact congrArg (D.arr 32 1) (padB_set (by omega) (by omega))
    | (obtain rfl : i = 32 := by omega
       rw [padB_full hl32]; done)
    | (obtain rfl : i = 32 := by omega
       rfl)

theorem dig_nread (B : List D) (bs : List UInt8) (hB : B = bs.map byteD) (k : Nat) (hk0 : k ≤ bs.length) (hk : ¬ k + 32 ≤ bs.length) (hl : bs.length < 2 ^ 63) :
    LocalPan Try.prog 55 [.ptr 9 []] [(9, rd B k)] [] fault [(9, .dead)] := by
  refine vc_fnPan mixed Try.func55 rfl rfl [] (vc_chk rfl) ?_
  repeat' (first
      | ((with_reducible refine vc_chk ?_); first | decide +kernel | rfl)
      | (with_reducible refine vc_side0 ?_; rfl)
      | (with_reducible first
           | refine vc_true ?_ | refine vc_true2 ?_ | refine vc_side ?_ ?_ | refine vc_triv | refine vc_later ?_ | refine vc_caseT ?_ | refine vc_caseF ?_ | refine vc_cons ?_ | refine vc_nil ?_ ?_ | refine vc_seq ?_
              | refine vc_region ?_ | refine vc_cond ?_ | refine vc_block ?_ | refine vc_retc ?_ | refine vc_exit ?_ | refine vc_skip ?_ | refine vc_scope ?_ | refine vc_label ?_ | refine vc_goto ?_ | refine vc_wkSl0
              | refine vc_wkHp0 | refine vc_eqAVs0 | refine vc_preG0 | refine vc_wkSl ?_ ?_ | refine vc_wkHp ?_ ?_ | refine vc_eqAVs ?_ ?_ | refine vc_preG ?_ ?_ | refine vc_side0 ?_
              | refine vc_loopI 14 (fun (i : Nat) => [(0, .ptr 9 []), (2, .ptr 1000 []), (3, .ptr 2000 []), (5, .d (.int .i64 (i : Int)))]) (fun i => [(9, rd B (k + i)), (1000, .var (.d (.arr 32 1 (List.replicate 32 (.int .u8 0))))), (2000, .var (.d (.arr 32 1 ((padB (bs.drop k) i).map byteD))))]) (fun i => 32 - i) (fun i => k + i ≤ bs.length) 0 [] ?_ ?_ ?_ ?_ ?_ (fun i hI => vc_by (k + i < bs.length) (fun hlt => ?_) (fun hge => ?_))
              | refine vc_call [] (byte_ok B bs hB (k + i) hlt hl _ rfl) ?_ | refine vc_pan [] (byte_pan B bs hB (k + i) hge) ?_ | refine vc_nextI (i + 1) [] ?_ ?_ ?_ ?_ ?_ ?_ | refine vc_panc [] [1000, 2000] ?_ ?_
              | refine vc_weakf [] ?_ ?_ ?_ | refine vc_and ?_ ?_ | refine vc_ret [] [] ?_)
      | ((with_reducible first | refine vc_caseD (fun h => ?_) (fun h => ?_) | refine vc_caseN (fun h => ?_) (fun h => ?_)) <;> try (exfalso; omega))
      | ((with_reducible refine vc_case (fun h => ?_) (fun h => ?_)) <;> (try simp at h) <;> try (exfalso; omega))
      | (conv in Vc _ => arg 1; whnf
         first
          | (with_reducible refine vc_side0 ?_; rfl)
          | (with_reducible first
              | refine vc_true ?_ | refine vc_true2 ?_ | refine vc_side ?_ ?_ | refine vc_triv | refine vc_later ?_ | refine vc_caseT ?_ | refine vc_caseF ?_ | refine vc_cons ?_ | refine vc_nil ?_ ?_ | refine vc_seq ?_
                 | refine vc_region ?_ | refine vc_cond ?_ | refine vc_block ?_ | refine vc_retc ?_ | refine vc_exit ?_ | refine vc_skip ?_ | refine vc_scope ?_ | refine vc_label ?_ | refine vc_goto ?_ | refine vc_wkSl0
                 | refine vc_wkHp0 | refine vc_eqAVs0 | refine vc_preG0 | refine vc_wkSl ?_ ?_ | refine vc_wkHp ?_ ?_ | refine vc_eqAVs ?_ ?_ | refine vc_preG ?_ ?_ | refine vc_side0 ?_
                 | refine vc_loopI 14 (fun (i : Nat) => [(0, .ptr 9 []), (2, .ptr 1000 []), (3, .ptr 2000 []), (5, .d (.int .i64 (i : Int)))]) (fun i => [(9, rd B (k + i)), (1000, .var (.d (.arr 32 1 (List.replicate 32 (.int .u8 0))))), (2000, .var (.d (.arr 32 1 ((padB (bs.drop k) i).map byteD))))]) (fun i => 32 - i) (fun i => k + i ≤ bs.length) 0 [] ?_ ?_ ?_ ?_ ?_ (fun i hI => vc_by (k + i < bs.length) (fun hlt => ?_) (fun hge => ?_))
                 | refine vc_call [] (byte_ok B bs hB (k + i) hlt hl _ rfl) ?_ | refine vc_pan [] (byte_pan B bs hB (k + i) hge) ?_ | refine vc_nextI (i + 1) [] ?_ ?_ ?_ ?_ ?_ ?_ | refine vc_panc [] [1000, 2000] ?_ ?_
                 | refine vc_weakf [] ?_ ?_ ?_ | refine vc_and ?_ ?_ | refine vc_ret [] [] ?_)
          | ((with_reducible first | refine vc_caseD (fun h => ?_) (fun h => ?_) | refine vc_caseN (fun h => ?_) (fun h => ?_)) <;> try (exfalso; omega))
          | ((with_reducible refine vc_case (fun h => ?_) (fun h => ?_)) <;> (try simp at h) <;> try (exfalso; omega))))
  all_goals (try simp only [Int.toNat_natCast])
  all_goals first
    | rfl
    | omega
    | (simp [padB]; rfl)
    | (congr 1; rw [wrap64_id (by omega) (by omega)]; omega)
    | (have e : bs.getD (k + i) 0 = (bs.drop k).getD i 0 := by rw [List.getD_eq_getElem?_getD, List.getD_eq_getElem?_getD, List.getElem?_drop]
       rw [e]
       exact congrArg (D.arr 32 1) (padB_set (by rw [List.length_drop]; omega) (by omega)))

def inNs (bs : List UInt8) (b : Bool) (k : Nat) : Nat × Nat × Bool := bif b then (0, k, true) else inN bs 10 k 0 0
def inCs (bs : List UInt8) (most : Nat) (b : Bool) (k : Nat) : Nat × Nat × Bool := bif b then (0, k, true) else inC bs most k
def inTs (bs : List UInt8) (b : Bool) (k : Nat) : List UInt8 × Nat × Bool := bif b then ([], k, true) else inT bs k

theorem inNum_any (B : List D) (bs : List UInt8) (hB : B = bs.map byteD) (k : Nat) (b : Bool) (hk : k ≤ bs.length) (hl : bs.length < 2 ^ 63) :
    LocalCall Try.prog 50 [.ptr 9 []] [(9, rIn B k b)] [] (one [.d (.int .u64 ((inNs bs b k).1 : Int))]) [(9, rIn B (inNs bs b k).2.1 (inNs bs b k).2.2)] := by
  cases b with
  | true => exact inNum_bad B k
  | false => exact inNum_ok B bs hB k hk hl _ rfl

theorem inText_any (B : List D) (bs : List UInt8) (hB : B = bs.map byteD) (k : Nat) (b : Bool) (hk : k ≤ bs.length) (hl : bs.length < 2 ^ 63) :
    LocalCall Try.prog 49 [.ptr 9 []] [(9, rIn B k b)] [] (one [.d (.sl ((inTs bs b k).1.map byteD))]) [(9, rIn B (inTs bs b k).2.1 (inTs bs b k).2.2)] := by
  cases b with
  | true => exact inText_bad B k
  | false => exact inText_ok B bs hB k hk hl _ rfl

theorem inK_le (bs : List UInt8) (n k : Nat) (h : k ≤ bs.length) : (inK bs n k).2.1 ≤ bs.length := by
  unfold inK
  by_cases hc : k + n ≤ bs.length
  · rw [decide_eq_true hc]; exact hc
  · rw [decide_eq_false hc]; exact h

theorem inNs_le (bs : List UInt8) (b : Bool) (k : Nat) (h : k ≤ bs.length) : (inNs bs b k).2.1 ≤ bs.length := by
  cases b with
  | true => exact h
  | false => exact inN_le bs 10 k 0 0 h

theorem inTs_le (bs : List UInt8) (b : Bool) (k : Nat) (h : k ≤ bs.length) : (inTs bs b k).2.1 ≤ bs.length := by
  cases b with
  | true => exact h
  | false =>
    have := inC_le bs 1048576 k h
    unfold inTs inT
    simp only [cond_false]
    cases (inC bs 1048576 k).2.2 with
    | true => exact this
    | false => exact inK_le bs _ _ this

def optT (r : List UInt8 × Nat × Bool) : Option (List UInt8 × Nat) := bif r.2.2 then none else some (r.1, r.2.1)

theorem inT_rdT (bs : List UInt8) (k : Nat) : rdT bs k = optT (inT bs k) := by
  unfold rdT inT
  have h := inC_rdC bs 1048576 k
  rw [show ((1048576 : Nat) : Int) = 1048576 from rfl] at h
  rw [h]
  rcases inC bs 1048576 k with ⟨v, e, b⟩
  cases b with
  | true => rfl
  | false =>
    simp only [optN, cond_false]
    unfold inK
    cases decide (e + v ≤ bs.length) <;> rfl

/-- The error's number of what was read. -/
def errI {α : Type} (o : Option α) : Int := if o = none then 3 else 0

theorem errI_none {α : Type} : errI (none : Option α) = 3 := rfl
theorem errI_some {α : Type} (x : α) : errI (some x) = 0 := rfl

end Go.Proofs.Ytogncghpngmjpaa

/-
Digests as data: what '==' says of them.
-/
set_option linter.unusedSimpArgs false
set_option linter.unusedVariables false
namespace Go.Proofs.Ytogncghpngmjpaa
open Go.Sym
set_option maxRecDepth 10000
set_option maxHeartbeats 1000000

theorem fits_dig (f : Nat) (a : List UInt8) : D.fits Try.prog (f + 2) 28 (.arr 32 1 (a.map byteD)) := by
  have hu : Try.prog.underlying 28 = some (.array 32 5) := rfl
  have hu2 : Try.prog.underlying 5 = some (.int .u8) := rfl
  simp only [D.fits, hu]
  refine ⟨trivial, rfl, rfl, fun y hy => ?_, fun y hy => ?_⟩
  · obtain ⟨c, _, rfl⟩ := List.mem_map.1 hy; rfl
  · obtain ⟨c, _, rfl⟩ := List.mem_map.1 hy
    simp only [hu2, byteD]

theorem beqs_bytes : ∀ a b : List UInt8, D.beqs (a.map byteD) (b.map byteD) = decide (a = b)
  | [], [] => rfl
  | [], _ :: _ => rfl
  | _ :: _, [] => rfl
  | x :: a, y :: b => by
    simp only [List.map_cons, D.beqs, beqs_bytes a b, byteD, D.beq, List.cons.injEq]
    rw [Bool.eq_iff_iff]
    simp only [Bool.and_eq_true, decide_eq_true_eq, beq_iff_eq]
    exact and_congr_left fun _ => ⟨fun h => UInt8.toNat_inj.1 (Int.ofNat_inj.1 h), fun h => by rw [h]⟩
theorem beq_dig (n e m f : Nat) (a b : List UInt8) : (D.arr n e (a.map byteD)).beq (.arr m f (b.map byteD)) = decide (a = b) := by
  simp only [D.beq]; exact beqs_bytes a b

end Go.Proofs.Ytogncghpngmjpaa

/-
The record layer: what the reader does, as an option says; names.
-/
set_option linter.unusedSimpArgs false
set_option linter.unusedVariables false
namespace Go.Proofs.Ytogncghpngmjpaa
open Go.Sym
set_option maxRecDepth 10000
set_option maxHeartbeats 1000000

theorem num_e (B : List D) (bs : List UInt8) (hB : B = bs.map byteD) (k : Nat) (hl : bs.length < 2 ^ 63) :
    LocalE (rdN bs 10 k 0 0) Try.prog 47 [.ptr 9 []] [(9, rd B k)] [] (fun a => [.d (.int .u64 (a.1 : Int))]) (fun a => [(9, rd B a.2)]) [] fault [(9, .dead)] :=
  ⟨fun a h => num_read B bs hB k a.1 a.2 h hl, fun h => num_nread B bs hB k h hl⟩

theorem count_e (B : List D) (bs : List UInt8) (hB : B = bs.map byteD) (most : Int) (k : Nat) (hm1 : -2 ^ 63 ≤ most) (hm2 : most < 2 ^ 63) (hl : bs.length < 2 ^ 63) :
    LocalE (rdC bs most k) Try.prog 54 [.ptr 9 [], .d (.int .i64 most)] [(9, rd B k)] [] (fun a => [.d (.int .i64 (a.1 : Int))]) (fun a => [(9, rd B a.2)]) [] fault [(9, .dead)] :=
  ⟨fun a h => count_ok B bs hB most k a.1 a.2 h hm2 hl, fun h => count_pan B bs hB most k h hm1 hm2 hl⟩

theorem text_e (B : List D) (bs : List UInt8) (hB : B = bs.map byteD) (k : Nat) (hl : bs.length < 2 ^ 63) :
    LocalE (rdT bs k) Try.prog 46 [.ptr 9 []] [(9, rd B k)] [] (fun a => [.d (.sl (a.1.map byteD))]) (fun a => [(9, rd B a.2)]) [] fault [(9, .dead)] :=
  ⟨fun a h => text_read B bs a.1 hB k a.2 h hl, fun h => text_nread B bs hB k h hl⟩

/-- A digest. -/
def rdG (bs : List UInt8) (k : Nat) : Option (List UInt8 × Nat) := bif decide (k + 32 ≤ bs.length) then some ((bs.drop k).take 32, k + 32) else none

theorem rdG_ok {bs d : List UInt8} {k e : Nat} (h : rdG bs k = some (d, e)) : k + 32 ≤ bs.length ∧ d = (bs.drop k).take 32 ∧ e = k + 32 := by
  unfold rdG at h
  by_cases hk : k + 32 ≤ bs.length
  · rw [decide_eq_true hk, cond_true] at h
    cases h; exact ⟨hk, rfl, rfl⟩
  · rw [decide_eq_false hk, cond_false] at h; cases h

theorem rdG_no {bs : List UInt8} {k : Nat} (h : rdG bs k = none) : ¬ k + 32 ≤ bs.length := fun hk => by
  unfold rdG at h
  rw [decide_eq_true hk, cond_true] at h; cases h

theorem dig_e (B : List D) (bs : List UInt8) (hB : B = bs.map byteD) (k : Nat) (hk : k ≤ bs.length) (hl : bs.length < 2 ^ 63) :
    LocalE (rdG bs k) Try.prog 55 [.ptr 9 []] [(9, rd B k)] [] (fun a => [.d (.arr 32 1 (a.1.map byteD))]) (fun a => [(9, rd B a.2)]) [] fault [(9, .dead)] := by
  refine ⟨fun a h => ?_, fun h => dig_nread B bs hB k hk (rdG_no h) hl⟩
  obtain ⟨h1, h2, h3⟩ := rdG_ok h
  rw [h2, h3]
  exact dig_read B bs hB k h1 hl

theorem rdT_le {bs ts : List UInt8} {k m : Nat} (h : rdT bs k = some (ts, m)) : m ≤ bs.length := by
  obtain ⟨n, e, _, h2, _, h4⟩ := rdT_ok h
  omega
theorem rdN_le2 {bs : List UInt8} {k v e : Nat} (h : rdN bs 10 k 0 0 = some (v, e)) : e ≤ bs.length := (rdN_le bs _ _ _ _ _ _ h).2
theorem rdC_le {bs : List UInt8} {most : Int} {k v e : Nat} (h : rdC bs most k = some (v, e)) : e ≤ bs.length := rdN_le2 (rdC_ok h).1
theorem rdG_le {bs ts : List UInt8} {k m : Nat} (h : rdG bs k = some (ts, m)) : m ≤ bs.length := by
  obtain ⟨h1, _, h3⟩ := rdG_ok h
  omega

/-! ### Names -/

def okC (c : UInt8) : Prop := (97 ≤ c.toNat ∧ c.toNat ≤ 122) ∨ (48 ≤ c.toNat ∧ c.toNat ≤ 57) ∨ c.toNat = 46 ∨ c.toNat = 45
instance (c : UInt8) : Decidable (okC c) := by unfold okC; exact inferInstance

def nameB (n : List UInt8) : Bool := n.all (fun c => decide (okC c)) && decide (0 < n.length ∧ n.length ≤ 32)

theorem nameB_no {n : List UInt8} {i : Nat} (hi : i < n.length) (h : ¬ okC (n.getD i 0)) : nameB n = false := by
  unfold nameB
  rw [Bool.and_eq_false_iff]
  left
  rw [Bool.eq_false_iff]
  intro ha
  rw [List.getD_eq_getElem?_getD, List.getElem?_eq_getElem hi] at h
  exact h (of_decide_eq_true (List.all_eq_true.1 ha n[i] (List.getElem_mem hi)))

theorem nameB_len {n : List UInt8} (h : ¬ (0 < n.length ∧ n.length ≤ 32)) : nameB n = false := by
  unfold nameB
  rw [decide_eq_false h, Bool.and_false]

theorem nameB_yes {n : List UInt8} {i : Nat} (hi : n.length ≤ i) (h : ∀ j, j < i → j < n.length → okC (n.getD j 0)) (hl : 0 < n.length ∧ n.length ≤ 32) : nameB n = true := by
  unfold nameB
  rw [decide_eq_true hl, Bool.and_true, List.all_eq_true]
  intro c hc
  obtain ⟨j, hj, rfl⟩ := List.mem_iff_getElem.1 hc
  have := h j (by omega) hj
  rw [List.getD_eq_getElem?_getD, List.getElem?_eq_getElem hj] at this
  exact decide_eq_true this

abbrev strD (n : List UInt8) : D := .str ⟨n.toArray⟩

theorem str_get (n : List UInt8) (i : Nat) : (⟨n.toArray⟩ : ByteArray).data.toList.getD i 0 = n.getD i 0 := rfl
theorem str_size (n : List UInt8) : (⟨n.toArray⟩ : ByteArray).size = n.length := rfl

theorem str_list (n : List UInt8) : (⟨n.toArray⟩ : ByteArray).toList = n := by rw [ByteArray.toList_eq]
theorem str_nil : (⟨#[]⟩ : ByteArray).toList = [] := str_list []

theorem upTo {n : List UInt8} {i : Nat} (h : ∀ j, j < i → j < n.length → okC (n.getD j 0)) (hn : okC (n.getD i 0)) : ∀ j, j < i + 1 → j < n.length → okC (n.getD j 0) := fun j hj hl => by
  rcases Nat.lt_or_ge j i with h1 | h1
  · exact h j h1 hl
  · obtain rfl : j = i := by omega
    exact hn

theorem name_ok (n : List UInt8) (hl : n.length < 2 ^ 63) : LocalCall Try.prog 36 [.d (strD n)] [] [] (one [.d (.bool (nameB n))]) [] := by
  refine vc_fn mixed Try.func36 rfl rfl [] (vc_chk rfl) ?_
  repeat' (first
      | ((with_reducible refine vc_chk ?_); first | decide +kernel | rfl)
      | (with_reducible refine vc_side0 ?_; rfl)
      | (with_reducible first
           | refine vc_true ?_ | refine vc_true2 ?_ | refine vc_side ?_ ?_ | refine vc_triv | refine vc_later ?_ | refine vc_caseT ?_ | refine vc_caseF ?_ | refine vc_cons ?_ | refine vc_nil ?_ ?_ | refine vc_seq ?_
              | refine vc_region ?_ | refine vc_cond ?_ | refine vc_block ?_ | refine vc_retc ?_ | refine vc_exit ?_ | refine vc_skip ?_ | refine vc_scope ?_ | refine vc_label ?_ | refine vc_goto ?_ | refine vc_wkSl0
              | refine vc_wkHp0 | refine vc_eqAVs0 | refine vc_preG0 | refine vc_wkSl ?_ ?_ | refine vc_wkHp ?_ ?_ | refine vc_eqAVs ?_ ?_ | refine vc_preG ?_ ?_ | refine vc_side0 ?_
              | refine vc_loopI 44 (fun (i : Nat) => [(0, .d (strD n)), (3, .d (.int .i64 (i : Int)))]) (fun _ => []) (fun i => n.length - i) (fun i => i ≤ n.length ∧ ∀ j, j < i → j < n.length → okC (n.getD j 0)) 0 [] ?_ ?_ ?_ ?_ ?_ (fun i hI => ?_)
              | refine vc_nextI (i + 1) [] ?_ ?_ ?_ ?_ ?_ ?_ | refine vc_weakf [] ?_ ?_ ?_ | refine vc_and ?_ ?_ | refine vc_ret [] [] ?_)
      | ((with_reducible first | refine vc_caseD (fun h => ?_) (fun h => ?_) | refine vc_caseN (fun h => ?_) (fun h => ?_)) <;> try (exfalso; omega))
      | ((with_reducible refine vc_case (fun h => ?_) (fun h => ?_)) <;> (try simp only [Bool.cond_true_left, Bool.cond_false_right, Bool.cond_true_right, Bool.cond_false_left, Bool.and_eq_true, Bool.or_eq_true, Bool.and_eq_false_iff, Bool.or_eq_false_iff, Bool.not_eq_true', Bool.not_eq_false', Bool.not_eq_true, Bool.not_eq_false, Bool.not_not, decide_eq_true_eq, decide_eq_false_iff_not, beq_iff_eq, beq_eq_false_iff_ne, bne_iff_ne, bne_eq_false_iff_eq, ne_eq, Classical.not_not, reduceCtorEq, false_or, or_false, true_and, and_true, Bool.false_eq_true, Bool.true_eq_false] at h) <;> try (exfalso; first | omega | (simp at h; done)))
      | (conv in Vc _ => arg 1; whnf
         first
          | (with_reducible refine vc_side0 ?_; rfl)
          | (with_reducible first
              | refine vc_true ?_ | refine vc_true2 ?_ | refine vc_side ?_ ?_ | refine vc_triv | refine vc_later ?_ | refine vc_caseT ?_ | refine vc_caseF ?_ | refine vc_cons ?_ | refine vc_nil ?_ ?_ | refine vc_seq ?_
                 | refine vc_region ?_ | refine vc_cond ?_ | refine vc_block ?_ | refine vc_retc ?_ | refine vc_exit ?_ | refine vc_skip ?_ | refine vc_scope ?_ | refine vc_label ?_ | refine vc_goto ?_ | refine vc_wkSl0
                 | refine vc_wkHp0 | refine vc_eqAVs0 | refine vc_preG0 | refine vc_wkSl ?_ ?_ | refine vc_wkHp ?_ ?_ | refine vc_eqAVs ?_ ?_ | refine vc_preG ?_ ?_ | refine vc_side0 ?_
                 | refine vc_loopI 44 (fun (i : Nat) => [(0, .d (strD n)), (3, .d (.int .i64 (i : Int)))]) (fun _ => []) (fun i => n.length - i) (fun i => i ≤ n.length ∧ ∀ j, j < i → j < n.length → okC (n.getD j 0)) 0 [] ?_ ?_ ?_ ?_ ?_ (fun i hI => ?_)
                 | refine vc_nextI (i + 1) [] ?_ ?_ ?_ ?_ ?_ ?_ | refine vc_weakf [] ?_ ?_ ?_ | refine vc_and ?_ ?_ | refine vc_ret [] [] ?_)
          | ((with_reducible first | refine vc_caseD (fun h => ?_) (fun h => ?_) | refine vc_caseN (fun h => ?_) (fun h => ?_)) <;> try (exfalso; omega))
          | ((with_reducible refine vc_case (fun h => ?_) (fun h => ?_)) <;> (try simp only [Bool.cond_true_left, Bool.cond_false_right, Bool.cond_true_right, Bool.cond_false_left, Bool.and_eq_true, Bool.or_eq_true, Bool.and_eq_false_iff, Bool.or_eq_false_iff, Bool.not_eq_true', Bool.not_eq_false', Bool.not_eq_true, Bool.not_eq_false, Bool.not_not, decide_eq_true_eq, decide_eq_false_iff_not, beq_iff_eq, beq_eq_false_iff_ne, bne_iff_ne, bne_eq_false_iff_eq, ne_eq, Classical.not_not, reduceCtorEq, false_or, or_false, true_and, and_true, Bool.false_eq_true, Bool.true_eq_false] at h) <;> try (exfalso; first | omega | (simp at h; done)))))
  all_goals (try simp only [str_size, str_get, Int.toNat_natCast] at *)
  all_goals first
    | rfl
    | exact ⟨Nat.zero_le _, fun j hj => absurd hj (Nat.not_lt_zero j)⟩
    | omega
    | (refine ⟨by omega, upTo hI.2 ?_⟩; unfold okC; omega)
    | (rw [nameB_no (i := i) (by omega) (by unfold okC; omega)]; done)
    | (congr 1; rw [wrap64_id (by omega) (by omega)]; rfl)
    | (simp only [str_list, str_nil] at h
       first
       | (rw [nameB_len (by rw [h]; decide)]; done)
       | (have h0 := List.length_pos_iff.2 h
          by_cases hq : n.length ≤ 32
          · rw [nameB_yes (i := i) (by omega) hI.2 (by omega), decide_eq_true (by omega)]; rfl
          · rw [nameB_len (by omega), decide_eq_false (by omega)]; rfl))

theorem rName_ok (n : List UInt8) (hl : n.length < 2 ^ 63) : LocalCall Try.prog 37 [.d (strD n)] [] [] (one [.d (.bool (nameB n))]) [] := by
  refine vc_fn mixed Try.func37 rfl rfl [] (vc_chk rfl) ?_
  repeat' (first
      | ((with_reducible refine vc_chk ?_); first | decide +kernel | rfl)
      | (with_reducible refine vc_side0 ?_; rfl)
      | (with_reducible first
           | refine vc_true ?_ | refine vc_true2 ?_ | refine vc_side ?_ ?_ | refine vc_triv | refine vc_later ?_ | refine vc_caseT ?_ | refine vc_caseF ?_ | refine vc_cons ?_ | refine vc_nil ?_ ?_ | refine vc_seq ?_
              | refine vc_region ?_ | refine vc_cond ?_ | refine vc_block ?_ | refine vc_retc ?_ | refine vc_exit ?_ | refine vc_skip ?_ | refine vc_scope ?_ | refine vc_label ?_ | refine vc_goto ?_ | refine vc_wkSl0
              | refine vc_wkHp0 | refine vc_eqAVs0 | refine vc_preG0 | refine vc_wkSl ?_ ?_ | refine vc_wkHp ?_ ?_ | refine vc_eqAVs ?_ ?_ | refine vc_preG ?_ ?_ | refine vc_side0 ?_
              | refine vc_loopI 50 (fun (i : Nat) => [(0, .d (strD n)), (3, .d (.int .i64 (i : Int)))]) (fun _ => []) (fun i => n.length - i) (fun i => i ≤ n.length ∧ ∀ j, j < i → j < n.length → okC (n.getD j 0)) 0 [] ?_ ?_ ?_ ?_ ?_ (fun i hI => ?_)
              | refine vc_nextI (i + 1) [] ?_ ?_ ?_ ?_ ?_ ?_ | refine vc_weakf [] ?_ ?_ ?_ | refine vc_and ?_ ?_ | refine vc_ret [] [] ?_)
      | ((with_reducible first | refine vc_caseD (fun h => ?_) (fun h => ?_) | refine vc_caseN (fun h => ?_) (fun h => ?_)) <;> try (exfalso; omega))
      | ((with_reducible refine vc_case (fun h => ?_) (fun h => ?_)) <;> (try simp only [Bool.cond_true_left, Bool.cond_false_right, Bool.cond_true_right, Bool.cond_false_left, Bool.and_eq_true, Bool.or_eq_true, Bool.and_eq_false_iff, Bool.or_eq_false_iff, Bool.not_eq_true', Bool.not_eq_false', Bool.not_eq_true, Bool.not_eq_false, Bool.not_not, decide_eq_true_eq, decide_eq_false_iff_not, beq_iff_eq, beq_eq_false_iff_ne, bne_iff_ne, bne_eq_false_iff_eq, ne_eq, Classical.not_not, reduceCtorEq, false_or, or_false, true_and, and_true, Bool.false_eq_true, Bool.true_eq_false] at h) <;> try (exfalso; first | omega | (simp at h; done)))
      | (conv in Vc _ => arg 1; whnf
         first
          | (with_reducible refine vc_side0 ?_; rfl)
          | (with_reducible first
              | refine vc_true ?_ | refine vc_true2 ?_ | refine vc_side ?_ ?_ | refine vc_triv | refine vc_later ?_ | refine vc_caseT ?_ | refine vc_caseF ?_ | refine vc_cons ?_ | refine vc_nil ?_ ?_ | refine vc_seq ?_
                 | refine vc_region ?_ | refine vc_cond ?_ | refine vc_block ?_ | refine vc_retc ?_ | refine vc_exit ?_ | refine vc_skip ?_ | refine vc_scope ?_ | refine vc_label ?_ | refine vc_goto ?_ | refine vc_wkSl0
                 | refine vc_wkHp0 | refine vc_eqAVs0 | refine vc_preG0 | refine vc_wkSl ?_ ?_ | refine vc_wkHp ?_ ?_ | refine vc_eqAVs ?_ ?_ | refine vc_preG ?_ ?_ | refine vc_side0 ?_
                 | refine vc_loopI 50 (fun (i : Nat) => [(0, .d (strD n)), (3, .d (.int .i64 (i : Int)))]) (fun _ => []) (fun i => n.length - i) (fun i => i ≤ n.length ∧ ∀ j, j < i → j < n.length → okC (n.getD j 0)) 0 [] ?_ ?_ ?_ ?_ ?_ (fun i hI => ?_)
                 | refine vc_nextI (i + 1) [] ?_ ?_ ?_ ?_ ?_ ?_ | refine vc_weakf [] ?_ ?_ ?_ | refine vc_and ?_ ?_ | refine vc_ret [] [] ?_)
          | ((with_reducible first | refine vc_caseD (fun h => ?_) (fun h => ?_) | refine vc_caseN (fun h => ?_) (fun h => ?_)) <;> try (exfalso; omega))
          | ((with_reducible refine vc_case (fun h => ?_) (fun h => ?_)) <;> (try simp only [Bool.cond_true_left, Bool.cond_false_right, Bool.cond_true_right, Bool.cond_false_left, Bool.and_eq_true, Bool.or_eq_true, Bool.and_eq_false_iff, Bool.or_eq_false_iff, Bool.not_eq_true', Bool.not_eq_false', Bool.not_eq_true, Bool.not_eq_false, Bool.not_not, decide_eq_true_eq, decide_eq_false_iff_not, beq_iff_eq, beq_eq_false_iff_ne, bne_iff_ne, bne_eq_false_iff_eq, ne_eq, Classical.not_not, reduceCtorEq, false_or, or_false, true_and, and_true, Bool.false_eq_true, Bool.true_eq_false] at h) <;> try (exfalso; first | omega | (simp at h; done)))))
  all_goals (try simp only [str_size, str_get, Int.toNat_natCast] at *)
  all_goals first
    | rfl
    | exact ⟨Nat.zero_le _, fun j hj => absurd hj (Nat.not_lt_zero j)⟩
    | omega
    | (refine ⟨by omega, upTo hI.2 ?_⟩; unfold okC; omega)
    | (rw [nameB_no (i := i) (by omega) (by unfold okC; omega)]; done)
    | (rw [nameB_len (by omega)]; done)
    | (rw [nameB_yes (i := i) (by omega) hI.2 (by omega)]; done)
    | (congr 1; rw [wrap64_id (by omega) (by omega)]; rfl)
    | skip

/-- A binding. -/
structure Bnd where
  name : List UInt8
  key : List UInt8
  serial : Nat

abbrev bD (b : Bnd) : D := .st [strD b.name, .sl (b.key.map byteD), .int .u64 (b.serial : Int)]
def b0 : Bnd := ⟨[], [], 0⟩

/-- What is wrong with a name and a key. -/
def checkI (n k : List UInt8) : Int := bif nameB n then (bif decide (k.length = 0 ∨ 64 < k.length) then 5 else 0) else 4

theorem check_ok (b : Bnd) (hl : b.name.length < 2 ^ 63) : LocalCall Try.prog 9 [.d (bD b)] [] [] (one [.d (.int .i64 (checkI b.name b.key))]) [] := by
  have hn := name_ok b.name hl
  unfold checkI
  refine vc_fn mixed Try.func9 rfl rfl [] (vc_chk rfl) ?_
  cases hq : nameB b.name <;> rw [hq] at hn
  · skip
    repeat' (first
        | ((with_reducible refine vc_chk ?_); first | decide +kernel | rfl)
        | (with_reducible refine vc_side0 ?_; rfl)
        | (with_reducible first
             | refine vc_true ?_ | refine vc_true2 ?_ | refine vc_side ?_ ?_ | refine vc_triv | refine vc_later ?_ | refine vc_caseT ?_ | refine vc_caseF ?_ | refine vc_cons ?_ | refine vc_nil ?_ ?_ | refine vc_seq ?_
                | refine vc_region ?_ | refine vc_cond ?_ | refine vc_block ?_ | refine vc_retc ?_ | refine vc_exit ?_ | refine vc_skip ?_ | refine vc_scope ?_ | refine vc_label ?_ | refine vc_goto ?_ | refine vc_wkSl0
                | refine vc_wkHp0 | refine vc_eqAVs0 | refine vc_preG0 | refine vc_wkSl ?_ ?_ | refine vc_wkHp ?_ ?_ | refine vc_eqAVs ?_ ?_ | refine vc_preG ?_ ?_ | refine vc_side0 ?_ | refine vc_pure hn ?_ ?_ ?_
                | refine vc_weakf [] ?_ ?_ ?_ | refine vc_and ?_ ?_ | refine vc_ret [] [] ?_)
        | ((with_reducible first | refine vc_caseD (fun h => ?_) (fun h => ?_) | refine vc_caseN (fun h => ?_) (fun h => ?_)) <;> try (exfalso; omega))
        | ((with_reducible refine vc_case (fun h => ?_) (fun h => ?_)) <;> (try simp only [Bool.cond_true_left, Bool.cond_false_right, Bool.cond_true_right, Bool.cond_false_left, Bool.and_eq_true, Bool.or_eq_true, Bool.and_eq_false_iff, Bool.or_eq_false_iff, Bool.not_eq_true', Bool.not_eq_false', Bool.not_eq_true, Bool.not_eq_false, Bool.not_not, decide_eq_true_eq, decide_eq_false_iff_not, beq_iff_eq, beq_eq_false_iff_ne, bne_iff_ne, bne_eq_false_iff_eq, ne_eq, Classical.not_not, reduceCtorEq, false_or, or_false, true_and, and_true, Bool.false_eq_true, Bool.true_eq_false] at h) <;> try (exfalso; first | omega | (simp at h; done)))
        | (conv in Vc _ => arg 1; whnf
           first
            | (with_reducible refine vc_side0 ?_; rfl)
            | (with_reducible first
                | refine vc_true ?_ | refine vc_true2 ?_ | refine vc_side ?_ ?_ | refine vc_triv | refine vc_later ?_ | refine vc_caseT ?_ | refine vc_caseF ?_ | refine vc_cons ?_ | refine vc_nil ?_ ?_ | refine vc_seq ?_
                   | refine vc_region ?_ | refine vc_cond ?_ | refine vc_block ?_ | refine vc_retc ?_ | refine vc_exit ?_ | refine vc_skip ?_ | refine vc_scope ?_ | refine vc_label ?_ | refine vc_goto ?_ | refine vc_wkSl0
                   | refine vc_wkHp0 | refine vc_eqAVs0 | refine vc_preG0 | refine vc_wkSl ?_ ?_ | refine vc_wkHp ?_ ?_ | refine vc_eqAVs ?_ ?_ | refine vc_preG ?_ ?_ | refine vc_side0 ?_ | refine vc_pure hn ?_ ?_ ?_
                   | refine vc_weakf [] ?_ ?_ ?_ | refine vc_and ?_ ?_ | refine vc_ret [] [] ?_)
            | ((with_reducible first | refine vc_caseD (fun h => ?_) (fun h => ?_) | refine vc_caseN (fun h => ?_) (fun h => ?_)) <;> try (exfalso; omega))
            | ((with_reducible refine vc_case (fun h => ?_) (fun h => ?_)) <;> (try simp only [Bool.cond_true_left, Bool.cond_false_right, Bool.cond_true_right, Bool.cond_false_left, Bool.and_eq_true, Bool.or_eq_true, Bool.and_eq_false_iff, Bool.or_eq_false_iff, Bool.not_eq_true', Bool.not_eq_false', Bool.not_eq_true, Bool.not_eq_false, Bool.not_not, decide_eq_true_eq, decide_eq_false_iff_not, beq_iff_eq, beq_eq_false_iff_ne, bne_iff_ne, bne_eq_false_iff_eq, ne_eq, Classical.not_not, reduceCtorEq, false_or, or_false, true_and, and_true, Bool.false_eq_true, Bool.true_eq_false] at h) <;> try (exfalso; first | omega | (simp at h; done)))))
    all_goals rfl
  · skip
    repeat' (first
        | ((with_reducible refine vc_chk ?_); first | decide +kernel | rfl)
        | (with_reducible refine vc_side0 ?_; rfl)
        | (with_reducible first
             | refine vc_true ?_ | refine vc_true2 ?_ | refine vc_side ?_ ?_ | refine vc_triv | refine vc_later ?_ | refine vc_caseT ?_ | refine vc_caseF ?_ | refine vc_cons ?_ | refine vc_nil ?_ ?_ | refine vc_seq ?_
                | refine vc_region ?_ | refine vc_cond ?_ | refine vc_block ?_ | refine vc_retc ?_ | refine vc_exit ?_ | refine vc_skip ?_ | refine vc_scope ?_ | refine vc_label ?_ | refine vc_goto ?_ | refine vc_wkSl0
                | refine vc_wkHp0 | refine vc_eqAVs0 | refine vc_preG0 | refine vc_wkSl ?_ ?_ | refine vc_wkHp ?_ ?_ | refine vc_eqAVs ?_ ?_ | refine vc_preG ?_ ?_ | refine vc_side0 ?_ | refine vc_pure hn ?_ ?_ ?_
                | refine vc_weakf [] ?_ ?_ ?_ | refine vc_and ?_ ?_ | refine vc_ret [] [] ?_)
        | ((with_reducible first | refine vc_caseD (fun h => ?_) (fun h => ?_) | refine vc_caseN (fun h => ?_) (fun h => ?_)) <;> try (exfalso; omega))
        | ((with_reducible refine vc_case (fun h => ?_) (fun h => ?_)) <;> (try simp only [Bool.cond_true_left, Bool.cond_false_right, Bool.cond_true_right, Bool.cond_false_left, Bool.and_eq_true, Bool.or_eq_true, Bool.and_eq_false_iff, Bool.or_eq_false_iff, Bool.not_eq_true', Bool.not_eq_false', Bool.not_eq_true, Bool.not_eq_false, Bool.not_not, decide_eq_true_eq, decide_eq_false_iff_not, beq_iff_eq, beq_eq_false_iff_ne, bne_iff_ne, bne_eq_false_iff_eq, ne_eq, Classical.not_not, reduceCtorEq, false_or, or_false, true_and, and_true, Bool.false_eq_true, Bool.true_eq_false] at h) <;> try (exfalso; first | omega | (simp at h; done)))
        | (conv in Vc _ => arg 1; whnf
           first
            | (with_reducible refine vc_side0 ?_; rfl)
            | (with_reducible first
                | refine vc_true ?_ | refine vc_true2 ?_ | refine vc_side ?_ ?_ | refine vc_triv | refine vc_later ?_ | refine vc_caseT ?_ | refine vc_caseF ?_ | refine vc_cons ?_ | refine vc_nil ?_ ?_ | refine vc_seq ?_
                   | refine vc_region ?_ | refine vc_cond ?_ | refine vc_block ?_ | refine vc_retc ?_ | refine vc_exit ?_ | refine vc_skip ?_ | refine vc_scope ?_ | refine vc_label ?_ | refine vc_goto ?_ | refine vc_wkSl0
                   | refine vc_wkHp0 | refine vc_eqAVs0 | refine vc_preG0 | refine vc_wkSl ?_ ?_ | refine vc_wkHp ?_ ?_ | refine vc_eqAVs ?_ ?_ | refine vc_preG ?_ ?_ | refine vc_side0 ?_ | refine vc_pure hn ?_ ?_ ?_
                   | refine vc_weakf [] ?_ ?_ ?_ | refine vc_and ?_ ?_ | refine vc_ret [] [] ?_)
            | ((with_reducible first | refine vc_caseD (fun h => ?_) (fun h => ?_) | refine vc_caseN (fun h => ?_) (fun h => ?_)) <;> try (exfalso; omega))
            | ((with_reducible refine vc_case (fun h => ?_) (fun h => ?_)) <;> (try simp only [Bool.cond_true_left, Bool.cond_false_right, Bool.cond_true_right, Bool.cond_false_left, Bool.and_eq_true, Bool.or_eq_true, Bool.and_eq_false_iff, Bool.or_eq_false_iff, Bool.not_eq_true', Bool.not_eq_false', Bool.not_eq_true, Bool.not_eq_false, Bool.not_not, decide_eq_true_eq, decide_eq_false_iff_not, beq_iff_eq, beq_eq_false_iff_ne, bne_iff_ne, bne_eq_false_iff_eq, ne_eq, Classical.not_not, reduceCtorEq, false_or, or_false, true_and, and_true, Bool.false_eq_true, Bool.true_eq_false] at h) <;> try (exfalso; first | omega | (simp at h; done)))))
    all_goals (try simp only [List.length_map, cond_true] at *)
    all_goals first
      | rfl
      | (rw [decide_eq_true (by omega)]; rfl)
      | (rw [decide_eq_false (by omega)]; rfl)
      | skip

theorem check_at (n k : List UInt8) (s : Nat) (hl : n.length < 2 ^ 63) : LocalCall Try.prog 9 [.d (.st [.str ⟨n.toArray⟩, .sl (k.map byteD), .int .u64 (s : Int)])] [] [] (one [.d (.int .i64 (checkI n k))]) [] := check_ok ⟨n, k, s⟩ hl

theorem rCheck_ok (n k : List UInt8) (hl : n.length < 2 ^ 63) : LocalCall Try.prog 10 [.d (strD n), .d (.sl (k.map byteD))] [] [] (one [.d (.int .i64 (checkI n k))]) [] := by
  have hn := rName_ok n hl
  unfold checkI
  refine vc_fn mixed Try.func10 rfl rfl [] (vc_chk rfl) ?_
  cases hq : nameB n <;> rw [hq] at hn
  · skip
    repeat' (first
        | ((with_reducible refine vc_chk ?_); first | decide +kernel | rfl)
        | (with_reducible refine vc_side0 ?_; rfl)
        | (with_reducible first
             | refine vc_true ?_ | refine vc_true2 ?_ | refine vc_side ?_ ?_ | refine vc_triv | refine vc_later ?_ | refine vc_caseT ?_ | refine vc_caseF ?_ | refine vc_cons ?_ | refine vc_nil ?_ ?_ | refine vc_seq ?_
                | refine vc_region ?_ | refine vc_cond ?_ | refine vc_block ?_ | refine vc_retc ?_ | refine vc_exit ?_ | refine vc_skip ?_ | refine vc_scope ?_ | refine vc_label ?_ | refine vc_goto ?_ | refine vc_wkSl0
                | refine vc_wkHp0 | refine vc_eqAVs0 | refine vc_preG0 | refine vc_wkSl ?_ ?_ | refine vc_wkHp ?_ ?_ | refine vc_eqAVs ?_ ?_ | refine vc_preG ?_ ?_ | refine vc_side0 ?_ | refine vc_pure hn ?_ ?_ ?_
                | refine vc_weakf [] ?_ ?_ ?_ | refine vc_and ?_ ?_ | refine vc_ret [] [] ?_)
        | ((with_reducible first | refine vc_caseD (fun h => ?_) (fun h => ?_) | refine vc_caseN (fun h => ?_) (fun h => ?_)) <;> try (exfalso; omega))
        | ((with_reducible refine vc_case (fun h => ?_) (fun h => ?_)) <;> (try simp only [Bool.cond_true_left, Bool.cond_false_right, Bool.cond_true_right, Bool.cond_false_left, Bool.and_eq_true, Bool.or_eq_true, Bool.and_eq_false_iff, Bool.or_eq_false_iff, Bool.not_eq_true', Bool.not_eq_false', Bool.not_eq_true, Bool.not_eq_false, Bool.not_not, decide_eq_true_eq, decide_eq_false_iff_not, beq_iff_eq, beq_eq_false_iff_ne, bne_iff_ne, bne_eq_false_iff_eq, ne_eq, Classical.not_not, reduceCtorEq, false_or, or_false, true_and, and_true, Bool.false_eq_true, Bool.true_eq_false] at h) <;> try (exfalso; first | omega | (simp at h; done)))
        | (conv in Vc _ => arg 1; whnf
           first
            | (with_reducible refine vc_side0 ?_; rfl)
            | (with_reducible first
                | refine vc_true ?_ | refine vc_true2 ?_ | refine vc_side ?_ ?_ | refine vc_triv | refine vc_later ?_ | refine vc_caseT ?_ | refine vc_caseF ?_ | refine vc_cons ?_ | refine vc_nil ?_ ?_ | refine vc_seq ?_
                   | refine vc_region ?_ | refine vc_cond ?_ | refine vc_block ?_ | refine vc_retc ?_ | refine vc_exit ?_ | refine vc_skip ?_ | refine vc_scope ?_ | refine vc_label ?_ | refine vc_goto ?_ | refine vc_wkSl0
                   | refine vc_wkHp0 | refine vc_eqAVs0 | refine vc_preG0 | refine vc_wkSl ?_ ?_ | refine vc_wkHp ?_ ?_ | refine vc_eqAVs ?_ ?_ | refine vc_preG ?_ ?_ | refine vc_side0 ?_ | refine vc_pure hn ?_ ?_ ?_
                   | refine vc_weakf [] ?_ ?_ ?_ | refine vc_and ?_ ?_ | refine vc_ret [] [] ?_)
            | ((with_reducible first | refine vc_caseD (fun h => ?_) (fun h => ?_) | refine vc_caseN (fun h => ?_) (fun h => ?_)) <;> try (exfalso; omega))
            | ((with_reducible refine vc_case (fun h => ?_) (fun h => ?_)) <;> (try simp only [Bool.cond_true_left, Bool.cond_false_right, Bool.cond_true_right, Bool.cond_false_left, Bool.and_eq_true, Bool.or_eq_true, Bool.and_eq_false_iff, Bool.or_eq_false_iff, Bool.not_eq_true', Bool.not_eq_false', Bool.not_eq_true, Bool.not_eq_false, Bool.not_not, decide_eq_true_eq, decide_eq_false_iff_not, beq_iff_eq, beq_eq_false_iff_ne, bne_iff_ne, bne_eq_false_iff_eq, ne_eq, Classical.not_not, reduceCtorEq, false_or, or_false, true_and, and_true, Bool.false_eq_true, Bool.true_eq_false] at h) <;> try (exfalso; first | omega | (simp at h; done)))))
    all_goals rfl
  · skip
    repeat' (first
        | ((with_reducible refine vc_chk ?_); first | decide +kernel | rfl)
        | (with_reducible refine vc_side0 ?_; rfl)
        | (with_reducible first
             | refine vc_true ?_ | refine vc_true2 ?_ | refine vc_side ?_ ?_ | refine vc_triv | refine vc_later ?_ | refine vc_caseT ?_ | refine vc_caseF ?_ | refine vc_cons ?_ | refine vc_nil ?_ ?_ | refine vc_seq ?_
                | refine vc_region ?_ | refine vc_cond ?_ | refine vc_block ?_ | refine vc_retc ?_ | refine vc_exit ?_ | refine vc_skip ?_ | refine vc_scope ?_ | refine vc_label ?_ | refine vc_goto ?_ | refine vc_wkSl0
                | refine vc_wkHp0 | refine vc_eqAVs0 | refine vc_preG0 | refine vc_wkSl ?_ ?_ | refine vc_wkHp ?_ ?_ | refine vc_eqAVs ?_ ?_ | refine vc_preG ?_ ?_ | refine vc_side0 ?_ | refine vc_pure hn ?_ ?_ ?_
                | refine vc_weakf [] ?_ ?_ ?_ | refine vc_and ?_ ?_ | refine vc_ret [] [] ?_)
        | ((with_reducible first | refine vc_caseD (fun h => ?_) (fun h => ?_) | refine vc_caseN (fun h => ?_) (fun h => ?_)) <;> try (exfalso; omega))
        | ((with_reducible refine vc_case (fun h => ?_) (fun h => ?_)) <;> (try simp only [Bool.cond_true_left, Bool.cond_false_right, Bool.cond_true_right, Bool.cond_false_left, Bool.and_eq_true, Bool.or_eq_true, Bool.and_eq_false_iff, Bool.or_eq_false_iff, Bool.not_eq_true', Bool.not_eq_false', Bool.not_eq_true, Bool.not_eq_false, Bool.not_not, decide_eq_true_eq, decide_eq_false_iff_not, beq_iff_eq, beq_eq_false_iff_ne, bne_iff_ne, bne_eq_false_iff_eq, ne_eq, Classical.not_not, reduceCtorEq, false_or, or_false, true_and, and_true, Bool.false_eq_true, Bool.true_eq_false] at h) <;> try (exfalso; first | omega | (simp at h; done)))
        | (conv in Vc _ => arg 1; whnf
           first
            | (with_reducible refine vc_side0 ?_; rfl)
            | (with_reducible first
                | refine vc_true ?_ | refine vc_true2 ?_ | refine vc_side ?_ ?_ | refine vc_triv | refine vc_later ?_ | refine vc_caseT ?_ | refine vc_caseF ?_ | refine vc_cons ?_ | refine vc_nil ?_ ?_ | refine vc_seq ?_
                   | refine vc_region ?_ | refine vc_cond ?_ | refine vc_block ?_ | refine vc_retc ?_ | refine vc_exit ?_ | refine vc_skip ?_ | refine vc_scope ?_ | refine vc_label ?_ | refine vc_goto ?_ | refine vc_wkSl0
                   | refine vc_wkHp0 | refine vc_eqAVs0 | refine vc_preG0 | refine vc_wkSl ?_ ?_ | refine vc_wkHp ?_ ?_ | refine vc_eqAVs ?_ ?_ | refine vc_preG ?_ ?_ | refine vc_side0 ?_ | refine vc_pure hn ?_ ?_ ?_
                   | refine vc_weakf [] ?_ ?_ ?_ | refine vc_and ?_ ?_ | refine vc_ret [] [] ?_)
            | ((with_reducible first | refine vc_caseD (fun h => ?_) (fun h => ?_) | refine vc_caseN (fun h => ?_) (fun h => ?_)) <;> try (exfalso; omega))
            | ((with_reducible refine vc_case (fun h => ?_) (fun h => ?_)) <;> (try simp only [Bool.cond_true_left, Bool.cond_false_right, Bool.cond_true_right, Bool.cond_false_left, Bool.and_eq_true, Bool.or_eq_true, Bool.and_eq_false_iff, Bool.or_eq_false_iff, Bool.not_eq_true', Bool.not_eq_false', Bool.not_eq_true, Bool.not_eq_false, Bool.not_not, decide_eq_true_eq, decide_eq_false_iff_not, beq_iff_eq, beq_eq_false_iff_ne, bne_iff_ne, bne_eq_false_iff_eq, ne_eq, Classical.not_not, reduceCtorEq, false_or, or_false, true_and, and_true, Bool.false_eq_true, Bool.true_eq_false] at h) <;> try (exfalso; first | omega | (simp at h; done)))))
    all_goals (try simp only [List.length_map, cond_true] at *)
    all_goals first
      | rfl
      | (rw [decide_eq_true (by omega)]; rfl)
      | (rw [decide_eq_false (by omega)]; rfl)
      | skip

end Go.Proofs.Ytogncghpngmjpaa

/-
What the closures of the record layer read: bindings, requests, signed roots.
-/
set_option linter.unusedSimpArgs false
set_option linter.unusedVariables false
namespace Go.Proofs.Ytogncghpngmjpaa
open Go.Sym
set_option maxRecDepth 10000
set_option maxHeartbeats 2000000

theorem rdT_len {bs : List UInt8} {k : Nat} {a : List UInt8 × Nat} (h : rdT bs k = some a) : a.1.length < 2 ^ 63 := by
  have := (rdT_iff (ts := a.1) (m := a.2) h).1
  omega
theorem rdT_end {bs : List UInt8} {k : Nat} {a : List UInt8 × Nat} (h : rdT bs k = some a) : a.2 ≤ bs.length := rdT_le (ts := a.1) (m := a.2) h
theorem rdN_end {bs : List UInt8} {k : Nat} {a : Nat × Nat} (h : rdN bs 10 k 0 0 = some a) : a.2 ≤ bs.length := rdN_le2 (v := a.1) (e := a.2) h
theorem rdC_end {bs : List UInt8} {most : Int} {k : Nat} {a : Nat × Nat} (h : rdC bs most k = some a) : a.2 ≤ bs.length := rdC_le (v := a.1) (e := a.2) h
theorem rdG_end {bs : List UInt8} {k : Nat} {a : List UInt8 × Nat} (h : rdG bs k = some a) : a.2 ≤ bs.length := rdG_le (ts := a.1) (m := a.2) h

theorem check_b (n k : List UInt8) (s : Nat) (hl : n.length < 2 ^ 63) : LocalCall Try.prog 9 [.d (.st [.str ⟨(bytesOf (n.map byteD)).toArray⟩, .sl (k.map byteD), .int .u64 (s : Int)])] [] [] (one [.d (.int .i64 (checkI n k))]) [] := by
  rw [bytesOf_map]; exact check_at n k s hl
theorem check_z (n k : List UInt8) (hl : n.length < 2 ^ 63) : LocalCall Try.prog 9 [.d (.st [.str ⟨(bytesOf (n.map byteD)).toArray⟩, .sl (k.map byteD), .int .u64 0])] [] [] (one [.d (.int .i64 (checkI n k))]) [] := check_b n k 0 hl

/-- A binding. -/
def rdBnd (bs : List UInt8) : Option (Bnd × Nat) := (rdT bs 0).bind fun a => (rdT bs a.2).bind fun b => (rdN bs 10 b.2 0 0).bind fun c => bif decide (checkI a.1 b.1 = 0) then some (⟨a.1, b.1, c.1⟩, c.2) else none

theorem bind_in (B : List D) (bs : List UInt8) (hB : B = bs.map byteD) (hl : bs.length < 2 ^ 63) :
    LocalE (rdBnd bs) Try.prog 45 [.ptr 9 []] [(9, rd B 0)] [] (fun a => [.d (bD a.1)]) (fun a => [(9, rd B a.2)]) [] fault [(9, .dead)] := by
  refine vc_fnE mixed Try.func45 rfl rfl [] (rdBnd bs) (vc_chk rfl) ?_
  repeat' (first
      | ((with_reducible refine vc_chk ?_); first | decide +kernel | rfl)
      | (with_reducible refine vc_side0 ?_; rfl)
      | (with_reducible first
           | refine vc_true ?_ | refine vc_true2 ?_ | refine vc_side ?_ ?_ | refine vc_triv | refine vc_later ?_ | refine vc_caseT ?_ | refine vc_caseF ?_ | refine vc_cons ?_ | refine vc_nil ?_ ?_ | refine vc_seq ?_
              | refine vc_region ?_ | refine vc_cond ?_ | refine vc_block ?_ | refine vc_retc ?_ | refine vc_exit ?_ | refine vc_skip ?_ | refine vc_scope ?_ | refine vc_label ?_ | refine vc_goto ?_ | refine vc_wkSl0
              | refine vc_wkHp0 | refine vc_eqAVs0 | refine vc_preG0 | refine vc_wkSl ?_ ?_ | refine vc_wkHp ?_ ?_ | refine vc_eqAVs ?_ ?_ | refine vc_preG ?_ ?_ | refine vc_side0 ?_
              | refine vc_eAt [] 9 (by with_unfolding_all rfl) (text_e B bs hB 0 hl) (fun a1 h1 => ?_) (fun h1 => ?_) | refine vc_eAt [] 9 (by with_unfolding_all rfl) (text_e B bs hB a1.2 hl) (fun a2 h2 => ?_) (fun h2 => ?_)
              | refine vc_eAt [] 9 (by with_unfolding_all rfl) (num_e B bs hB a2.2 hl) (fun a3 h3 => ?_) (fun h3 => ?_) | refine vc_pure (check_b a1.1 a2.1 a3.1 (rdT_len h1)) ?_ ?_ ?_
              | refine vc_panAt [] 9 (by with_unfolding_all rfl) (fail_pan B a3.2) ?_ | refine vc_ek (⟨a1.1, a2.1, a3.1⟩, a3.2) ?_ ?_ | refine vc_ep ?_ ?_ | refine vc_panc [] [] ?_ ?_ | refine vc_weakf [] ?_ ?_ ?_
              | refine vc_and ?_ ?_ | refine vc_ret [] [] ?_)
      | ((with_reducible first | refine vc_caseD (fun h => ?_) (fun h => ?_) | refine vc_caseN (fun h => ?_) (fun h => ?_)) <;> try (exfalso; omega))
      | ((with_reducible refine vc_case (fun h => ?_) (fun h => ?_)) <;> (try simp only [Bool.cond_true_left, Bool.cond_false_right, Bool.cond_true_right, Bool.cond_false_left, Bool.and_eq_true, Bool.or_eq_true, Bool.and_eq_false_iff, Bool.or_eq_false_iff, Bool.not_eq_true', Bool.not_eq_false', Bool.not_eq_true, Bool.not_eq_false, Bool.not_not, decide_eq_true_eq, decide_eq_false_iff_not, beq_iff_eq, beq_eq_false_iff_ne, bne_iff_ne, bne_eq_false_iff_eq, ne_eq, Classical.not_not, reduceCtorEq, false_or, or_false, true_and, and_true, Bool.false_eq_true, Bool.true_eq_false] at h) <;> try (exfalso; first | omega | (simp at h; done)))
      | (conv in Vc _ => arg 1; whnf
         first
          | (with_reducible refine vc_side0 ?_; rfl)
          | (with_reducible first
              | refine vc_true ?_ | refine vc_true2 ?_ | refine vc_side ?_ ?_ | refine vc_triv | refine vc_later ?_ | refine vc_caseT ?_ | refine vc_caseF ?_ | refine vc_cons ?_ | refine vc_nil ?_ ?_ | refine vc_seq ?_
                 | refine vc_region ?_ | refine vc_cond ?_ | refine vc_block ?_ | refine vc_retc ?_ | refine vc_exit ?_ | refine vc_skip ?_ | refine vc_scope ?_ | refine vc_label ?_ | refine vc_goto ?_ | refine vc_wkSl0
                 | refine vc_wkHp0 | refine vc_eqAVs0 | refine vc_preG0 | refine vc_wkSl ?_ ?_ | refine vc_wkHp ?_ ?_ | refine vc_eqAVs ?_ ?_ | refine vc_preG ?_ ?_ | refine vc_side0 ?_
                 | refine vc_eAt [] 9 (by with_unfolding_all rfl) (text_e B bs hB 0 hl) (fun a1 h1 => ?_) (fun h1 => ?_) | refine vc_eAt [] 9 (by with_unfolding_all rfl) (text_e B bs hB a1.2 hl) (fun a2 h2 => ?_) (fun h2 => ?_)
                 | refine vc_eAt [] 9 (by with_unfolding_all rfl) (num_e B bs hB a2.2 hl) (fun a3 h3 => ?_) (fun h3 => ?_) | refine vc_pure (check_b a1.1 a2.1 a3.1 (rdT_len h1)) ?_ ?_ ?_
                 | refine vc_panAt [] 9 (by with_unfolding_all rfl) (fail_pan B a3.2) ?_ | refine vc_ek (⟨a1.1, a2.1, a3.1⟩, a3.2) ?_ ?_ | refine vc_ep ?_ ?_ | refine vc_panc [] [] ?_ ?_ | refine vc_weakf [] ?_ ?_ ?_
                 | refine vc_and ?_ ?_ | refine vc_ret [] [] ?_)
          | ((with_reducible first | refine vc_caseD (fun h => ?_) (fun h => ?_) | refine vc_caseN (fun h => ?_) (fun h => ?_)) <;> try (exfalso; omega))
          | ((with_reducible refine vc_case (fun h => ?_) (fun h => ?_)) <;> (try simp only [Bool.cond_true_left, Bool.cond_false_right, Bool.cond_true_right, Bool.cond_false_left, Bool.and_eq_true, Bool.or_eq_true, Bool.and_eq_false_iff, Bool.or_eq_false_iff, Bool.not_eq_true', Bool.not_eq_false', Bool.not_eq_true, Bool.not_eq_false, Bool.not_not, decide_eq_true_eq, decide_eq_false_iff_not, beq_iff_eq, beq_eq_false_iff_ne, bne_iff_ne, bne_eq_false_iff_eq, ne_eq, Classical.not_not, reduceCtorEq, false_or, or_false, true_and, and_true, Bool.false_eq_true, Bool.true_eq_false] at h) <;> try (exfalso; first | omega | (simp at h; done)))))
  all_goals (try simp only [bytesOf_map] at *)
  all_goals first
    | rfl
    | exact ⟨trivial, trivial⟩
    | exact ⟨trivial, trivial, trivial, trivial⟩
    | (simp [rdBnd, h1]; done)
    | (simp [rdBnd, h1, h2]; done)
    | (simp [rdBnd, h1, h2, h3]; done)
    | (simp [rdBnd, h1, h2, h3, h]; done)

/-- A request. -/
structure Req where
  kind : Int
  name : List UInt8
  key : List UInt8
  auth : List UInt8

abbrev qD (q : Req) : D := .st [.int .i64 q.kind, strD q.name, .sl (q.key.map byteD), .arr 32 1 (q.auth.map byteD)]
def zero32 : List UInt8 := List.replicate 32 0

/-- Who asks. -/
def rdAu (bs : List UInt8) (n k : Nat) : Option (List UInt8 × Nat) := bif decide (n = 2) then rdG bs k else some (zero32, k)

def rdReq (bs : List UInt8) : Option (Req × Nat) := (rdC bs 2 0).bind fun k => (rdT bs k.2).bind fun a => (rdT bs a.2).bind fun b => (rdAu bs k.1 b.2).bind fun c =>
  bif decide (1 ≤ k.1 ∧ checkI a.1 b.1 = 0) then some (⟨(k.1 : Int), a.1, b.1, c.1⟩, c.2) else none

theorem rdAu_two {bs : List UInt8} {n k : Nat} (h : (n : Int) = 2) : rdAu bs n k = rdG bs k := by
  unfold rdAu; rw [decide_eq_true (by omega), cond_true]
theorem rdAu_no {bs : List UInt8} {n k : Nat} (h : ¬ (n : Int) = 2) : rdAu bs n k = some (zero32, k) := by
  unfold rdAu; rw [decide_eq_false (by omega), cond_false]

theorem req_in (B : List D) (bs : List UInt8) (hB : B = bs.map byteD) (hl : bs.length < 2 ^ 63) :
    LocalE (rdReq bs) Try.prog 53 [.ptr 9 []] [(9, rd B 0)] [] (fun a => [.d (qD a.1)]) (fun a => [(9, rd B a.2)]) [] fault [(9, .dead)] := by
  refine vc_fnE mixed Try.func53 rfl rfl [] (rdReq bs) (vc_chk rfl) ?_
  repeat' (first
      | ((with_reducible refine vc_chk ?_); first | decide +kernel | rfl)
      | (with_reducible refine vc_side0 ?_; rfl)
      | (with_reducible first
           | refine vc_true ?_ | refine vc_true2 ?_ | refine vc_side ?_ ?_ | refine vc_triv | refine vc_later ?_ | refine vc_caseT ?_ | refine vc_caseF ?_ | refine vc_cons ?_ | refine vc_nil ?_ ?_ | refine vc_seq ?_
              | refine vc_region ?_ | refine vc_cond ?_ | refine vc_block ?_ | refine vc_retc ?_ | refine vc_exit ?_ | refine vc_skip ?_ | refine vc_scope ?_ | refine vc_label ?_ | refine vc_goto ?_ | refine vc_wkSl0
              | refine vc_wkHp0 | refine vc_eqAVs0 | refine vc_preG0 | refine vc_wkSl ?_ ?_ | refine vc_wkHp ?_ ?_ | refine vc_eqAVs ?_ ?_ | refine vc_preG ?_ ?_ | refine vc_side0 ?_
              | refine vc_eAt [] 9 (by with_unfolding_all rfl) (count_e B bs hB 2 0 (by omega) (by omega) hl) (fun a0 h0 => ?_) (fun h0 => ?_)
              | refine vc_eAt [] 9 (by with_unfolding_all rfl) (text_e B bs hB a0.2 hl) (fun a1 h1 => ?_) (fun h1 => ?_) | refine vc_eAt [] 9 (by with_unfolding_all rfl) (text_e B bs hB a1.2 hl) (fun a2 h2 => ?_) (fun h2 => ?_)
              | refine vc_eAt [] 9 (by with_unfolding_all rfl) (dig_e B bs hB a2.2 (rdT_end h2) hl) (fun a3 h3 => ?_) (fun h3 => ?_) | refine vc_pure (check_z a1.1 a2.1 (rdT_len h1)) ?_ ?_ ?_
              | refine vc_panAt [] 9 (by with_unfolding_all rfl) (fail_pan B a3.2) ?_ | refine vc_panAt [] 9 (by with_unfolding_all rfl) (fail_pan B a2.2) ?_ | refine vc_ek (⟨(a0.1 : Int), a1.1, a2.1, a3.1⟩, a3.2) ?_ ?_
              | refine vc_ek (⟨(a0.1 : Int), a1.1, a2.1, zero32⟩, a2.2) ?_ ?_ | refine vc_ep ?_ ?_ | refine vc_panc [] [] ?_ ?_ | refine vc_weakf [] ?_ ?_ ?_ | refine vc_and ?_ ?_ | refine vc_ret [] [] ?_)
      | ((with_reducible first | refine vc_caseD (fun h => ?_) (fun h => ?_) | refine vc_caseN (fun h => ?_) (fun h => ?_)) <;> try (exfalso; omega))
      | ((with_reducible refine vc_case (fun h => ?_) (fun h => ?_)) <;> (try simp only [Bool.cond_true_left, Bool.cond_false_right, Bool.cond_true_right, Bool.cond_false_left, Bool.and_eq_true, Bool.or_eq_true, Bool.and_eq_false_iff, Bool.or_eq_false_iff, Bool.not_eq_true', Bool.not_eq_false', Bool.not_eq_true, Bool.not_eq_false, Bool.not_not, decide_eq_true_eq, decide_eq_false_iff_not, beq_iff_eq, beq_eq_false_iff_ne, bne_iff_ne, bne_eq_false_iff_eq, ne_eq, Classical.not_not, reduceCtorEq, false_or, or_false, true_and, and_true, Bool.false_eq_true, Bool.true_eq_false] at h) <;> try (exfalso; first | omega | (simp at h; done)))
      | (conv in Vc _ => arg 1; whnf
         first
          | (with_reducible refine vc_side0 ?_; rfl)
          | (with_reducible first
              | refine vc_true ?_ | refine vc_true2 ?_ | refine vc_side ?_ ?_ | refine vc_triv | refine vc_later ?_ | refine vc_caseT ?_ | refine vc_caseF ?_ | refine vc_cons ?_ | refine vc_nil ?_ ?_ | refine vc_seq ?_
                 | refine vc_region ?_ | refine vc_cond ?_ | refine vc_block ?_ | refine vc_retc ?_ | refine vc_exit ?_ | refine vc_skip ?_ | refine vc_scope ?_ | refine vc_label ?_ | refine vc_goto ?_ | refine vc_wkSl0
                 | refine vc_wkHp0 | refine vc_eqAVs0 | refine vc_preG0 | refine vc_wkSl ?_ ?_ | refine vc_wkHp ?_ ?_ | refine vc_eqAVs ?_ ?_ | refine vc_preG ?_ ?_ | refine vc_side0 ?_
                 | refine vc_eAt [] 9 (by with_unfolding_all rfl) (count_e B bs hB 2 0 (by omega) (by omega) hl) (fun a0 h0 => ?_) (fun h0 => ?_)
                 | refine vc_eAt [] 9 (by with_unfolding_all rfl) (text_e B bs hB a0.2 hl) (fun a1 h1 => ?_) (fun h1 => ?_) | refine vc_eAt [] 9 (by with_unfolding_all rfl) (text_e B bs hB a1.2 hl) (fun a2 h2 => ?_) (fun h2 => ?_)
                 | refine vc_eAt [] 9 (by with_unfolding_all rfl) (dig_e B bs hB a2.2 (rdT_end h2) hl) (fun a3 h3 => ?_) (fun h3 => ?_) | refine vc_pure (check_z a1.1 a2.1 (rdT_len h1)) ?_ ?_ ?_
                 | refine vc_panAt [] 9 (by with_unfolding_all rfl) (fail_pan B a3.2) ?_ | refine vc_panAt [] 9 (by with_unfolding_all rfl) (fail_pan B a2.2) ?_ | refine vc_ek (⟨(a0.1 : Int), a1.1, a2.1, a3.1⟩, a3.2) ?_ ?_
                 | refine vc_ek (⟨(a0.1 : Int), a1.1, a2.1, zero32⟩, a2.2) ?_ ?_ | refine vc_ep ?_ ?_ | refine vc_panc [] [] ?_ ?_ | refine vc_weakf [] ?_ ?_ ?_ | refine vc_and ?_ ?_ | refine vc_ret [] [] ?_)
          | ((with_reducible first | refine vc_caseD (fun h => ?_) (fun h => ?_) | refine vc_caseN (fun h => ?_) (fun h => ?_)) <;> try (exfalso; omega))
          | ((with_reducible refine vc_case (fun h => ?_) (fun h => ?_)) <;> (try simp only [Bool.cond_true_left, Bool.cond_false_right, Bool.cond_true_right, Bool.cond_false_left, Bool.and_eq_true, Bool.or_eq_true, Bool.and_eq_false_iff, Bool.or_eq_false_iff, Bool.not_eq_true', Bool.not_eq_false', Bool.not_eq_true, Bool.not_eq_false, Bool.not_not, decide_eq_true_eq, decide_eq_false_iff_not, beq_iff_eq, beq_eq_false_iff_ne, bne_iff_ne, bne_eq_false_iff_eq, ne_eq, Classical.not_not, reduceCtorEq, false_or, or_false, true_and, and_true, Bool.false_eq_true, Bool.true_eq_false] at h) <;> try (exfalso; first | omega | (simp at h; done)))))
  all_goals (try simp only [bytesOf_map] at *)
  all_goals first
    | rfl
    | exact ⟨trivial, trivial⟩
    | exact ⟨trivial, trivial, trivial⟩
    | exact ⟨trivial, trivial, trivial, trivial⟩
    | (simp [rdReq, h0]; done)
    | (simp [rdReq, h0, h1]; done)
    | (simp [rdReq, h0, h1, h2]; done)
    | (simp [rdReq, h0, h1, h2, rdAu_two (bs := bs) (n := a0.1) (k := a2.2) (by assumption), h3]; done)
    | (simp [rdReq, h0, h1, h2, rdAu_two (bs := bs) (n := a0.1) (k := a2.2) (by assumption), h3, h]; done)
    | (simp [rdReq, h0, h1, h2, rdAu_two (bs := bs) (n := a0.1) (k := a2.2) (by assumption), h3, h, show 1 ≤ a0.1 by omega]; done)
    | (simp [rdReq, h0, h1, h2, rdAu_no (bs := bs) (n := a0.1) (k := a2.2) (by assumption), show ¬ 1 ≤ a0.1 by omega]; done)
    | (simp [rdReq, h0, h1, h2, rdAu_no (bs := bs) (n := a0.1) (k := a2.2) (by assumption), h]; done)
    | (simp [rdReq, h0, h1, h2, rdAu_no (bs := bs) (n := a0.1) (k := a2.2) (by assumption), h, show 1 ≤ a0.1 by omega]; done)

/-- A root, and one signed. -/
structure Rt where
  epoch : Nat
  prev : List UInt8
  tree : List UInt8
  next : List UInt8
structure Sgn where
  root : Rt
  sig : List UInt8

abbrev digD (d : List UInt8) : D := .arr 32 1 (d.map byteD)
abbrev rootD (r : Rt) : D := .st [.int .u64 (r.epoch : Int), digD r.prev, digD r.tree, digD r.next]
abbrev sD (s : Sgn) : D := .st [rootD s.root, .sl (s.sig.map byteD)]

def rdSgn (bs : List UInt8) : Option (Sgn × Nat) := (rdN bs 10 0 0 0).bind fun e => (rdG bs e.2).bind fun p => (rdG bs p.2).bind fun t => (rdG bs t.2).bind fun n => (rdT bs n.2).bind fun s => some (⟨⟨e.1, p.1, t.1, n.1⟩, s.1⟩, s.2)

theorem sgn_in (B : List D) (bs : List UInt8) (hB : B = bs.map byteD) (hl : bs.length < 2 ^ 63) :
    LocalE (rdSgn bs) Try.prog 59 [.ptr 9 []] [(9, rd B 0)] [] (fun a => [.d (sD a.1)]) (fun a => [(9, rd B a.2)]) [] fault [(9, .dead)] := by
  refine vc_fnE mixed Try.func59 rfl rfl [] (rdSgn bs) (vc_chk rfl) ?_
  repeat' (first
      | ((with_reducible refine vc_chk ?_); first | decide +kernel | rfl)
      | (with_reducible refine vc_side0 ?_; rfl)
      | (with_reducible first
           | refine vc_true ?_ | refine vc_true2 ?_ | refine vc_side ?_ ?_ | refine vc_triv | refine vc_later ?_ | refine vc_caseT ?_ | refine vc_caseF ?_ | refine vc_cons ?_ | refine vc_nil ?_ ?_ | refine vc_seq ?_
              | refine vc_region ?_ | refine vc_cond ?_ | refine vc_block ?_ | refine vc_retc ?_ | refine vc_exit ?_ | refine vc_skip ?_ | refine vc_scope ?_ | refine vc_label ?_ | refine vc_goto ?_ | refine vc_wkSl0
              | refine vc_wkHp0 | refine vc_eqAVs0 | refine vc_preG0 | refine vc_wkSl ?_ ?_ | refine vc_wkHp ?_ ?_ | refine vc_eqAVs ?_ ?_ | refine vc_preG ?_ ?_ | refine vc_side0 ?_
              | refine vc_eAt [] 9 (by with_unfolding_all rfl) (num_e B bs hB 0 hl) (fun a0 h0 => ?_) (fun h0 => ?_)
              | refine vc_eAt [] 9 (by with_unfolding_all rfl) (dig_e B bs hB a0.2 (rdN_end h0) hl) (fun a1 h1 => ?_) (fun h1 => ?_)
              | refine vc_eAt [] 9 (by with_unfolding_all rfl) (dig_e B bs hB a1.2 (rdG_end h1) hl) (fun a2 h2 => ?_) (fun h2 => ?_)
              | refine vc_eAt [] 9 (by with_unfolding_all rfl) (dig_e B bs hB a2.2 (rdG_end h2) hl) (fun a3 h3 => ?_) (fun h3 => ?_)
              | refine vc_eAt [] 9 (by with_unfolding_all rfl) (text_e B bs hB a3.2 hl) (fun a4 h4 => ?_) (fun h4 => ?_) | refine vc_ek (⟨⟨a0.1, a1.1, a2.1, a3.1⟩, a4.1⟩, a4.2) ?_ ?_ | refine vc_ep ?_ ?_
              | refine vc_panc [] [] ?_ ?_ | refine vc_weakf [] ?_ ?_ ?_ | refine vc_and ?_ ?_ | refine vc_ret [] [] ?_)
      | ((with_reducible first | refine vc_caseD (fun h => ?_) (fun h => ?_) | refine vc_caseN (fun h => ?_) (fun h => ?_)) <;> try (exfalso; omega))
      | ((with_reducible refine vc_case (fun h => ?_) (fun h => ?_)) <;> (try simp only [Bool.cond_true_left, Bool.cond_false_right, Bool.cond_true_right, Bool.cond_false_left, Bool.and_eq_true, Bool.or_eq_true, Bool.and_eq_false_iff, Bool.or_eq_false_iff, Bool.not_eq_true', Bool.not_eq_false', Bool.not_eq_true, Bool.not_eq_false, Bool.not_not, decide_eq_true_eq, decide_eq_false_iff_not, beq_iff_eq, beq_eq_false_iff_ne, bne_iff_ne, bne_eq_false_iff_eq, ne_eq, Classical.not_not, reduceCtorEq, false_or, or_false, true_and, and_true, Bool.false_eq_true, Bool.true_eq_false] at h) <;> try (exfalso; first | omega | (simp at h; done)))
      | (conv in Vc _ => arg 1; whnf
         first
          | (with_reducible refine vc_side0 ?_; rfl)
          | (with_reducible first
              | refine vc_true ?_ | refine vc_true2 ?_ | refine vc_side ?_ ?_ | refine vc_triv | refine vc_later ?_ | refine vc_caseT ?_ | refine vc_caseF ?_ | refine vc_cons ?_ | refine vc_nil ?_ ?_ | refine vc_seq ?_
                 | refine vc_region ?_ | refine vc_cond ?_ | refine vc_block ?_ | refine vc_retc ?_ | refine vc_exit ?_ | refine vc_skip ?_ | refine vc_scope ?_ | refine vc_label ?_ | refine vc_goto ?_ | refine vc_wkSl0
                 | refine vc_wkHp0 | refine vc_eqAVs0 | refine vc_preG0 | refine vc_wkSl ?_ ?_ | refine vc_wkHp ?_ ?_ | refine vc_eqAVs ?_ ?_ | refine vc_preG ?_ ?_ | refine vc_side0 ?_
                 | refine vc_eAt [] 9 (by with_unfolding_all rfl) (num_e B bs hB 0 hl) (fun a0 h0 => ?_) (fun h0 => ?_)
                 | refine vc_eAt [] 9 (by with_unfolding_all rfl) (dig_e B bs hB a0.2 (rdN_end h0) hl) (fun a1 h1 => ?_) (fun h1 => ?_)
                 | refine vc_eAt [] 9 (by with_unfolding_all rfl) (dig_e B bs hB a1.2 (rdG_end h1) hl) (fun a2 h2 => ?_) (fun h2 => ?_)
                 | refine vc_eAt [] 9 (by with_unfolding_all rfl) (dig_e B bs hB a2.2 (rdG_end h2) hl) (fun a3 h3 => ?_) (fun h3 => ?_)
                 | refine vc_eAt [] 9 (by with_unfolding_all rfl) (text_e B bs hB a3.2 hl) (fun a4 h4 => ?_) (fun h4 => ?_) | refine vc_ek (⟨⟨a0.1, a1.1, a2.1, a3.1⟩, a4.1⟩, a4.2) ?_ ?_ | refine vc_ep ?_ ?_
                 | refine vc_panc [] [] ?_ ?_ | refine vc_weakf [] ?_ ?_ ?_ | refine vc_and ?_ ?_ | refine vc_ret [] [] ?_)
          | ((with_reducible first | refine vc_caseD (fun h => ?_) (fun h => ?_) | refine vc_caseN (fun h => ?_) (fun h => ?_)) <;> try (exfalso; omega))
          | ((with_reducible refine vc_case (fun h => ?_) (fun h => ?_)) <;> (try simp only [Bool.cond_true_left, Bool.cond_false_right, Bool.cond_true_right, Bool.cond_false_left, Bool.and_eq_true, Bool.or_eq_true, Bool.and_eq_false_iff, Bool.or_eq_false_iff, Bool.not_eq_true', Bool.not_eq_false', Bool.not_eq_true, Bool.not_eq_false, Bool.not_not, decide_eq_true_eq, decide_eq_false_iff_not, beq_iff_eq, beq_eq_false_iff_ne, bne_iff_ne, bne_eq_false_iff_eq, ne_eq, Classical.not_not, reduceCtorEq, false_or, or_false, true_and, and_true, Bool.false_eq_true, Bool.true_eq_false] at h) <;> try (exfalso; first | omega | (simp at h; done)))))
  all_goals first
    | rfl
    | exact ⟨trivial, trivial⟩
    | exact ⟨trivial, trivial, trivial⟩
    | exact ⟨trivial, trivial, trivial, trivial⟩
    | exact ⟨trivial, trivial, trivial, trivial, trivial⟩
    | (simp [rdSgn, h0]; done)
    | (simp [rdSgn, h0, h1]; done)
    | (simp [rdSgn, h0, h1, h2]; done)
    | (simp [rdSgn, h0, h1, h2, h3]; done)
    | (simp [rdSgn, h0, h1, h2, h3, h4]; done)

end Go.Proofs.Ytogncghpngmjpaa

/-
What the closures of the record layer read: proofs.
-/
set_option linter.unusedSimpArgs false
set_option linter.unusedVariables false
namespace Go.Proofs.Ytogncghpngmjpaa
open Go.Sym
set_option maxRecDepth 10000
set_option maxHeartbeats 4000000

/-- A proof. -/
structure Prf where
  sides : List (List UInt8)
  fin : Int
  index : List UInt8
  value : List UInt8

abbrev pD (p : Prf) : D := .st [.sl (p.sides.map digD), .int .i64 p.fin, digD p.index, digD p.value]

/-- So many digests. -/
def rdGs (bs : List UInt8) : Nat → Nat → Option (List (List UInt8) × Nat)
  | 0, k => some ([], k)
  | n + 1, k => (rdG bs k).bind fun a => (rdGs bs n a.2).map fun p => (a.1 :: p.1, p.2)

structure RgI (bs : List UInt8) (R : Option (List (List UInt8) × Nat)) (x : List (List UInt8) × Nat × Nat) : Prop where
  h : (rdGs bs x.2.1 x.2.2).map (fun p => (x.1 ++ p.1, p.2)) = R
  le : x.1.length + x.2.1 ≤ 256
  kle : x.2.2 ≤ bs.length

theorem RgI.stop {bs : List UInt8} {R : Option (List (List UInt8) × Nat)} {x : List (List UInt8) × Nat × Nat} (hI : RgI bs R x) (h : x.2.1 = 0) : R = some (x.1, x.2.2) := by
  obtain ⟨acc, n, k⟩ := x
  obtain ⟨h1, _, _⟩ := hI
  simp only at h h1
  subst h
  rw [← h1]; simp [rdGs]

theorem RgI.no {bs : List UInt8} {R : Option (List (List UInt8) × Nat)} {x : List (List UInt8) × Nat × Nat} (hI : RgI bs R x) (h : 0 < x.2.1) (hg : rdG bs x.2.2 = none) : R = none := by
  obtain ⟨acc, n, k⟩ := x
  obtain ⟨h1, _, _⟩ := hI
  simp only at h h1 hg
  obtain ⟨m, rfl⟩ : ∃ m, n = m + 1 := ⟨n - 1, by omega⟩
  rw [← h1]; simp [rdGs, hg]

theorem RgI.next {bs : List UInt8} {R : Option (List (List UInt8) × Nat)} {x : List (List UInt8) × Nat × Nat} (hI : RgI bs R x) (h : 0 < x.2.1) {a : List UInt8 × Nat} (hg : rdG bs x.2.2 = some a) : RgI bs R (x.1 ++ [a.1], x.2.1 - 1, a.2) := by
  obtain ⟨acc, n, k⟩ := x
  obtain ⟨h1, h2, _⟩ := hI
  simp only at h h1 h2 hg
  obtain ⟨m, rfl⟩ : ∃ m, n = m + 1 := ⟨n - 1, by omega⟩
  refine ⟨?_, by simp; omega, rdG_end hg⟩
  rw [← h1]
  simp only [rdGs, hg, Option.bind_some, Nat.add_sub_cancel, Option.map_map]
  congr 1
  funext p
  simp

theorem rdGs_len {bs : List UInt8} : ∀ {n k : Nat} {g : List (List UInt8) × Nat}, rdGs bs n k = some g → g.1.length = n
  | 0, k, g, h => by cases h; rfl
  | n + 1, k, g, h => by
    simp only [rdGs] at h
    cases hg : rdG bs k with
    | none => rw [hg] at h; cases h
    | some a =>
      rw [hg, Option.bind_some] at h
      cases hr : rdGs bs n a.2 with
      | none => rw [hr] at h; cases h
      | some p =>
        rw [hr] at h
        cases h
        simp [rdGs_len hr]

def rdLf (bs : List UInt8) (e k : Nat) : Option ((List UInt8 × List UInt8) × Nat) := bif decide (e = 1) then (rdG bs k).bind fun a => (rdG bs a.2).bind fun b => some ((a.1, b.1), b.2) else some ((zero32, zero32), k)

theorem rdLf_one {bs : List UInt8} {e k : Nat} (h : (e : Int) = 1) : rdLf bs e k = (rdG bs k).bind fun a => (rdG bs a.2).bind fun b => some ((a.1, b.1), b.2) := by
  unfold rdLf; rw [decide_eq_true (by omega), cond_true]
theorem rdLf_no {bs : List UInt8} {e k : Nat} (h : ¬ (e : Int) = 1) : rdLf bs e k = some ((zero32, zero32), k) := by
  unfold rdLf; rw [decide_eq_false (by omega), cond_false]

def rdPrf (bs : List UInt8) : Option (Prf × Nat) := (rdC bs 256 0).bind fun n => (rdGs bs n.1 n.2).bind fun g => (rdC bs 1 g.2).bind fun e => (rdLf bs e.1 e.2).bind fun l => some (⟨g.1, (e.1 : Int), l.1.1, l.1.2⟩, l.2)

theorem digD_app (l : List (List UInt8)) (v : List UInt8) : (l.map digD) ++ [D.arr 32 1 (v.map byteD)] = (l ++ [v]).map digD := by simp
theorem room32 {n k : Nat} (hk : k = 32) (h : n ≤ 2 ^ 22) : Room n k := by subst hk; unfold Room; omega

theorem prf_in (B : List D) (bs : List UInt8) (hB : B = bs.map byteD) (hl : bs.length < 2 ^ 63) :
    LocalE (rdPrf bs) Try.prog 61 [.ptr 9 []] [(9, rd B 0)] [] (fun a => [.d (pD a.1)]) (fun a => [(9, rd B a.2)]) [] fault [(9, .dead)] := by
  refine vc_fnE mixed Try.func61 rfl rfl [(500001, [1000000032000000007000002000])] (rdPrf bs) (vc_chk rfl) ?_
  repeat' (first
      | ((with_reducible refine vc_chk ?_); first | decide +kernel | rfl)
      | (with_reducible refine vc_side0 ?_; rfl)
      | (with_reducible first
           | refine vc_true ?_ | refine vc_true2 ?_ | refine vc_side ?_ ?_ | refine vc_triv | refine vc_later ?_ | refine vc_caseT ?_ | refine vc_caseF ?_ | refine vc_cons ?_ | refine vc_nil ?_ ?_ | refine vc_seq ?_
              | refine vc_region ?_ | refine vc_cond ?_ | refine vc_block ?_ | refine vc_retc ?_ | refine vc_exit ?_ | refine vc_skip ?_ | refine vc_scope ?_ | refine vc_label ?_ | refine vc_goto ?_ | refine vc_wkSl0
              | refine vc_wkHp0 | refine vc_eqAVs0 | refine vc_preG0 | refine vc_wkSl ?_ ?_ | refine vc_wkHp ?_ ?_ | refine vc_eqAVs ?_ ?_ | refine vc_preG ?_ ?_ | refine vc_side0 ?_
              | refine vc_eAt [] 9 (by with_unfolding_all rfl) (count_e B bs hB 256 0 (by omega) (by omega) hl) (fun a0 h0 => ?_) (fun h0 => ?_)
              | refine vc_loopI 31 (fun (x : List (List UInt8) × Nat × Nat) => [(0, .ptr 9 []), (2, .ptr 1000 []), (3, .ptr 2000 []), (4, .d (.int .i64 (x.2.1 : Int)))]) (fun x => [(9, rd B x.2.2), (1000, .var (.d (.st [.nils, .int .i64 0, digD zero32, digD zero32]))), (2000, .var (.st [.sl 7 [] 32 0 (x.1.map digD).length, .d (.int .i64 0), .d (digD zero32), .d (digD zero32)])), (7, .row 32 (x.1.map digD))]) (fun x => x.2.1) (RgI bs (rdGs bs a0.1 a0.2)) ([], a0.1, a0.2) [] ?_ ?_ ?_ ?_ ?_ (fun x hI => ?_)
              | refine vc_eAt [] 9 (by with_unfolding_all rfl) (dig_e B bs hB x.2.2 hI.kle hl) (fun a1 h1 => ?_) (fun h1 => ?_) | refine vc_nextI (x.1 ++ [a1.1], x.2.1 - 1, a1.2) [(7, 6020)] ?_ ?_ ?_ ?_ ?_ ?_
              | refine vc_eAt [] 9 (by with_unfolding_all rfl) (count_e B bs hB 1 x.2.2 (by omega) (by omega) hl) (fun a2 h2 => ?_) (fun h2 => ?_)
              | refine vc_eAt [] 9 (by with_unfolding_all rfl) (dig_e B bs hB a2.2 (rdC_end h2) hl) (fun a3 h3 => ?_) (fun h3 => ?_)
              | refine vc_eAt [] 9 (by with_unfolding_all rfl) (dig_e B bs hB a3.2 (rdG_end h3) hl) (fun a4 h4 => ?_) (fun h4 => ?_) | refine vc_ek (⟨x.1, (a2.1 : Int), a3.1, a4.1⟩, a4.2) ?_ ?_
              | refine vc_ek (⟨x.1, (a2.1 : Int), zero32, zero32⟩, a2.2) ?_ ?_ | refine vc_ret [true] [] ?_ | refine vc_ep ?_ ?_ | refine vc_panc [] [] ?_ ?_ | refine vc_weakf [] ?_ ?_ ?_ | refine vc_and ?_ ?_
              | refine vc_ret [] [] ?_)
      | ((with_reducible first | refine vc_caseD (fun h => ?_) (fun h => ?_) | refine vc_caseN (fun h => ?_) (fun h => ?_)) <;> try (exfalso; omega))
      | ((with_reducible refine vc_case (fun h => ?_) (fun h => ?_)) <;> (try simp only [Bool.cond_true_left, Bool.cond_false_right, Bool.cond_true_right, Bool.cond_false_left, Bool.and_eq_true, Bool.or_eq_true, Bool.and_eq_false_iff, Bool.or_eq_false_iff, Bool.not_eq_true', Bool.not_eq_false', Bool.not_eq_true, Bool.not_eq_false, Bool.not_not, decide_eq_true_eq, decide_eq_false_iff_not, beq_iff_eq, beq_eq_false_iff_ne, bne_iff_ne, bne_eq_false_iff_eq, ne_eq, Classical.not_not, reduceCtorEq, false_or, or_false, true_and, and_true, Bool.false_eq_true, Bool.true_eq_false] at h) <;> try (exfalso; first | omega | (simp at h; done)))
      | (conv in Vc _ => arg 1; whnf
         first
          | (with_reducible refine vc_side0 ?_; rfl)
          | (with_reducible first
              | refine vc_true ?_ | refine vc_true2 ?_ | refine vc_side ?_ ?_ | refine vc_triv | refine vc_later ?_ | refine vc_caseT ?_ | refine vc_caseF ?_ | refine vc_cons ?_ | refine vc_nil ?_ ?_ | refine vc_seq ?_
                 | refine vc_region ?_ | refine vc_cond ?_ | refine vc_block ?_ | refine vc_retc ?_ | refine vc_exit ?_ | refine vc_skip ?_ | refine vc_scope ?_ | refine vc_label ?_ | refine vc_goto ?_ | refine vc_wkSl0
                 | refine vc_wkHp0 | refine vc_eqAVs0 | refine vc_preG0 | refine vc_wkSl ?_ ?_ | refine vc_wkHp ?_ ?_ | refine vc_eqAVs ?_ ?_ | refine vc_preG ?_ ?_ | refine vc_side0 ?_
                 | refine vc_eAt [] 9 (by with_unfolding_all rfl) (count_e B bs hB 256 0 (by omega) (by omega) hl) (fun a0 h0 => ?_) (fun h0 => ?_)
                 | refine vc_loopI 31 (fun (x : List (List UInt8) × Nat × Nat) => [(0, .ptr 9 []), (2, .ptr 1000 []), (3, .ptr 2000 []), (4, .d (.int .i64 (x.2.1 : Int)))]) (fun x => [(9, rd B x.2.2), (1000, .var (.d (.st [.nils, .int .i64 0, digD zero32, digD zero32]))), (2000, .var (.st [.sl 7 [] 32 0 (x.1.map digD).length, .d (.int .i64 0), .d (digD zero32), .d (digD zero32)])), (7, .row 32 (x.1.map digD))]) (fun x => x.2.1) (RgI bs (rdGs bs a0.1 a0.2)) ([], a0.1, a0.2) [] ?_ ?_ ?_ ?_ ?_ (fun x hI => ?_)
                 | refine vc_eAt [] 9 (by with_unfolding_all rfl) (dig_e B bs hB x.2.2 hI.kle hl) (fun a1 h1 => ?_) (fun h1 => ?_) | refine vc_nextI (x.1 ++ [a1.1], x.2.1 - 1, a1.2) [(7, 6020)] ?_ ?_ ?_ ?_ ?_ ?_
                 | refine vc_eAt [] 9 (by with_unfolding_all rfl) (count_e B bs hB 1 x.2.2 (by omega) (by omega) hl) (fun a2 h2 => ?_) (fun h2 => ?_)
                 | refine vc_eAt [] 9 (by with_unfolding_all rfl) (dig_e B bs hB a2.2 (rdC_end h2) hl) (fun a3 h3 => ?_) (fun h3 => ?_)
                 | refine vc_eAt [] 9 (by with_unfolding_all rfl) (dig_e B bs hB a3.2 (rdG_end h3) hl) (fun a4 h4 => ?_) (fun h4 => ?_) | refine vc_ek (⟨x.1, (a2.1 : Int), a3.1, a4.1⟩, a4.2) ?_ ?_
                 | refine vc_ek (⟨x.1, (a2.1 : Int), zero32, zero32⟩, a2.2) ?_ ?_ | refine vc_ret [true] [] ?_ | refine vc_ep ?_ ?_ | refine vc_panc [] [] ?_ ?_ | refine vc_weakf [] ?_ ?_ ?_ | refine vc_and ?_ ?_
                 | refine vc_ret [] [] ?_)
          | ((with_reducible first | refine vc_caseD (fun h => ?_) (fun h => ?_) | refine vc_caseN (fun h => ?_) (fun h => ?_)) <;> try (exfalso; omega))
          | ((with_reducible refine vc_case (fun h => ?_) (fun h => ?_)) <;> (try simp only [Bool.cond_true_left, Bool.cond_false_right, Bool.cond_true_right, Bool.cond_false_left, Bool.and_eq_true, Bool.or_eq_true, Bool.and_eq_false_iff, Bool.or_eq_false_iff, Bool.not_eq_true', Bool.not_eq_false', Bool.not_eq_true, Bool.not_eq_false, Bool.not_not, decide_eq_true_eq, decide_eq_false_iff_not, beq_iff_eq, beq_eq_false_iff_ne, bne_iff_ne, bne_eq_false_iff_eq, ne_eq, Classical.not_not, reduceCtorEq, false_or, or_false, true_and, and_true, Bool.false_eq_true, Bool.true_eq_false] at h) <;> try (exfalso; first | omega | (simp at h; done)))))
  all_goals (try simp only [List.drop_zero, List.take_length])
  all_goals first
    | rfl
    | exact ⟨by simp, by have := (rdC_ok (v := a0.1) (e := a0.2) h0).2.2; simp only [List.length_nil]; omega, rdC_end h0⟩
    | exact hI.next (by omega) h1
    | ((try simp only); omega)
    | (show AV.st [AV.sl 6020 [] 32 0 (List.map digD x.fst ++ [digD a1.1]).length, _, _, _] = _; rw [digD_app]; rfl)
    | (show List.map digD x.fst ++ [digD a1.1] = _; rw [digD_app]; done)
    | (have hle := hI.le; congr 1; rw [wrap64_id (by omega) (by omega)]; (try simp only); omega)
    | exact ⟨⟨Nat.le_of_eq (Nat.zero_add _), trivial, trivial, trivial, trivial⟩, trivial⟩
    | (have hle := hI.le
       refine ⟨⟨by simp, by first | trivial | rfl, room32 rfl ?_⟩, fun y hy => ?_⟩
       · rw [List.length_append, List.length_map, List.length_singleton]; omega
       · simp only [List.mem_singleton] at hy; subst hy; rfl)
    | (simp [rdPrf, h0, hI.no (by omega) h1]; done)
    | (simp [rdPrf, h0]; done)
    | (simp [rdPrf, h0, hI.stop (by omega), h2]; done)
    | (simp [rdPrf, h0, hI.stop (by omega), h2, rdLf_one (bs := bs) (e := a2.1) (k := a2.2) (by assumption), h3]; done)
    | (simp [rdPrf, h0, hI.stop (by omega), h2, rdLf_one (bs := bs) (e := a2.1) (k := a2.2) (by assumption), h3, h4]; done)
    | (simp [rdPrf, h0, hI.stop (by omega), h2, rdLf_no (bs := bs) (e := a2.1) (k := a2.2) (by assumption)]; done)

end Go.Proofs.Ytogncghpngmjpaa

/-
What is read to its end; things of nothing.
-/
set_option linter.unusedSimpArgs false
set_option linter.unusedVariables false
namespace Go.Proofs.Ytogncghpngmjpaa
open Go.Sym
set_option maxRecDepth 10000
set_option maxHeartbeats 1000000

/-- What is read, if it ends where the bytes end. -/
def toFin {α : Type} (len : Nat) (r : Option (α × Nat)) : Option α := r.bind fun a => bif decide (a.2 = len) then some a.1 else none

theorem toFin_cases {α : Type} (len : Nat) (r : Option (α × Nat)) : (∃ a, r = some a ∧ a.2 = len ∧ toFin len r = some a.1) ∨ ((r = none ∨ ∃ a, r = some a ∧ ¬ a.2 = len) ∧ toFin len r = none) := by
  cases r with
  | none => exact .inr ⟨.inl rfl, rfl⟩
  | some a =>
    by_cases h : a.2 = len
    · exact .inl ⟨a, rfl, h, by simp [toFin, h]⟩
    · exact .inr ⟨.inr ⟨a, rfl, h⟩, by simp [toFin, h]⟩

def q0 : Req := ⟨0, [], [], zero32⟩
def s0 : Sgn := ⟨⟨0, zero32, zero32, zero32⟩, []⟩
def p0 : Prf := ⟨[], 0, zero32, zero32⟩

end Go.Proofs.Ytogncghpngmjpaa

/-
Things of the record layer compared; whether a proof may be.
-/
set_option linter.unusedSimpArgs false
set_option linter.unusedVariables false
namespace Go.Proofs.Ytogncghpngmjpaa
open Go.Sym
set_option maxRecDepth 10000
set_option maxHeartbeats 4000000

instance : DecidableEq Bnd := fun a b => if h : a.name = b.name ∧ a.key = b.key ∧ a.serial = b.serial then isTrue (by cases a; cases b; simp_all) else isFalse (by rintro rfl; exact h ⟨rfl, rfl, rfl⟩)
instance : DecidableEq Req := fun a b => if h : a.kind = b.kind ∧ a.name = b.name ∧ a.key = b.key ∧ a.auth = b.auth then isTrue (by cases a; cases b; simp_all) else isFalse (by rintro rfl; exact h ⟨rfl, rfl, rfl, rfl⟩)
instance : DecidableEq Rt := fun a b => if h : a.epoch = b.epoch ∧ a.prev = b.prev ∧ a.tree = b.tree ∧ a.next = b.next then isTrue (by cases a; cases b; simp_all) else isFalse (by rintro rfl; exact h ⟨rfl, rfl, rfl, rfl⟩)
instance : DecidableEq Sgn := fun a b => if h : a.root = b.root ∧ a.sig = b.sig then isTrue (by cases a; cases b; simp_all) else isFalse (by rintro rfl; exact h ⟨rfl, rfl⟩)
instance : DecidableEq Prf := fun a b => if h : a.sides = b.sides ∧ a.fin = b.fin ∧ a.index = b.index ∧ a.value = b.value then isTrue (by cases a; cases b; simp_all) else isFalse (by rintro rfl; exact h ⟨rfl, rfl, rfl, rfl⟩)

theorem bnd_ext (a b : Bnd) : a = b ↔ a.name = b.name ∧ a.serial = b.serial ∧ a.key = b.key := ⟨fun h => by subst h; exact ⟨rfl, rfl, rfl⟩, fun h => by cases a; cases b; simp_all⟩
theorem req_ext (a b : Req) : a = b ↔ a.kind = b.kind ∧ a.name = b.name ∧ a.key = b.key ∧ a.auth = b.auth := ⟨fun h => by subst h; exact ⟨rfl, rfl, rfl, rfl⟩, fun h => by cases a; cases b; simp_all⟩
theorem rt_ext (a b : Rt) : a = b ↔ a.epoch = b.epoch ∧ a.prev = b.prev ∧ a.tree = b.tree ∧ a.next = b.next := ⟨fun h => by subst h; exact ⟨rfl, rfl, rfl, rfl⟩, fun h => by cases a; cases b; simp_all⟩
theorem sgn_ext (a b : Sgn) : a = b ↔ a.root = b.root ∧ a.sig = b.sig := ⟨fun h => by subst h; exact ⟨rfl, rfl⟩, fun h => by cases a; cases b; simp_all⟩
theorem prf_ext (a b : Prf) : a = b ↔ a.sides = b.sides ∧ a.fin = b.fin ∧ a.index = b.index ∧ a.value = b.value := ⟨fun h => by subst h; exact ⟨rfl, rfl, rfl, rfl⟩, fun h => by cases a; cases b; simp_all⟩

theorem bool_iff {b : Bool} {p : Prop} [Decidable p] (h : b = true ↔ p) : D.bool b = D.bool (decide p) := by
  congr 1
  rw [Bool.eq_iff_iff, decide_eq_true_eq]; exact h

theorem fits_root (f : Nat) (r : Rt) : D.fits Try.prog (f + 3) 40 (rootD r) := by
  have h1 := fits_dig f r.prev
  have h2 := fits_dig f r.tree
  have h3 := fits_dig f r.next
  exact ⟨by decide +kernel, ⟨by decide, rfl, rfl⟩, rfl, ⟨by decide, rfl, rfl⟩, h1, ⟨by decide, rfl, rfl⟩, h2, ⟨by decide, rfl, rfl⟩, h3, trivial⟩

theorem beq_root (a b : Rt) : D.beq (rootD a) (rootD b) = decide (a = b) := by
  simp only [D.beq, D.beqs, beqs_bytes]
  rw [Bool.eq_iff_iff, decide_eq_true_eq, rt_ext]
  simp only [Bool.and_eq_true, beq_iff_eq, decide_eq_true_eq, and_true, Int.ofNat_inj]

theorem z6 : List.replicate 32 (D.zero Try.prog 6 5) = zero32.map byteD := rfl
theorem z7 : List.replicate 32 (D.zero Try.prog 7 5) = zero32.map byteD := rfl

theorem sameBnd_ok (a b : Bnd) : LocalCall Try.prog 23 [.d (bD a), .d (bD b)] [] [] (one [.d (.bool (decide (a = b)))]) [] := by
  refine vc_fn mixed Try.func23 rfl rfl [] (vc_chk rfl) ?_
  repeat' (first
      | ((with_reducible refine vc_chk ?_); first | decide +kernel | rfl)
      | (with_reducible refine vc_side0 ?_; rfl)
      | (with_reducible first
           | refine vc_true ?_ | refine vc_true2 ?_ | refine vc_side ?_ ?_ | refine vc_triv | refine vc_later ?_ | refine vc_caseT ?_ | refine vc_caseF ?_ | refine vc_cons ?_ | refine vc_nil ?_ ?_ | refine vc_seq ?_
              | refine vc_region ?_ | refine vc_cond ?_ | refine vc_block ?_ | refine vc_retc ?_ | refine vc_exit ?_ | refine vc_skip ?_ | refine vc_scope ?_ | refine vc_label ?_ | refine vc_goto ?_ | refine vc_wkSl0
              | refine vc_wkHp0 | refine vc_eqAVs0 | refine vc_preG0 | refine vc_wkSl ?_ ?_ | refine vc_wkHp ?_ ?_ | refine vc_eqAVs ?_ ?_ | refine vc_preG ?_ ?_ | refine vc_side0 ?_ | refine vc_weakf [] ?_ ?_ ?_
              | refine vc_and ?_ ?_ | refine vc_ret [] [] ?_)
      | ((with_reducible first | refine vc_caseD (fun h => ?_) (fun h => ?_) | refine vc_caseN (fun h => ?_) (fun h => ?_)) <;> try (exfalso; omega))
      | ((with_reducible refine vc_case (fun h => ?_) (fun h => ?_)) <;> (try simp only [Bool.cond_true_left, Bool.cond_false_right, Bool.cond_true_right, Bool.cond_false_left, Bool.and_eq_true, Bool.or_eq_true, Bool.and_eq_false_iff, Bool.or_eq_false_iff, Bool.not_eq_true', Bool.not_eq_false', Bool.not_eq_true, Bool.not_eq_false, Bool.not_not, decide_eq_true_eq, decide_eq_false_iff_not, beq_iff_eq, beq_eq_false_iff_ne, bne_iff_ne, bne_eq_false_iff_eq, ne_eq, Classical.not_not, reduceCtorEq, false_or, or_false, true_and, and_true, Bool.false_eq_true, Bool.true_eq_false] at h) <;> try (exfalso; first | omega | (simp at h; done)))
      | (conv in Vc _ => arg 1; whnf
         first
          | (with_reducible refine vc_side0 ?_; rfl)
          | (with_reducible first
              | refine vc_true ?_ | refine vc_true2 ?_ | refine vc_side ?_ ?_ | refine vc_triv | refine vc_later ?_ | refine vc_caseT ?_ | refine vc_caseF ?_ | refine vc_cons ?_ | refine vc_nil ?_ ?_ | refine vc_seq ?_
                 | refine vc_region ?_ | refine vc_cond ?_ | refine vc_block ?_ | refine vc_retc ?_ | refine vc_exit ?_ | refine vc_skip ?_ | refine vc_scope ?_ | refine vc_label ?_ | refine vc_goto ?_ | refine vc_wkSl0
                 | refine vc_wkHp0 | refine vc_eqAVs0 | refine vc_preG0 | refine vc_wkSl ?_ ?_ | refine vc_wkHp ?_ ?_ | refine vc_eqAVs ?_ ?_ | refine vc_preG ?_ ?_ | refine vc_side0 ?_ | refine vc_weakf [] ?_ ?_ ?_
                 | refine vc_and ?_ ?_ | refine vc_ret [] [] ?_)
          | ((with_reducible first | refine vc_caseD (fun h => ?_) (fun h => ?_) | refine vc_caseN (fun h => ?_) (fun h => ?_)) <;> try (exfalso; omega))
          | ((with_reducible refine vc_case (fun h => ?_) (fun h => ?_)) <;> (try simp only [Bool.cond_true_left, Bool.cond_false_right, Bool.cond_true_right, Bool.cond_false_left, Bool.and_eq_true, Bool.or_eq_true, Bool.and_eq_false_iff, Bool.or_eq_false_iff, Bool.not_eq_true', Bool.not_eq_false', Bool.not_eq_true, Bool.not_eq_false, Bool.not_not, decide_eq_true_eq, decide_eq_false_iff_not, beq_iff_eq, beq_eq_false_iff_ne, bne_iff_ne, bne_eq_false_iff_eq, ne_eq, Classical.not_not, reduceCtorEq, false_or, or_false, true_and, and_true, Bool.false_eq_true, Bool.true_eq_false] at h) <;> try (exfalso; first | omega | (simp at h; done)))))
  all_goals (try simp only [bytesOf_map, str_list, Int.ofNat_inj, beq_root, beq_dig, cond_true, cond_false, Bool.not_eq_true', decide_eq_true_eq, decide_eq_false_iff_not] at *)
  all_goals first
    | rfl
    | exact ⟨trivial, trivial⟩
    | exact ⟨fits_dig 6 _, fits_dig 6 _⟩
    | exact ⟨by decide +kernel, fits_root 5 _, fits_root 5 _⟩
    | (refine bool_iff ?_; simp only [bnd_ext]; simp_all; done)
    | skip

theorem sameReq_ok (a b : Req) : LocalCall Try.prog 26 [.d (qD a), .d (qD b)] [] [] (one [.d (.bool (decide (a = b)))]) [] := by
  refine vc_fn mixed Try.func26 rfl rfl [] (vc_chk rfl) ?_
  repeat' (first
      | ((with_reducible refine vc_chk ?_); first | decide +kernel | rfl)
      | (with_reducible refine vc_side0 ?_; rfl)
      | (with_reducible first
           | refine vc_true ?_ | refine vc_true2 ?_ | refine vc_side ?_ ?_ | refine vc_triv | refine vc_later ?_ | refine vc_caseT ?_ | refine vc_caseF ?_ | refine vc_cons ?_ | refine vc_nil ?_ ?_ | refine vc_seq ?_
              | refine vc_region ?_ | refine vc_cond ?_ | refine vc_block ?_ | refine vc_retc ?_ | refine vc_exit ?_ | refine vc_skip ?_ | refine vc_scope ?_ | refine vc_label ?_ | refine vc_goto ?_ | refine vc_wkSl0
              | refine vc_wkHp0 | refine vc_eqAVs0 | refine vc_preG0 | refine vc_wkSl ?_ ?_ | refine vc_wkHp ?_ ?_ | refine vc_eqAVs ?_ ?_ | refine vc_preG ?_ ?_ | refine vc_side0 ?_ | refine vc_weakf [] ?_ ?_ ?_
              | refine vc_and ?_ ?_ | refine vc_ret [] [] ?_)
      | ((with_reducible first | refine vc_caseD (fun h => ?_) (fun h => ?_) | refine vc_caseN (fun h => ?_) (fun h => ?_)) <;> try (exfalso; omega))
      | ((with_reducible refine vc_case (fun h => ?_) (fun h => ?_)) <;> (try simp only [Bool.cond_true_left, Bool.cond_false_right, Bool.cond_true_right, Bool.cond_false_left, Bool.and_eq_true, Bool.or_eq_true, Bool.and_eq_false_iff, Bool.or_eq_false_iff, Bool.not_eq_true', Bool.not_eq_false', Bool.not_eq_true, Bool.not_eq_false, Bool.not_not, decide_eq_true_eq, decide_eq_false_iff_not, beq_iff_eq, beq_eq_false_iff_ne, bne_iff_ne, bne_eq_false_iff_eq, ne_eq, Classical.not_not, reduceCtorEq, false_or, or_false, true_and, and_true, Bool.false_eq_true, Bool.true_eq_false] at h) <;> try (exfalso; first | omega | (simp at h; done)))
      | (conv in Vc _ => arg 1; whnf
         first
          | (with_reducible refine vc_side0 ?_; rfl)
          | (with_reducible first
              | refine vc_true ?_ | refine vc_true2 ?_ | refine vc_side ?_ ?_ | refine vc_triv | refine vc_later ?_ | refine vc_caseT ?_ | refine vc_caseF ?_ | refine vc_cons ?_ | refine vc_nil ?_ ?_ | refine vc_seq ?_
                 | refine vc_region ?_ | refine vc_cond ?_ | refine vc_block ?_ | refine vc_retc ?_ | refine vc_exit ?_ | refine vc_skip ?_ | refine vc_scope ?_ | refine vc_label ?_ | refine vc_goto ?_ | refine vc_wkSl0
                 | refine vc_wkHp0 | refine vc_eqAVs0 | refine vc_preG0 | refine vc_wkSl ?_ ?_ | refine vc_wkHp ?_ ?_ | refine vc_eqAVs ?_ ?_ | refine vc_preG ?_ ?_ | refine vc_side0 ?_ | refine vc_weakf [] ?_ ?_ ?_
                 | refine vc_and ?_ ?_ | refine vc_ret [] [] ?_)
          | ((with_reducible first | refine vc_caseD (fun h => ?_) (fun h => ?_) | refine vc_caseN (fun h => ?_) (fun h => ?_)) <;> try (exfalso; omega))
          | ((with_reducible refine vc_case (fun h => ?_) (fun h => ?_)) <;> (try simp only [Bool.cond_true_left, Bool.cond_false_right, Bool.cond_true_right, Bool.cond_false_left, Bool.and_eq_true, Bool.or_eq_true, Bool.and_eq_false_iff, Bool.or_eq_false_iff, Bool.not_eq_true', Bool.not_eq_false', Bool.not_eq_true, Bool.not_eq_false, Bool.not_not, decide_eq_true_eq, decide_eq_false_iff_not, beq_iff_eq, beq_eq_false_iff_ne, bne_iff_ne, bne_eq_false_iff_eq, ne_eq, Classical.not_not, reduceCtorEq, false_or, or_false, true_and, and_true, Bool.false_eq_true, Bool.true_eq_false] at h) <;> try (exfalso; first | omega | (simp at h; done)))))
  all_goals (try simp only [bytesOf_map, str_list, Int.ofNat_inj, beq_root, beq_dig, cond_true, cond_false, Bool.not_eq_true', decide_eq_true_eq, decide_eq_false_iff_not] at *)
  all_goals first
    | rfl
    | exact ⟨trivial, trivial⟩
    | exact ⟨fits_dig 6 _, fits_dig 6 _⟩
    | exact ⟨by decide +kernel, fits_root 5 _, fits_root 5 _⟩
    | (refine bool_iff ?_; simp only [req_ext]; simp_all; done)
    | skip

theorem sameSgn_ok (a b : Sgn) : LocalCall Try.prog 24 [.d (sD a), .d (sD b)] [] [] (one [.d (.bool (decide (a = b)))]) [] := by
  refine vc_fn mixed Try.func24 rfl rfl [] (vc_chk rfl) ?_
  repeat' (first
      | ((with_reducible refine vc_chk ?_); first | decide +kernel | rfl)
      | (with_reducible refine vc_side0 ?_; rfl)
      | (with_reducible first
           | refine vc_true ?_ | refine vc_true2 ?_ | refine vc_side ?_ ?_ | refine vc_triv | refine vc_later ?_ | refine vc_caseT ?_ | refine vc_caseF ?_ | refine vc_cons ?_ | refine vc_nil ?_ ?_ | refine vc_seq ?_
              | refine vc_region ?_ | refine vc_cond ?_ | refine vc_block ?_ | refine vc_retc ?_ | refine vc_exit ?_ | refine vc_skip ?_ | refine vc_scope ?_ | refine vc_label ?_ | refine vc_goto ?_ | refine vc_wkSl0
              | refine vc_wkHp0 | refine vc_eqAVs0 | refine vc_preG0 | refine vc_wkSl ?_ ?_ | refine vc_wkHp ?_ ?_ | refine vc_eqAVs ?_ ?_ | refine vc_preG ?_ ?_ | refine vc_side0 ?_ | refine vc_weakf [] ?_ ?_ ?_
              | refine vc_and ?_ ?_ | refine vc_ret [] [] ?_)
      | ((with_reducible first | refine vc_caseD (fun h => ?_) (fun h => ?_) | refine vc_caseN (fun h => ?_) (fun h => ?_)) <;> try (exfalso; omega))
      | ((with_reducible refine vc_case (fun h => ?_) (fun h => ?_)) <;> (try simp only [Bool.cond_true_left, Bool.cond_false_right, Bool.cond_true_right, Bool.cond_false_left, Bool.and_eq_true, Bool.or_eq_true, Bool.and_eq_false_iff, Bool.or_eq_false_iff, Bool.not_eq_true', Bool.not_eq_false', Bool.not_eq_true, Bool.not_eq_false, Bool.not_not, decide_eq_true_eq, decide_eq_false_iff_not, beq_iff_eq, beq_eq_false_iff_ne, bne_iff_ne, bne_eq_false_iff_eq, ne_eq, Classical.not_not, reduceCtorEq, false_or, or_false, true_and, and_true, Bool.false_eq_true, Bool.true_eq_false] at h) <;> try (exfalso; first | omega | (simp at h; done)))
      | (conv in Vc _ => arg 1; whnf
         first
          | (with_reducible refine vc_side0 ?_; rfl)
          | (with_reducible first
              | refine vc_true ?_ | refine vc_true2 ?_ | refine vc_side ?_ ?_ | refine vc_triv | refine vc_later ?_ | refine vc_caseT ?_ | refine vc_caseF ?_ | refine vc_cons ?_ | refine vc_nil ?_ ?_ | refine vc_seq ?_
                 | refine vc_region ?_ | refine vc_cond ?_ | refine vc_block ?_ | refine vc_retc ?_ | refine vc_exit ?_ | refine vc_skip ?_ | refine vc_scope ?_ | refine vc_label ?_ | refine vc_goto ?_ | refine vc_wkSl0
                 | refine vc_wkHp0 | refine vc_eqAVs0 | refine vc_preG0 | refine vc_wkSl ?_ ?_ | refine vc_wkHp ?_ ?_ | refine vc_eqAVs ?_ ?_ | refine vc_preG ?_ ?_ | refine vc_side0 ?_ | refine vc_weakf [] ?_ ?_ ?_
                 | refine vc_and ?_ ?_ | refine vc_ret [] [] ?_)
          | ((with_reducible first | refine vc_caseD (fun h => ?_) (fun h => ?_) | refine vc_caseN (fun h => ?_) (fun h => ?_)) <;> try (exfalso; omega))
          | ((with_reducible refine vc_case (fun h => ?_) (fun h => ?_)) <;> (try simp only [Bool.cond_true_left, Bool.cond_false_right, Bool.cond_true_right, Bool.cond_false_left, Bool.and_eq_true, Bool.or_eq_true, Bool.and_eq_false_iff, Bool.or_eq_false_iff, Bool.not_eq_true', Bool.not_eq_false', Bool.not_eq_true, Bool.not_eq_false, Bool.not_not, decide_eq_true_eq, decide_eq_false_iff_not, beq_iff_eq, beq_eq_false_iff_ne, bne_iff_ne, bne_eq_false_iff_eq, ne_eq, Classical.not_not, reduceCtorEq, false_or, or_false, true_and, and_true, Bool.false_eq_true, Bool.true_eq_false] at h) <;> try (exfalso; first | omega | (simp at h; done)))))
  all_goals (try simp only [bytesOf_map, str_list] at *)
  all_goals first
    | exact ⟨trivial, trivial⟩
    | exact ⟨by decide +kernel, fits_root 5 _, fits_root 5 _⟩
    | (have hr : D.beq (rootD a.root) (rootD b.root) = true := h
       rw [beq_root, decide_eq_true_eq] at hr
       refine bool_iff ?_; rw [cond_true, sgn_ext, beq_iff_eq]; exact ⟨fun e => ⟨hr, e⟩, fun e => e.2⟩)
    | (have hr : D.beq (rootD a.root) (rootD b.root) = false := h
       rw [beq_root, decide_eq_false_iff_not] at hr
       exact bool_no fun e => hr (by rw [e]))
    | rfl

theorem sides_eq (a b : List (List UInt8)) (h : a.length = b.length) {i : Nat} (hi : a.length ≤ i) (ht : a.take i = b.take i) : a = b := take_all h hi ht

theorem samePrf_ok (a b : Prf) (hl : a.sides.length < 2 ^ 63) : LocalCall Try.prog 27 [.d (pD a), .d (pD b)] [] [] (one [.d (.bool (decide (a = b)))]) [] := by
  have sa : ∀ i, i < a.sides.length → (a.sides.map digD).getD i .nilp = digD (a.sides.getD i []) := fun i hi => (map_at hi).1
  have sb : ∀ i, i < b.sides.length → (b.sides.map digD).getD i .nilp = digD (b.sides.getD i []) := fun i hi => (map_at hi).1
  have sc : ∀ i, i < a.sides.length → i < b.sides.length → (D.arr 32 1 ((a.sides.map digD).getD i .nilp).els).beq (D.arr 32 1 ((b.sides.map digD).getD i .nilp).els) = decide (a.sides.getD i [] = b.sides.getD i []) := fun i h1 h2 => by
    rw [sa i h1, sb i h2]; exact beq_dig _ _ _ _ _ _
  refine vc_fn mixed Try.func27 rfl rfl [] (vc_chk rfl) ?_
  repeat' (first
      | ((with_reducible refine vc_chk ?_); first | decide +kernel | rfl)
      | (with_reducible refine vc_side0 ?_; rfl)
      | (with_reducible first
           | refine vc_true ?_ | refine vc_true2 ?_ | refine vc_side ?_ ?_ | refine vc_triv | refine vc_later ?_ | refine vc_caseT ?_ | refine vc_caseF ?_ | refine vc_cons ?_ | refine vc_nil ?_ ?_ | refine vc_seq ?_
              | refine vc_region ?_ | refine vc_cond ?_ | refine vc_block ?_ | refine vc_retc ?_ | refine vc_exit ?_ | refine vc_skip ?_ | refine vc_scope ?_ | refine vc_label ?_ | refine vc_goto ?_ | refine vc_wkSl0
              | refine vc_wkHp0 | refine vc_eqAVs0 | refine vc_preG0 | refine vc_wkSl ?_ ?_ | refine vc_wkHp ?_ ?_ | refine vc_eqAVs ?_ ?_ | refine vc_preG ?_ ?_ | refine vc_side0 ?_
              | refine vc_loopI 52 (fun (i : Nat) => [(2, .ptr 1000 []), (3, .ptr 1004 []), (5, .d (.int .i64 (i : Int)))]) (fun i => [(1000, .var (.d (pD a))), (1004, .var (.d (pD b)))]) (fun i => a.sides.length - i) (fun i => i ≤ a.sides.length ∧ a.sides.take i = b.sides.take i) 0 [] ?_ ?_ ?_ ?_ ?_ (fun i hI => ?_)
              | refine vc_nextI (i + 1) [] ?_ ?_ ?_ ?_ ?_ ?_ | refine vc_weakf [] ?_ ?_ ?_ | refine vc_and ?_ ?_ | refine vc_ret [] [] ?_)
      | ((with_reducible first | refine vc_caseD (fun h => ?_) (fun h => ?_) | refine vc_caseN (fun h => ?_) (fun h => ?_)) <;> try (exfalso; omega))
      | ((with_reducible refine vc_case (fun h => ?_) (fun h => ?_)) <;> (try simp only [Bool.cond_true_left, Bool.cond_false_right, Bool.cond_true_right, Bool.cond_false_left, Bool.and_eq_true, Bool.or_eq_true, Bool.and_eq_false_iff, Bool.or_eq_false_iff, Bool.not_eq_true', Bool.not_eq_false', Bool.not_eq_true, Bool.not_eq_false, Bool.not_not, decide_eq_true_eq, decide_eq_false_iff_not, beq_iff_eq, beq_eq_false_iff_ne, bne_iff_ne, bne_eq_false_iff_eq, ne_eq, Classical.not_not, reduceCtorEq, false_or, or_false, true_and, and_true, Bool.false_eq_true, Bool.true_eq_false] at h) <;> try (exfalso; first | omega | (simp at h; done)))
      | (conv in Vc _ => arg 1; whnf
         first
          | (with_reducible refine vc_side0 ?_; rfl)
          | (with_reducible first
              | refine vc_true ?_ | refine vc_true2 ?_ | refine vc_side ?_ ?_ | refine vc_triv | refine vc_later ?_ | refine vc_caseT ?_ | refine vc_caseF ?_ | refine vc_cons ?_ | refine vc_nil ?_ ?_ | refine vc_seq ?_
                 | refine vc_region ?_ | refine vc_cond ?_ | refine vc_block ?_ | refine vc_retc ?_ | refine vc_exit ?_ | refine vc_skip ?_ | refine vc_scope ?_ | refine vc_label ?_ | refine vc_goto ?_ | refine vc_wkSl0
                 | refine vc_wkHp0 | refine vc_eqAVs0 | refine vc_preG0 | refine vc_wkSl ?_ ?_ | refine vc_wkHp ?_ ?_ | refine vc_eqAVs ?_ ?_ | refine vc_preG ?_ ?_ | refine vc_side0 ?_
                 | refine vc_loopI 52 (fun (i : Nat) => [(2, .ptr 1000 []), (3, .ptr 1004 []), (5, .d (.int .i64 (i : Int)))]) (fun i => [(1000, .var (.d (pD a))), (1004, .var (.d (pD b)))]) (fun i => a.sides.length - i) (fun i => i ≤ a.sides.length ∧ a.sides.take i = b.sides.take i) 0 [] ?_ ?_ ?_ ?_ ?_ (fun i hI => ?_)
                 | refine vc_nextI (i + 1) [] ?_ ?_ ?_ ?_ ?_ ?_ | refine vc_weakf [] ?_ ?_ ?_ | refine vc_and ?_ ?_ | refine vc_ret [] [] ?_)
          | ((with_reducible first | refine vc_caseD (fun h => ?_) (fun h => ?_) | refine vc_caseN (fun h => ?_) (fun h => ?_)) <;> try (exfalso; omega))
          | ((with_reducible refine vc_case (fun h => ?_) (fun h => ?_)) <;> (try simp only [Bool.cond_true_left, Bool.cond_false_right, Bool.cond_true_right, Bool.cond_false_left, Bool.and_eq_true, Bool.or_eq_true, Bool.and_eq_false_iff, Bool.or_eq_false_iff, Bool.not_eq_true', Bool.not_eq_false', Bool.not_eq_true, Bool.not_eq_false, Bool.not_not, decide_eq_true_eq, decide_eq_false_iff_not, beq_iff_eq, beq_eq_false_iff_ne, bne_iff_ne, bne_eq_false_iff_eq, ne_eq, Classical.not_not, reduceCtorEq, false_or, or_false, true_and, and_true, Bool.false_eq_true, Bool.true_eq_false] at h) <;> try (exfalso; first | omega | (simp at h; done)))))
  all_goals (try simp only [Int.toNat_natCast, beq_dig, List.length_map, cond_true, cond_false, Bool.not_eq_true', Bool.not_eq_false', decide_eq_true_eq, decide_eq_false_iff_not] at *)
  all_goals first
    | rfl
    | exact ⟨fits_dig 6 _, fits_dig 6 _⟩
    | exact ⟨Nat.zero_le _, rfl⟩
    | omega
    | (congr 1; rw [wrap64_id (by omega) (by omega)]; rfl)
    | (refine ⟨⟨by omega, by omega⟩, ?_⟩; rw [sa i (by omega)]; rfl)
    | (refine ⟨⟨by omega, by omega⟩, ?_⟩; rw [sb i (by omega)]; rfl)
    | (rw [sa i (by omega), sb i (by omega)]; exact ⟨fits_dig 6 _, fits_dig 6 _⟩)
    | (have hs := (sc i (by omega) (by omega)).symm.trans h
       rw [decide_eq_false_iff_not] at hs
       exact bool_no fun e => hs (by rw [e]))
    | (have hs := (sc i (by omega) (by omega)).symm.trans (show (D.arr 32 1 ((a.sides.map digD).getD i .nilp).els).beq (D.arr 32 1 ((b.sides.map digD).getD i .nilp).els) = true by assumption)
       rw [decide_eq_true_eq] at hs
       exact ⟨by omega, take_more (by omega) (by omega) hI.2 hs⟩)
    | (refine bool_yes ?_
       rw [prf_ext]
       exact ⟨take_all (by omega) (by omega) hI.2, by assumption, by assumption, by assumption⟩)
    | (refine bool_no fun e => ?_
       rw [prf_ext] at e
       first
       | (obtain ⟨e1, e2, e3, e4⟩ := e; exact h e4)
       | (obtain ⟨e1, e2, e3, e4⟩ := e; exact h e3)
       | (obtain ⟨e1, e2, e3, e4⟩ := e; exact h e2)
       | (obtain ⟨e1, e2, e3, e4⟩ := e; rw [e1] at h; omega)
       | (obtain ⟨e1, e2, e3, e4⟩ := e; rw [e1] at *; omega)
       | (obtain ⟨e1, e2, e3, e4⟩ := e; contradiction))
    | skip

def rightP (p : Prf) : Prop := p.sides.length ≤ 256 ∧ (p.fin = 1 ∨ (p.fin = 0 ∧ p.index = zero32 ∧ p.value = zero32))
instance (p : Prf) : Decidable (rightP p) := by unfold rightP; exact inferInstance

theorem right_ok (p : Prf) : LocalCall Try.prog 11 [.d (pD p)] [] [] (one [.d (.bool (decide (rightP p)))]) [] := by
  refine vc_fn mixed Try.func11 rfl rfl [] (vc_chk rfl) ?_
  repeat' (first
      | ((with_reducible refine vc_chk ?_); first | decide +kernel | rfl)
      | (with_reducible refine vc_side0 ?_; rfl)
      | (with_reducible first
           | refine vc_true ?_ | refine vc_true2 ?_ | refine vc_side ?_ ?_ | refine vc_triv | refine vc_later ?_ | refine vc_caseT ?_ | refine vc_caseF ?_ | refine vc_cons ?_ | refine vc_nil ?_ ?_ | refine vc_seq ?_
              | refine vc_region ?_ | refine vc_cond ?_ | refine vc_block ?_ | refine vc_retc ?_ | refine vc_exit ?_ | refine vc_skip ?_ | refine vc_scope ?_ | refine vc_label ?_ | refine vc_goto ?_ | refine vc_wkSl0
              | refine vc_wkHp0 | refine vc_eqAVs0 | refine vc_preG0 | refine vc_wkSl ?_ ?_ | refine vc_wkHp ?_ ?_ | refine vc_eqAVs ?_ ?_ | refine vc_preG ?_ ?_ | refine vc_side0 ?_ | refine vc_weakf [] ?_ ?_ ?_
              | refine vc_and ?_ ?_ | refine vc_ret [] [] ?_)
      | ((with_reducible first | refine vc_caseD (fun h => ?_) (fun h => ?_) | refine vc_caseN (fun h => ?_) (fun h => ?_)) <;> try (exfalso; omega))
      | ((with_reducible refine vc_case (fun h => ?_) (fun h => ?_)) <;> (try simp only [Bool.cond_true_left, Bool.cond_false_right, Bool.cond_true_right, Bool.cond_false_left, Bool.and_eq_true, Bool.or_eq_true, Bool.and_eq_false_iff, Bool.or_eq_false_iff, Bool.not_eq_true', Bool.not_eq_false', Bool.not_eq_true, Bool.not_eq_false, Bool.not_not, decide_eq_true_eq, decide_eq_false_iff_not, beq_iff_eq, beq_eq_false_iff_ne, bne_iff_ne, bne_eq_false_iff_eq, ne_eq, Classical.not_not, reduceCtorEq, false_or, or_false, true_and, and_true, Bool.false_eq_true, Bool.true_eq_false] at h) <;> try (exfalso; first | omega | (simp at h; done)))
      | (conv in Vc _ => arg 1; whnf
         first
          | (with_reducible refine vc_side0 ?_; rfl)
          | (with_reducible first
              | refine vc_true ?_ | refine vc_true2 ?_ | refine vc_side ?_ ?_ | refine vc_triv | refine vc_later ?_ | refine vc_caseT ?_ | refine vc_caseF ?_ | refine vc_cons ?_ | refine vc_nil ?_ ?_ | refine vc_seq ?_
                 | refine vc_region ?_ | refine vc_cond ?_ | refine vc_block ?_ | refine vc_retc ?_ | refine vc_exit ?_ | refine vc_skip ?_ | refine vc_scope ?_ | refine vc_label ?_ | refine vc_goto ?_ | refine vc_wkSl0
                 | refine vc_wkHp0 | refine vc_eqAVs0 | refine vc_preG0 | refine vc_wkSl ?_ ?_ | refine vc_wkHp ?_ ?_ | refine vc_eqAVs ?_ ?_ | refine vc_preG ?_ ?_ | refine vc_side0 ?_ | refine vc_weakf [] ?_ ?_ ?_
                 | refine vc_and ?_ ?_ | refine vc_ret [] [] ?_)
          | ((with_reducible first | refine vc_caseD (fun h => ?_) (fun h => ?_) | refine vc_caseN (fun h => ?_) (fun h => ?_)) <;> try (exfalso; omega))
          | ((with_reducible refine vc_case (fun h => ?_) (fun h => ?_)) <;> (try simp only [Bool.cond_true_left, Bool.cond_false_right, Bool.cond_true_right, Bool.cond_false_left, Bool.and_eq_true, Bool.or_eq_true, Bool.and_eq_false_iff, Bool.or_eq_false_iff, Bool.not_eq_true', Bool.not_eq_false', Bool.not_eq_true, Bool.not_eq_false, Bool.not_not, decide_eq_true_eq, decide_eq_false_iff_not, beq_iff_eq, beq_eq_false_iff_ne, bne_iff_ne, bne_eq_false_iff_eq, ne_eq, Classical.not_not, reduceCtorEq, false_or, or_false, true_and, and_true, Bool.false_eq_true, Bool.true_eq_false] at h) <;> try (exfalso; first | omega | (simp at h; done)))))
  all_goals (try simp only [z6, z7, beq_dig, List.length_map, cond_true, cond_false, Bool.not_eq_true', decide_eq_true_eq, decide_eq_false_iff_not] at *)
  all_goals first
    | rfl
    | exact ⟨fits_dig 6 _, fits_dig 6 zero32⟩
    | (refine bool_iff ?_; simp only [rightP]; simp_all; done)
    | (refine bool_iff ?_; simp only [rightP]; simp_all; omega)
    | (refine bool_iff ?_; simp only [rightP]; omega)
    | skip

theorem rRight_ok (p : Prf) : LocalCall Try.prog 12 [.d (pD p)] [] [] (one [.d (.bool (decide (rightP p)))]) [] := by
  refine vc_fn mixed Try.func12 rfl rfl [] (vc_chk rfl) ?_
  repeat' (first
      | ((with_reducible refine vc_chk ?_); first | decide +kernel | rfl)
      | (with_reducible refine vc_side0 ?_; rfl)
      | (with_reducible first
           | refine vc_true ?_ | refine vc_true2 ?_ | refine vc_side ?_ ?_ | refine vc_triv | refine vc_later ?_ | refine vc_caseT ?_ | refine vc_caseF ?_ | refine vc_cons ?_ | refine vc_nil ?_ ?_ | refine vc_seq ?_
              | refine vc_region ?_ | refine vc_cond ?_ | refine vc_block ?_ | refine vc_retc ?_ | refine vc_exit ?_ | refine vc_skip ?_ | refine vc_scope ?_ | refine vc_label ?_ | refine vc_goto ?_ | refine vc_wkSl0
              | refine vc_wkHp0 | refine vc_eqAVs0 | refine vc_preG0 | refine vc_wkSl ?_ ?_ | refine vc_wkHp ?_ ?_ | refine vc_eqAVs ?_ ?_ | refine vc_preG ?_ ?_ | refine vc_side0 ?_ | refine vc_weakf [] ?_ ?_ ?_
              | refine vc_and ?_ ?_ | refine vc_ret [] [] ?_)
      | ((with_reducible first | refine vc_caseD (fun h => ?_) (fun h => ?_) | refine vc_caseN (fun h => ?_) (fun h => ?_)) <;> try (exfalso; omega))
      | ((with_reducible refine vc_case (fun h => ?_) (fun h => ?_)) <;> (try simp only [Bool.cond_true_left, Bool.cond_false_right, Bool.cond_true_right, Bool.cond_false_left, Bool.and_eq_true, Bool.or_eq_true, Bool.and_eq_false_iff, Bool.or_eq_false_iff, Bool.not_eq_true', Bool.not_eq_false', Bool.not_eq_true, Bool.not_eq_false, Bool.not_not, decide_eq_true_eq, decide_eq_false_iff_not, beq_iff_eq, beq_eq_false_iff_ne, bne_iff_ne, bne_eq_false_iff_eq, ne_eq, Classical.not_not, reduceCtorEq, false_or, or_false, true_and, and_true, Bool.false_eq_true, Bool.true_eq_false] at h) <;> try (exfalso; first | omega | (simp at h; done)))
      | (conv in Vc _ => arg 1; whnf
         first
          | (with_reducible refine vc_side0 ?_; rfl)
          | (with_reducible first
              | refine vc_true ?_ | refine vc_true2 ?_ | refine vc_side ?_ ?_ | refine vc_triv | refine vc_later ?_ | refine vc_caseT ?_ | refine vc_caseF ?_ | refine vc_cons ?_ | refine vc_nil ?_ ?_ | refine vc_seq ?_
                 | refine vc_region ?_ | refine vc_cond ?_ | refine vc_block ?_ | refine vc_retc ?_ | refine vc_exit ?_ | refine vc_skip ?_ | refine vc_scope ?_ | refine vc_label ?_ | refine vc_goto ?_ | refine vc_wkSl0
                 | refine vc_wkHp0 | refine vc_eqAVs0 | refine vc_preG0 | refine vc_wkSl ?_ ?_ | refine vc_wkHp ?_ ?_ | refine vc_eqAVs ?_ ?_ | refine vc_preG ?_ ?_ | refine vc_side0 ?_ | refine vc_weakf [] ?_ ?_ ?_
                 | refine vc_and ?_ ?_ | refine vc_ret [] [] ?_)
          | ((with_reducible first | refine vc_caseD (fun h => ?_) (fun h => ?_) | refine vc_caseN (fun h => ?_) (fun h => ?_)) <;> try (exfalso; omega))
          | ((with_reducible refine vc_case (fun h => ?_) (fun h => ?_)) <;> (try simp only [Bool.cond_true_left, Bool.cond_false_right, Bool.cond_true_right, Bool.cond_false_left, Bool.and_eq_true, Bool.or_eq_true, Bool.and_eq_false_iff, Bool.or_eq_false_iff, Bool.not_eq_true', Bool.not_eq_false', Bool.not_eq_true, Bool.not_eq_false, Bool.not_not, decide_eq_true_eq, decide_eq_false_iff_not, beq_iff_eq, beq_eq_false_iff_ne, bne_iff_ne, bne_eq_false_iff_eq, ne_eq, Classical.not_not, reduceCtorEq, false_or, or_false, true_and, and_true, Bool.false_eq_true, Bool.true_eq_false] at h) <;> try (exfalso; first | omega | (simp at h; done)))))
  all_goals (try simp only [z6, z7, beq_dig, List.length_map, cond_true, cond_false, Bool.not_eq_true', decide_eq_true_eq, decide_eq_false_iff_not] at *)
  all_goals first
    | rfl
    | exact ⟨fits_dig 6 _, fits_dig 6 zero32⟩
    | (refine bool_iff ?_; simp only [rightP]; simp_all; done)
    | (refine bool_iff ?_; simp only [rightP]; simp_all; omega)
    | (refine bool_iff ?_; simp only [rightP]; omega)
    | skip

end Go.Proofs.Ytogncghpngmjpaa
