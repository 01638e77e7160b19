import Derived.Test.YtdceegllpcepnaaJ1
import Derived.Test.YtdceegllpcepnaaJ2
import Derived.Test.YtdceegllpcepnaaJ3
import Derived.Test.YtdceegllpcepnaaProg
import Derived.KernelRfl
import Derived.ProofKit
import Derived.Test.YtdceegllpcepnaaRows
import Derived.Tactics
import Derived.Tactics2
import Derived.Defers
import Derived.Recover
import Derived.Laws.Pointers
import Derived.TacticsInMore
import Derived.RegionIn
import Derived.LoopNIn
import Derived.RecoverIn
set_option linter.unusedSimpArgs false
set_option linter.unusedVariables false
/-
What the readings of the arguments are: digests, numbers, truth values.
-/
set_option linter.unusedSimpArgs false
set_option linter.unusedVariables false
namespace Go.Proofs.Ytdceegllpcepnaa
open Go.Sym
set_option maxRecDepth 100000

theorem len1 {α : Type} : ∀ {l : List α}, l.length = 1 → ∃ a, l = [a]
  | [_], _ => ⟨_, rfl⟩
theorem len2 {α : Type} : ∀ {l : List α}, l.length = 2 → ∃ a b, l = [a, b]
  | [_, _], _ => ⟨_, _, rfl⟩
theorem len3 {α : Type} : ∀ {l : List α}, l.length = 3 → ∃ a b c, l = [a, b, c]
  | [_, _, _], _ => ⟨_, _, _, rfl⟩
theorem len4 {α : Type} : ∀ {l : List α}, l.length = 4 → ∃ a b c d, l = [a, b, c, d]
  | [_, _, _, _], _ => ⟨_, _, _, _, rfl⟩
theorem len5 {α : Type} : ∀ {l : List α}, l.length = 5 → ∃ a b c d e, l = [a, b, c, d, e]
  | [_, _, _, _, _], _ => ⟨_, _, _, _, _, rfl⟩
theorem len6 {α : Type} : ∀ {l : List α}, l.length = 6 → ∃ a b c d e f, l = [a, b, c, d, e, f]
  | [_, _, _, _, _, _], _ => ⟨_, _, _, _, _, _, rfl⟩
theorem len7 {α : Type} : ∀ {l : List α}, l.length = 7 → ∃ a b c d e f g, l = [a, b, c, d, e, f, g]
  | [_, _, _, _, _, _, _], _ => ⟨_, _, _, _, _, _, _, rfl⟩
theorem len8 {α : Type} : ∀ {l : List α}, l.length = 8 → ∃ a b c d e f g h, l = [a, b, c, d, e, f, g, h]
  | [_, _, _, _, _, _, _, _], _ => ⟨_, _, _, _, _, _, _, _, rfl⟩

theorem okAll1 {p : TypeId → D → Prop} {t0 : TypeId} : ∀ {xs : List D}, okAll p [t0] xs → ∃ a, xs = [a] ∧ p t0 a
  | [_], ⟨h0, _⟩ => ⟨_, rfl, h0⟩
theorem okAll2 {p : TypeId → D → Prop} {t0 t1 : TypeId} : ∀ {xs : List D}, okAll p [t0, t1] xs → ∃ a b, xs = [a, b] ∧ p t0 a ∧ p t1 b
  | [_, _], ⟨h0, h1, _⟩ => ⟨_, _, rfl, h0, h1⟩
theorem okAll3 {p : TypeId → D → Prop} {t0 t1 t2 : TypeId} : ∀ {xs : List D}, okAll p [t0, t1, t2] xs → ∃ a b c, xs = [a, b, c] ∧ p t0 a ∧ p t1 b ∧ p t2 c
  | [_, _, _], ⟨h0, h1, h2, _⟩ => ⟨_, _, _, rfl, h0, h1, h2⟩
theorem okAll4 {p : TypeId → D → Prop} {t0 t1 t2 t3 : TypeId} : ∀ {xs : List D}, okAll p [t0, t1, t2, t3] xs → ∃ a b c d, xs = [a, b, c, d] ∧ p t0 a ∧ p t1 b ∧ p t2 c ∧ p t3 d
  | [_, _, _, _], ⟨h0, h1, h2, h3, _⟩ => ⟨_, _, _, _, rfl, h0, h1, h2, h3⟩
theorem okAll5 {p : TypeId → D → Prop} {t0 t1 t2 t3 t4 : TypeId} : ∀ {xs : List D}, okAll p [t0, t1, t2, t3, t4] xs → ∃ a b c d e, xs = [a, b, c, d, e] ∧ p t0 a ∧ p t1 b ∧ p t2 c ∧ p t3 d ∧ p t4 e
  | [_, _, _, _, _], ⟨h0, h1, h2, h3, h4, _⟩ => ⟨_, _, _, _, _, rfl, h0, h1, h2, h3, h4⟩
theorem okAll6 {p : TypeId → D → Prop} {t0 t1 t2 t3 t4 t5 : TypeId} : ∀ {xs : List D}, okAll p [t0, t1, t2, t3, t4, t5] xs → ∃ a b c d e f, xs = [a, b, c, d, e, f] ∧ p t0 a ∧ p t1 b ∧ p t2 c ∧ p t3 d ∧ p t4 e ∧ p t5 f
  | [_, _, _, _, _, _], ⟨h0, h1, h2, h3, h4, h5, _⟩ => ⟨_, _, _, _, _, _, rfl, h0, h1, h2, h3, h4, h5⟩
theorem okAll7 {p : TypeId → D → Prop} {t0 t1 t2 t3 t4 t5 t6 : TypeId} : ∀ {xs : List D}, okAll p [t0, t1, t2, t3, t4, t5, t6] xs → ∃ a b c d e f g, xs = [a, b, c, d, e, f, g] ∧ p t0 a ∧ p t1 b ∧ p t2 c ∧ p t3 d ∧ p t4 e ∧ p t5 f ∧ p t6 g
  | [_, _, _, _, _, _, _], ⟨h0, h1, h2, h3, h4, h5, h6, _⟩ => ⟨_, _, _, _, _, _, _, rfl, h0, h1, h2, h3, h4, h5, h6⟩
theorem okAll8 {p : TypeId → D → Prop} {t0 t1 t2 t3 t4 t5 t6 t7 : TypeId} : ∀ {xs : List D}, okAll p [t0, t1, t2, t3, t4, t5, t6, t7] xs → ∃ a b c d e f g h, xs = [a, b, c, d, e, f, g, h] ∧ p t0 a ∧ p t1 b ∧ p t2 c ∧ p t3 d ∧ p t4 e ∧ p t5 f ∧ p t6 g ∧ p t7 h
  | [_, _, _, _, _, _, _, _], ⟨h0, h1, h2, h3, h4, h5, h6, h7, _⟩ => ⟨_, _, _, _, _, _, _, _, rfl, h0, h1, h2, h3, h4, h5, h6, h7⟩

theorem byte_of {n : Nat} {y : D} (h : okD Try.prog (n + 1) 5 y) : ∃ c : UInt8, y = byteD c := by
  have hu : Try.prog.underlying 5 = some (.int .u8) := rfl
  simp only [okD, hu] at h
  obtain ⟨m, rfl, hw⟩ := h
  have h2 : 0 ≤ m ∧ m < 256 := by
    simp only [Lit.wf, Bool.and_eq_true, decide_eq_true_eq] at hw
    rw [show IntKind.u8.min = 0 from rfl, show IntKind.u8.max = 255 from rfl] at hw
    omega
  have e : ((UInt8.ofNat m.toNat).toNat : Int) = m := by
    rw [UInt8.toNat_ofNat_of_lt' (show m.toNat < 256 by omega)]; omega
  exact ⟨UInt8.ofNat m.toNat, by simp only [byteD, e]⟩

theorem bytes_of {n : Nat} : ∀ (xs : List D), (∀ y, y ∈ xs → okD Try.prog (n + 1) 5 y) → ∃ bs : List UInt8, xs = bs.map byteD
  | [], _ => ⟨[], rfl⟩
  | x :: xs, h => by
    obtain ⟨c, rfl⟩ := byte_of (h x (by simp))
    obtain ⟨bs, rfl⟩ := bytes_of xs fun y hy => h y (by simp [hy])
    exact ⟨c :: bs, rfl⟩

theorem dig_of {n : Nat} {x : D} (h : okD Try.prog (n + 2) 33 x) : ∃ bs : List UInt8, bs.length = 32 ∧ x = .arr 32 1 (bs.map byteD) := by
  have hu : Try.prog.underlying 33 = some (.array 32 5) := rfl
  have hc : Try.prog.cellsOf 5 = 1 := rfl
  rw [show n + 2 = (n + 1) + 1 from rfl, okD, hu] at h
  obtain ⟨xs, rfl, hl, hx⟩ := h
  obtain ⟨bs, rfl⟩ := bytes_of (n := n) xs hx
  exact ⟨bs, by simpa using hl, by rw [hc]⟩

theorem int_of {n : Nat} {x : D} (h : okD Try.prog (n + 1) 3 x) : ∃ m : Int, x = .int .i64 m ∧ -9223372036854775808 ≤ m ∧ m ≤ 9223372036854775807 := by
  have hu : Try.prog.underlying 3 = some (.int .i64) := rfl
  simp only [okD, hu] at h
  obtain ⟨m, rfl, hw⟩ := h
  refine ⟨m, rfl, ?_⟩
  simp only [Lit.wf, Bool.and_eq_true, decide_eq_true_eq] at hw
  rw [show IntKind.i64.min = -9223372036854775808 from rfl, show IntKind.i64.max = 9223372036854775807 from rfl] at hw
  exact hw

theorem bool_of {n : Nat} {x : D} (h : okD Try.prog (n + 1) 4 x) : ∃ b : Bool, x = .bool b := by
  have hu : Try.prog.underlying 4 = some .bool := rfl
  simp only [okD, hu] at h
  exact h

end Go.Proofs.Ytdceegllpcepnaa

/-
What a reading's bulk bounds; readings of bytes and of numbers without a sign.
-/
set_option linter.unusedSimpArgs false
set_option linter.unusedVariables false
namespace Go.Proofs.Ytdceegllpcepnaa
open Go.Sym
set_option maxRecDepth 100000

theorem uptoAll_append {H : Type} (l r : List (DataW H)) : Rows.uptoBulkAll (l ++ r) = Rows.uptoBulkAll l + Rows.uptoBulkAll r := by
  induction l with
  | nil => simp [Rows.uptoBulkAll]
  | cons x l ih => simp only [List.cons_append, Rows.uptoBulkAll, ih]; omega

mutual
theorem bulk_le {H : Type} : ∀ {x : D} {d : DataW H}, RelD x d → x.bulk ≤ Rows.uptoBulk d
  | _, _, .int _ _ => by simp [D.bulk, Rows.uptoBulk]
  | _, _, .bool _ => by simp [D.bulk, Rows.uptoBulk]
  | _, _, .str s => by simp [D.bulk, Rows.uptoBulk]
  | _, _, .st h => by have := bulks_le h; simp only [D.bulk, Rows.uptoBulk]; omega
  | _, _, .arr h => by have := bulks_le h; simp only [D.bulk, Rows.uptoBulk]; omega
  | _, _, .slnil => by simp [D.bulk, D.bulks, Rows.uptoBulk]
  | _, _, .sl h => by have := bulks_le h; simp only [D.bulk, Rows.uptoBulk]; omega
theorem bulks_le {H : Type} : ∀ {xs : List D} {ds : List (DataW H)}, RelL xs ds → D.bulks xs ≤ Rows.uptoBulkAll ds
  | _, _, .nil => by simp [D.bulks]
  | _, _, .cons h hs => by have := bulk_le h; have := bulks_le hs; simp only [D.bulks, Rows.uptoBulkAll]; omega
end

theorem bulk_pos (x : D) : 1 ≤ x.bulk := by cases x <;> simp [D.bulk]
theorem bulks_len : ∀ xs : List D, xs.length ≤ D.bulks xs
  | [] => by simp [D.bulks]
  | x :: xs => by have := bulk_pos x; have := bulks_len xs; simp only [D.bulks, List.length_cons]; omega

theorem bulk_of {H : Type} {xs : List D} {ds gs : List (DataW H)} (hr : RelL xs ds) (hk : Rows.uptoSmall H (ds ++ gs) = true) : D.bulks xs ≤ 1048576 := by
  have h1 := of_decide_eq_true hk
  rw [uptoAll_append] at h1
  have := bulks_le hr
  omega

theorem u64_of {n : Nat} {x : D} (h : okD Try.prog (n + 1) 54 x) : ∃ m : Nat, x = .int .u64 (m : Int) ∧ m < 2 ^ 64 := by
  have hu : Try.prog.underlying 54 = some (.int .u64) := rfl
  simp only [okD, hu] at h
  obtain ⟨m, rfl, hw⟩ := h
  simp only [Lit.wf, Bool.and_eq_true, decide_eq_true_eq] at hw
  rw [show IntKind.u64.min = 0 from rfl, show IntKind.u64.max = 18446744073709551615 from rfl] at hw
  exact ⟨m.toNat, by rw [Int.toNat_of_nonneg hw.1], by omega⟩

theorem sl_of {n : Nat} {x : D} (h : okD Try.prog (n + 2) 23 x) : ∃ bs : List UInt8, x = .sl (bs.map byteD) := by
  have hu : Try.prog.underlying 23 = some (.slice 5) := rfl
  rw [show n + 2 = (n + 1) + 1 from rfl, okD, hu] at h
  obtain ⟨xs, rfl, _, hx⟩ := h
  obtain ⟨bs, rfl⟩ := bytes_of (n := n) xs hx
  exact ⟨bs, rfl⟩

end Go.Proofs.Ytdceegllpcepnaa

/-
Words that all seats share.
-/
set_option linter.unusedSimpArgs false
set_option linter.unusedVariables false
namespace Go.Proofs.Ytdceegllpcepnaa
open Go.Sym
set_option maxRecDepth 10000
set_option maxHeartbeats 4000000

theorem mixed : Try.prog.follows .mixedOrders = true := by decide

theorem room_le {a b k : Nat} (h : Room b 1) (hk : k = 1) (hab : a ≤ b) : Room a k := by
  subst hk
  unfold Room at *
  exact Nat.le_trans (Nat.mul_le_mul_right _ (by omega)) h

theorem beq_ne {a b : Nat} (h : a ≠ b) : a.beq b = false := by
  cases hb : a.beq b with
  | true => exact absurd (Nat.eq_of_beq_eq_true hb) h
  | false => rfl

theorem ren_two {A B : Nat} (h : A ≠ B) {args : List AV} {xs ys : List D} {r : AV} (ha : ∀ n, n ∈ AV.namesL args → n = 1) (hr : ∀ n, n ∈ r.names → n = 1 ∨ n = 2) :
    renOK [(1, A), (2, B)] [(A, 1), (B, 2)] args [(1, .row 1 xs)] [2] r [(2, .row 1 ys), (1, .dead)] = true := by
  have h2 := beq_ne h
  simp only [renOK, Bool.and_eq_true, List.all_eq_true]
  refine ⟨⟨⟨⟨?_, fun n hn => ?_⟩, ?_⟩, fun n hn => ?_⟩, ?_⟩
  · intro n hn
    simp at hn
    rcases hn with rfl | rfl
    · show (renN [(A, 1), (B, 2)] A).beq 1 = true
      simp [renN, lkp]
    · show (renN [(A, 1), (B, 2)] B).beq 2 = true
      simp [renN, lkp, h2]
  · rw [ha n hn]; rfl
  · intro p hp; simp at hp; subst hp; intro n hn; cases hn
  · rcases hr n hn with rfl | rfl <;> rfl
  · intro p hp
    simp at hp
    rcases hp with rfl | rfl <;> exact ⟨rfl, fun n hn => by cases hn⟩

theorem wrapU64_id {n : Int} (h0 : 0 ≤ n) (h1 : n < 18446744073709551616) : IntKind.u64.wrap n = n := by
  have e : IntKind.u64.wrap n = n % 18446744073709551616 := by simp [IntKind.wrap, IntKind.signed, IntKind.bits]
  rw [e]; omega

theorem room_lt {n : Nat} (h : Room n 1) : n < 2 ^ 48 := by unfold Room at h; omega

theorem str_eq (a b : List UInt8) : D.bool ((⟨a.toArray⟩ : ByteArray).toList == (⟨b.toArray⟩ : ByteArray).toList) = D.bool (decide (a = b)) := by
  rw [ByteArray.toList_eq, ByteArray.toList_eq]
  congr 1
  rw [Bool.eq_iff_iff]; simp

theorem size_bytes (l : List UInt8) : ∀ y, y ∈ l.map byteD → y.size = 1 := fun y hy => by
  obtain ⟨c, _, rfl⟩ := List.mem_map.1 hy; rfl

def tD (v : List UInt8) : D := .sl (v.map byteD)

theorem take_ne {α : Type} {xs ys : List α} {i : Nat} {d : α} (h : ¬ xs.getD i d = ys.getD i d) : ¬ xs = ys := fun e => h (by rw [e])

theorem take_more {α : Type} {xs ys : List α} {i : Nat} {d : α} (hx : i < xs.length) (hy : i < ys.length) (h : xs.take i = ys.take i) (he : xs.getD i d = ys.getD i d) : xs.take (i + 1) = ys.take (i + 1) := by
  rw [List.getD_eq_getElem?_getD, List.getD_eq_getElem?_getD, List.getElem?_eq_getElem hx, List.getElem?_eq_getElem hy] at he
  have he : xs[i] = ys[i] := he
  rw [List.take_succ_eq_append_getElem hx, List.take_succ_eq_append_getElem hy, h, he]

theorem take_all {α : Type} {xs ys : List α} {i : Nat} (hl : xs.length = ys.length) (hi : xs.length ≤ i) (h : xs.take i = ys.take i) : xs = ys := by
  rwa [List.take_of_length_le hi, List.take_of_length_le (by omega)] at h

theorem map_at {α : Type} {f : α → D} {xs : List α} {i : Nat} {d : α} (hi : i < xs.length) : (xs.map f).getD i .nilp = f (xs.getD i d) ∧ (Option.map f xs[i]?).getD .nilp = f (xs.getD i d) := by
  rw [List.getD_eq_getElem?_getD, List.getElem?_map, List.getD_eq_getElem?_getD, List.getElem?_eq_getElem hi]; exact ⟨rfl, rfl⟩

theorem bool_no {p : Prop} [Decidable p] (h : ¬ p) : D.bool false = D.bool (decide p) := by rw [decide_eq_false h]

theorem bool_yes {p : Prop} [Decidable p] (h : p) : D.bool true = D.bool (decide p) := by rw [decide_eq_true h]

theorem room23 {k j : Nat} (hj : j = 1) (h : k ≤ 2 ^ 26) : Room k j := by subst hj; unfold Room; omega

theorem mem_flatten_len {α : Type} {t : List α} : ∀ {ts : List (List α)}, t ∈ ts → t.length ≤ ts.flatten.length
  | x :: xs, h => by
    rw [List.flatten_cons, List.length_append]
    rcases List.mem_cons.1 h with rfl | h
    · omega
    · have := mem_flatten_len h; omega

theorem decide_swap (p q : Prop) [Decidable p] [Decidable q] (h : p ↔ q) : decide p = decide q := by
  by_cases hp : p
  · rw [decide_eq_true hp, decide_eq_true (h.1 hp)]
  · rw [decide_eq_false hp, decide_eq_false (fun hq => hp (h.2 hq))]

end Go.Proofs.Ytdceegllpcepnaa

/-
Numbers as bytes: what is written.
-/
set_option linter.unusedSimpArgs false
set_option linter.unusedVariables false
namespace Go.Proofs.Ytdceegllpcepnaa
open Go.Sym
set_option maxRecDepth 10000
set_option maxHeartbeats 1000000

/-- A number as bytes. -/
def numB (n : Nat) : List UInt8 := if n < 128 then [UInt8.ofNat n] else UInt8.ofNat (n % 128 + 128) :: numB (n / 128)
termination_by n
decreasing_by omega

theorem numB_small {n : Nat} (h : n < 128) : numB n = [UInt8.ofNat n] := by rw [numB, if_pos h]
theorem numB_big {n : Nat} (h : ¬ n < 128) : numB n = UInt8.ofNat (n % 128 + 128) :: numB (n / 128) := by rw [numB, if_neg h]

theorem numB_len_le : ∀ (k n : Nat), n < 2 ^ (7 * k) → 0 < k → (numB n).length ≤ k
  | 0, n, h, hk => by omega
  | k + 1, n, h, _ => by
    by_cases hn : n < 128
    · rw [numB_small hn]; simp
    · rw [numB_big hn]
      have hk : 0 < k := by
        rcases Nat.eq_zero_or_pos k with rfl | hk
        · omega
        · exact hk
      have := numB_len_le k (n / 128) (by rw [show 7 * (k + 1) = 7 * k + 7 by omega, Nat.pow_add] at h; omega) hk
      simp; omega

theorem numB_pos (n : Nat) : 0 < (numB n).length := by
  by_cases hn : n < 128
  · rw [numB_small hn]; simp
  · rw [numB_big hn]; simp

theorem numB_le10 {n : Nat} (h : n < 2 ^ 64) : (numB n).length ≤ 10 := numB_len_le 10 n (by omega) (by omega)

theorem wrap8 (m : Nat) : IntKind.u8.wrap (m : Int) = ((m % 256 : Nat) : Int) := by
  have : IntKind.u8.wrap (m : Int) = (m : Int) % 256 := by simp [IntKind.wrap, IntKind.signed, IntKind.bits]
  rw [this]; omega

theorem byteD_of {k : Nat} (h : k < 256) : byteD (UInt8.ofNat k) = .int .u8 (k : Int) := by
  unfold byteD
  rw [UInt8.toNat_ofNat_of_lt' (show k < 256 by omega)]

theorem or128 (m : Nat) : D.int .u8 (aBits .or .u8 (IntKind.u8.wrap (m : Int)) 128) = byteD (UInt8.ofNat (m % 128 + 128)) := by
  rw [byteD_of (by omega), wrap8]
  have key : ∀ k : Fin 256, aBits .or .u8 ((k.val : Nat) : Int) 128 = ((k.val % 128 + 128 : Nat) : Int) := by decide +kernel
  rw [key ⟨m % 256, by omega⟩]
  congr 2
  show m % 256 % 128 + 128 = _
  omega

theorem low8 {m : Nat} (h : m < 128) : D.int .u8 (IntKind.u8.wrap (m : Int)) = byteD (UInt8.ofNat m) := by
  rw [byteD_of (by omega), wrap8]
  congr 2
  omega

theorem shr7 (m : Nat) : shrI .u64 (m : Int) 7 = ((m / 128 : Nat) : Int) := by
  have hb : IntKind.u64.bits = 64 := rfl
  unfold shrI
  rw [hb, Int.fdiv_eq_ediv_of_nonneg _ (by decide)]
  rfl

theorem numB_step {xs acc : List D} {n m : Nat} (h : ¬ m < 128) (hI : acc ++ (numB m).map byteD = xs ++ (numB n).map byteD) :
    (acc ++ [byteD (UInt8.ofNat (m % 128 + 128))]) ++ (numB (m / 128)).map byteD = xs ++ (numB n).map byteD := by
  rw [numB_big h] at hI
  rw [← hI]; simp

theorem size_byte (c : UInt8) : (byteD c).size = 1 := rfl

end Go.Proofs.Ytdceegllpcepnaa

/-
The references: same texts, joined texts.
-/
set_option linter.unusedSimpArgs false
set_option linter.unusedVariables false
namespace Go.Proofs.Ytdceegllpcepnaa
open Go.Sym
set_option maxRecDepth 10000
set_option maxHeartbeats 4000000

/-- Rows of bytes, one behind the other. -/
def joinD (ls : List D) : List D := ls.flatMap D.els

theorem joinD_take (ls : List D) {i : Nat} (h : i < ls.length) : joinD (ls.take i) ++ (ls.getD i .nilp).els = joinD (ls.take (i + 1)) := by
  unfold joinD
  rw [List.take_succ_eq_append_getElem h, List.flatMap_append, List.getD_eq_getElem?_getD, List.getElem?_eq_getElem h]
  simp

theorem joinD_sub (ls : List D) (i : Nat) : (joinD (ls.take i)).length ≤ (joinD ls).length := by
  have : joinD ls = joinD (ls.take i) ++ joinD (ls.drop i) := by
    unfold joinD
    rw [← List.flatMap_append, List.take_append_drop]
  rw [this]; simp

theorem join_ok (ls : List D) (hs : ∀ y, y ∈ ls → ∃ l, y = .sl l) (hl : ls.length < 2 ^ 62) (h1 : ∀ y, y ∈ joinD ls → y.size = 1) (hroom : Room (joinD ls).length 1) : LocalCall Try.prog 72 [.d (.sl ls)] [] [] (one [.d (.sl (joinD ls))]) [] := by
  refine vc_fn mixed Try.func72 rfl rfl [(500001, [7001003])] (vc_chk rfl) ?_
  repeat' (first
      | ((with_reducible refine vc_chk ?_); first | decide +kernel | rfl)
      | (with_reducible refine vc_side0 ?_; rfl)
      | (with_reducible first
           | refine vc_true ?_ | refine vc_true2 ?_ | refine vc_side ?_ ?_ | refine vc_triv | refine vc_later ?_ | refine vc_caseT ?_ | refine vc_caseF ?_ | refine vc_cons ?_ | refine vc_nil ?_ ?_ | refine vc_seq ?_
              | refine vc_region ?_ | refine vc_cond ?_ | refine vc_block ?_ | refine vc_retc ?_ | refine vc_exit ?_ | refine vc_skip ?_ | refine vc_scope ?_ | refine vc_label ?_ | refine vc_goto ?_ | refine vc_wkSl0
              | refine vc_wkHp0 | refine vc_eqAVs0 | refine vc_preG0 | refine vc_wkSl ?_ ?_ | refine vc_wkHp ?_ ?_ | refine vc_eqAVs ?_ ?_ | refine vc_preG ?_ ?_ | refine vc_side0 ?_
              | refine vc_loopI 18 (fun (i : Nat) => [(0, .d (.sl ls)), (3, .sl 7 [] 1 0 (joinD (ls.take i)).length), (4, .d (.int .i64 (i : Int)))]) (fun i => [(7, .row 1 (joinD (ls.take i)))]) (fun i => ls.length - i) (fun i => i ≤ ls.length) 0 [] ?_ ?_ ?_ ?_ ?_ (fun i hI => ?_)
              | refine vc_nextI (i + 1) [(7, 6020)] ?_ ?_ ?_ ?_ ?_ ?_ | refine vc_ret [true] [] ?_ | refine vc_weakf [] ?_ ?_ ?_ | refine vc_and ?_ ?_ | refine vc_ret [] [] ?_)
      | ((with_reducible first | refine vc_caseD (fun h => ?_) (fun h => ?_) | refine vc_caseN (fun h => ?_) (fun h => ?_)) <;> try (exfalso; omega))
      | ((with_reducible refine vc_case (fun h => ?_) (fun h => ?_)) <;> (try simp at h) <;> try (exfalso; omega))
      | (conv in Vc _ => arg 1; whnf
         first
          | (with_reducible refine vc_side0 ?_; rfl)
          | (with_reducible first
              | refine vc_true ?_ | refine vc_true2 ?_ | refine vc_side ?_ ?_ | refine vc_triv | refine vc_later ?_ | refine vc_caseT ?_ | refine vc_caseF ?_ | refine vc_cons ?_ | refine vc_nil ?_ ?_ | refine vc_seq ?_
                 | refine vc_region ?_ | refine vc_cond ?_ | refine vc_block ?_ | refine vc_retc ?_ | refine vc_exit ?_ | refine vc_skip ?_ | refine vc_scope ?_ | refine vc_label ?_ | refine vc_goto ?_ | refine vc_wkSl0
                 | refine vc_wkHp0 | refine vc_eqAVs0 | refine vc_preG0 | refine vc_wkSl ?_ ?_ | refine vc_wkHp ?_ ?_ | refine vc_eqAVs ?_ ?_ | refine vc_preG ?_ ?_ | refine vc_side0 ?_
                 | refine vc_loopI 18 (fun (i : Nat) => [(0, .d (.sl ls)), (3, .sl 7 [] 1 0 (joinD (ls.take i)).length), (4, .d (.int .i64 (i : Int)))]) (fun i => [(7, .row 1 (joinD (ls.take i)))]) (fun i => ls.length - i) (fun i => i ≤ ls.length) 0 [] ?_ ?_ ?_ ?_ ?_ (fun i hI => ?_)
                 | refine vc_nextI (i + 1) [(7, 6020)] ?_ ?_ ?_ ?_ ?_ ?_ | refine vc_ret [true] [] ?_ | refine vc_weakf [] ?_ ?_ ?_ | refine vc_and ?_ ?_ | refine vc_ret [] [] ?_)
          | ((with_reducible first | refine vc_caseD (fun h => ?_) (fun h => ?_) | refine vc_caseN (fun h => ?_) (fun h => ?_)) <;> try (exfalso; omega))
          | ((with_reducible refine vc_case (fun h => ?_) (fun h => ?_)) <;> (try simp at h) <;> try (exfalso; omega))))
  all_goals (try simp only [Int.toNat_natCast])
  all_goals first
    | rfl
    | omega
    | (rw [joinD_take ls (by omega)]; done)
    | (congr 1; rw [wrap64_id (by omega) (by omega)]; omega)
    | (refine ⟨⟨by omega, by omega⟩, ?_⟩
       obtain ⟨l, e⟩ := hs (ls.getD i .nilp) (by rw [List.getD_eq_getElem?_getD, List.getElem?_eq_getElem (by omega)]; simp)
       rw [e]; rfl)
    | (refine ⟨⟨trivial, by first | trivial | rfl, room_le hroom rfl ?_⟩, fun y hy => h1 y ?_⟩
       · rw [joinD_take ls (by omega)]; exact joinD_sub ls _
       · unfold joinD
         refine List.mem_flatMap.2 ⟨ls.getD i .nilp, ?_, hy⟩
         rw [List.getD_eq_getElem?_getD, List.getElem?_eq_getElem (by omega)]; simp)
    | (obtain rfl : i = ls.length := by omega
       rw [List.take_length]; done)
    | (obtain rfl : i = ls.length := by omega
       rw [List.take_length]; rw [List.drop_zero, List.take_length]; done)
    | (obtain rfl : i = ls.length := by omega
       rw [List.take_length]; exact ⟨Nat.le_of_eq (Nat.zero_add _), trivial⟩)
    | (obtain rfl : i = ls.length := by omega
       exact ⟨Nat.le_of_eq (Nat.zero_add _), trivial⟩)

theorem pair_join (a b : List D) : joinD [.sl a, .sl b] = a ++ b := by simp [joinD, D.els]

theorem join2 (a b : List D) (ha : ∀ y, y ∈ a → y.size = 1) (hb : ∀ y, y ∈ b → y.size = 1) (hroom : Room (a ++ b).length 1) : LocalCall Try.prog 72 [.d (.sl [.sl a, .sl b])] [] [] (one [.d (.sl (a ++ b))]) [] := by
  have := join_ok [.sl a, .sl b] (fun y hy => by
    simp only [List.mem_cons, List.not_mem_nil, or_false] at hy
    rcases hy with rfl | rfl <;> exact ⟨_, rfl⟩) (by simp) (by rw [pair_join]; intro y hy; exact (List.mem_append.1 hy).elim (ha y) (hb y)) (by rw [pair_join]; exact hroom)
  rw [pair_join] at this
  exact this

theorem joinD_texts : ∀ ts : List (List UInt8), joinD (ts.map tD) = ts.flatten.map byteD
  | [] => rfl
  | t :: ts => by
    have := joinD_texts ts
    simp only [joinD, List.map_cons, List.flatMap_cons, List.flatten_cons, List.map_append] at this ⊢
    rw [this]; rfl

theorem join_b (ts : List (List UInt8)) (hl : ts.length < 2 ^ 62) (hroom : Room ts.flatten.length 1) : LocalCall Try.prog 72 [.d (.sl (ts.map tD))] [] [] (one [.d (.sl (ts.flatten.map byteD))]) [] := by
  have := join_ok (ts.map tD) (fun y hy => by obtain ⟨t, _, rfl⟩ := List.mem_map.1 hy; exact ⟨_, rfl⟩) (by rw [List.length_map]; exact hl) (by rw [joinD_texts]; exact size_bytes _) (by rw [joinD_texts, List.length_map]; exact hroom)
  rw [joinD_texts] at this
  exact this

end Go.Proofs.Ytdceegllpcepnaa

/-
Texts and digests as bytes; the references' joins.
-/
set_option linter.unusedSimpArgs false
set_option linter.unusedVariables false
namespace Go.Proofs.Ytdceegllpcepnaa
open Go.Sym
set_option maxRecDepth 10000
set_option maxHeartbeats 1000000

theorem rstep (m : Nat) : D.int .u8 (IntKind.u8.wrap (IntKind.u64.wrap (128 + (m : Int).tmod 128))) = byteD (UInt8.ofNat (m % 128 + 128)) := by
  have e : (128 + (m : Int).tmod 128) = ((m % 128 + 128 : Nat) : Int) := by
    rw [Int.tmod_eq_emod_of_nonneg (by omega)]; omega
  rw [e, wrapU64_id (by omega) (by omega), wrap8, byteD_of (by omega)]
  congr 2
  omega

theorem rdiv {m : Nat} (h : m < 2 ^ 64) : IntKind.u64.wrap ((m : Int).tdiv 128) = ((m / 128 : Nat) : Int) := by
  have e : (m : Int).tdiv 128 = ((m / 128 : Nat) : Int) := by
    rw [Int.tdiv_eq_ediv_of_nonneg (by omega)]; omega
  rw [e, wrapU64_id (by omega) (by omega)]

end Go.Proofs.Ytdceegllpcepnaa

/-
The references' joins and texts.
-/
set_option linter.unusedSimpArgs false
set_option linter.unusedVariables false
namespace Go.Proofs.Ytdceegllpcepnaa
open Go.Sym
set_option maxRecDepth 10000
set_option maxHeartbeats 1000000

end Go.Proofs.Ytdceegllpcepnaa

/-
What the deferred closure of codec.Read does.
-/
set_option linter.unusedSimpArgs false
set_option linter.unusedVariables false
namespace Go.Proofs.Ytdceegllpcepnaa
open Go.Sym
set_option maxRecDepth 10000
set_option maxHeartbeats 1000000


theorem is_nil (w : World) : (binOp .eql 20 .nilIface .nilIface).run Try.prog w = .ok (.bool true) w := by kernel_rfl
theorem FR_round (ro : Option Nat) : (FR ro).round = ro := rfl
theorem FR_fn (ro : Option Nat) (f : FuncId) : (FR ro).fn f = True := rfl
theorem FR_depth (ro : Option Nat) : (FR ro).depth = none := rfl

theorem tmpsC (p : Addr) (v : Value) : (#[Value.pointer (some p)] ++ (Array.replicate 9 undef).setIfInBounds 3 v) = #[.pointer (some p), undef, undef, undef, v, undef, undef, undef, undef, undef] := rfl

end Go.Proofs.Ytdceegllpcepnaa

/-
The reader: bytes and numbers.
-/
set_option linter.unusedSimpArgs false
set_option linter.unusedVariables false
namespace Go.Proofs.Ytdceegllpcepnaa
open Go.Sym
set_option maxRecDepth 10000
set_option maxHeartbeats 1000000

/-- A reader: bytes, and how many were read. -/
def rd (B : List D) (k : Nat) : AObj := .var (.d (.st [.sl B, .int .i64 (k : Int)]))

/-- A number read from a place on ('n': what the bytes up to now tell; 'k': how many they were). -/
def rdN (bs : List UInt8) : Nat → Nat → Nat → Nat → Option (Nat × Nat)
  | 0, _, _, _ => none
  | f + 1, at_, n, k => bif decide (at_ < bs.length) then
      bif (decide (k = 9) && decide (1 < (bs.getD at_ 0).toNat)) || (decide (0 < k) && decide ((bs.getD at_ 0).toNat = 0)) then none
      else bif decide ((bs.getD at_ 0).toNat < 128) then some (n + (bs.getD at_ 0).toNat % 128 * 2 ^ (7 * k), at_ + 1)
      else rdN bs f (at_ + 1) (n + (bs.getD at_ 0).toNat % 128 * 2 ^ (7 * k)) (k + 1)
    else none

theorem vc_by (p : Prop) [Decidable p] {q : Prop} (h1 : p → Vc q) (h2 : ¬ p → Vc q) : Vc q := if h : p then h1 h else h2 h

theorem rdN_step (bs : List UInt8) {k : Nat} (hk : k ≤ 9) (i n : Nat) : rdN bs (10 - k) i n k = bif decide (i < bs.length) then
      bif (decide (k = 9) && decide (1 < (bs.getD i 0).toNat)) || (decide (0 < k) && decide ((bs.getD i 0).toNat = 0)) then none
      else bif decide ((bs.getD i 0).toNat < 128) then some (n + (bs.getD i 0).toNat % 128 * 2 ^ (7 * k), i + 1)
      else rdN bs (10 - (k + 1)) (i + 1) (n + (bs.getD i 0).toNat % 128 * 2 ^ (7 * k)) (k + 1)
    else none := by
  obtain ⟨f, hf⟩ : ∃ f, 10 - k = f + 1 := ⟨9 - k, by omega⟩
  rw [hf, rdN, show f = 10 - (k + 1) by omega]

structure RdI (bs : List UInt8) (R : Option (Nat × Nat)) (x : Nat × Nat × Nat) : Prop where
  h : rdN bs (10 - x.2.1) x.2.2 x.1 x.2.1 = R
  lt : x.1 < 2 ^ (7 * x.2.1)
  le : x.2.1 ≤ 9

theorem RdI.cases {bs : List UInt8} {R : Option (Nat × Nat)} {n k i : Nat} (hI : RdI bs R (n, k, i)) : n < 2 ^ (7 * k) ∧ k ≤ 9 ∧ ((¬ i < bs.length ∧ R = none) ∨ (i < bs.length ∧ ∃ c, bs.getD i 0 = c ∧
    ((((7 * k = 63 ∧ 1 < c.toNat) ∨ (0 < k ∧ c.toNat = 0)) ∧ R = none) ∨
     (¬ (7 * k = 63 ∧ 1 < c.toNat) ∧ ¬ (0 < k ∧ c.toNat = 0) ∧ c.toNat < 128 ∧ R = some (n + c.toNat % 128 * 2 ^ (7 * k), i + 1)) ∨
     (¬ (7 * k = 63 ∧ 1 < c.toNat) ∧ ¬ (0 < k ∧ c.toNat = 0) ∧ ¬ c.toNat < 128 ∧ RdI bs R (n + c.toNat % 128 * 2 ^ (7 * k), k + 1, i + 1))))) := by
  obtain ⟨h, lt, le⟩ := hI
  simp only at h lt le
  refine ⟨lt, le, ?_⟩
  rw [rdN_step bs le] at h
  by_cases hi : i < bs.length
  · refine .inr ⟨hi, _, rfl, ?_⟩
    generalize bs.getD i 0 = c at h
    simp only [hi, decide_true, cond_true] at h
    by_cases hb : (7 * k = 63 ∧ 1 < c.toNat) ∨ (0 < k ∧ c.toNat = 0)
    · have e : ((decide (k = 9) && decide (1 < c.toNat)) || (decide (0 < k) && decide (c.toNat = 0))) = true := by
        simp only [Bool.or_eq_true, Bool.and_eq_true, decide_eq_true_eq]
        exact hb.imp (fun h => ⟨by omega, h.2⟩) id
      rw [e] at h
      exact .inl ⟨hb, h.symm⟩
    · have e : ((decide (k = 9) && decide (1 < c.toNat)) || (decide (0 < k) && decide (c.toNat = 0))) = false := by
        rw [Bool.eq_false_iff]
        simp only [ne_eq, Bool.or_eq_true, Bool.and_eq_true, decide_eq_true_eq]
        exact fun hq => hb (hq.imp (fun h => ⟨by omega, h.2⟩) id)
      rw [e] at h
      have hb1 := fun hq => hb (.inl hq)
      have hb2 := fun hq => hb (.inr hq)
      by_cases hc : c.toNat < 128
      · simp only [hc, decide_true, cond_true, cond_false] at h
        exact .inr (.inl ⟨hb1, hb2, hc, h.symm⟩)
      · simp only [hc, decide_false, cond_false] at h
        refine .inr (.inr ⟨hb1, hb2, hc, h, ?_, ?_⟩)
        · have := Nat.mod_lt c.toNat (show 0 < 128 by omega)
          simp only
          rw [show 7 * (k + 1) = 7 * k + 7 by omega, Nat.pow_add]
          generalize c.toNat % 128 = d at this
          have : (d + 1) * 2 ^ (7 * k) ≤ 128 * 2 ^ (7 * k) := Nat.mul_le_mul_right _ (by omega)
          rw [Nat.add_mul] at this
          omega
        · have hlt := c.toNat_lt
          simp only
          omega
  · refine .inl ⟨hi, ?_⟩
    simp only [hi, decide_false, cond_false] at h
    exact h.symm

theorem RdI.ok {bs : List UInt8} {v e : Nat} {x : Nat × Nat × Nat} (hI : RdI bs (some (v, e)) x) {q : Prop} (h : ∀ c : UInt8, bs.getD x.2.2 0 = c → x.2.2 < bs.length → x.1 < 2 ^ (7 * x.2.1) → x.2.1 ≤ 9 → ¬ (7 * x.2.1 = 63 ∧ 1 < c.toNat) → ¬ (0 < x.2.1 ∧ c.toNat = 0) →
    (c.toNat < 128 → v = x.1 + c.toNat % 128 * 2 ^ (7 * x.2.1) ∧ e = x.2.2 + 1) → (¬ c.toNat < 128 → RdI bs (some (v, e)) (x.1 + c.toNat % 128 * 2 ^ (7 * x.2.1), x.2.1 + 1, x.2.2 + 1)) → Vc q) : Vc q := by
  obtain ⟨n, k, i⟩ := x
  obtain ⟨lt, le, ⟨_, h1⟩ | ⟨hi, c, hc, ⟨_, h1⟩ | ⟨h1, h2, h3, h4⟩ | ⟨h1, h2, h3, h4⟩⟩⟩ := hI.cases
  · cases h1
  · cases h1
  · cases h4; exact h c hc hi lt le h1 h2 (fun _ => ⟨rfl, rfl⟩) (fun h => absurd h3 h)
  · exact h c hc hi lt le h1 h2 (fun h => absurd h h3) (fun _ => h4)

theorem RdI.no {bs : List UInt8} {x : Nat × Nat × Nat} (hI : RdI bs none x) {q : Prop} (h0 : ¬ x.2.2 < bs.length → Vc q) (h : ∀ c : UInt8, bs.getD x.2.2 0 = c → x.2.2 < bs.length → x.1 < 2 ^ (7 * x.2.1) → x.2.1 ≤ 9 → ((7 * x.2.1 = 63 ∧ 1 < c.toNat) ∨ (0 < x.2.1 ∧ c.toNat = 0) ∨ ¬ c.toNat < 128) →
    (¬ (7 * x.2.1 = 63 ∧ 1 < c.toNat) → ¬ (0 < x.2.1 ∧ c.toNat = 0) → RdI bs none (x.1 + c.toNat % 128 * 2 ^ (7 * x.2.1), x.2.1 + 1, x.2.2 + 1)) → Vc q) : Vc q := by
  obtain ⟨n, k, i⟩ := x
  obtain ⟨lt, le, ⟨hi, _⟩ | ⟨hi, c, hc, ⟨hb, _⟩ | ⟨h1, h2, h3, h4⟩ | ⟨h1, h2, h3, h4⟩⟩⟩ := hI.cases
  · exact h0 hi
  · exact h c hc hi lt le (hb.imp id .inl) (fun a b => hb.elim (fun h => absurd h a) (fun h => absurd h b))
  · cases h4
  · exact h c hc hi lt le (.inr (.inr h3)) (fun _ _ => h4)

theorem and127 (c : UInt8) : aBits .and .u8 (c.toNat : Int) 127 = ((c.toNat % 128 : Nat) : Int) := by
  have key : ∀ k : Fin 256, aBits .and .u8 ((k.val : Nat) : Int) 127 = ((k.val % 128 : Nat) : Int) := by decide +kernel
  exact key ⟨c.toNat, c.toNat_lt⟩

theorem orNat {a b : Nat} (ha : a < 2 ^ 64) (hb : b < 2 ^ 64) : aBits .or .u64 (a : Int) (b : Int) = ((a ||| b : Nat) : Int) := by
  have hlt := Nat.or_lt_two_pow ha hb
  have e : (BitVec.ofInt 64 (a : Int) ||| BitVec.ofInt 64 (b : Int)).toNat = a ||| b := by
    rw [BitVec.toNat_or, BitVec.ofInt_natCast, BitVec.ofInt_natCast, BitVec.toNat_ofNat, BitVec.toNat_ofNat, Nat.mod_eq_of_lt ha, Nat.mod_eq_of_lt hb]
  show IntKind.u64.wrap (((BitVec.ofInt 64 (a : Int) ||| BitVec.ofInt 64 (b : Int)).toNat : Nat) : Int) = _
  rw [e, wrapU64_id (by omega) (by omega)]

theorem or_shift {n k : Nat} {c : UInt8} (hn : n < 2 ^ (7 * k)) (hk : k ≤ 9) (h1 : ¬ (7 * k = 63 ∧ 1 < c.toNat)) :
    aBits .or .u64 (n : Int) (shlI .u64 (IntKind.u64.wrap (aBits .and .u8 (c.toNat : Int) 127)) ((7 * k : Nat) : Int)) = ((n + c.toNat % 128 * 2 ^ (7 * k) : Nat) : Int) := by
  have hd : c.toNat % 128 < 128 := Nat.mod_lt _ (by omega)
  have hp : 2 ^ (7 * k) ≤ 2 ^ 63 := Nat.pow_le_pow_right (by omega) (by omega)
  have hbig : c.toNat % 128 * 2 ^ (7 * k) < 2 ^ 64 := by
    rcases Nat.lt_or_ge k 9 with h9 | h9
    · have h56 : 2 ^ (7 * k) ≤ 2 ^ 56 := Nat.pow_le_pow_right (by omega) (by omega)
      calc c.toNat % 128 * 2 ^ (7 * k) ≤ 127 * 2 ^ 56 := Nat.mul_le_mul (by omega) h56
        _ < 2 ^ 64 := by decide
    · obtain rfl : k = 9 := by omega
      have : c.toNat ≤ 1 := by omega
      have : c.toNat % 128 ≤ 1 := by omega
      calc c.toNat % 128 * 2 ^ (7 * 9) ≤ 1 * 2 ^ 63 := Nat.mul_le_mul this (Nat.le_refl _)
        _ < 2 ^ 64 := by decide
  have hs : shlI .u64 (IntKind.u64.wrap (aBits .and .u8 (c.toNat : Int) 127)) ((7 * k : Nat) : Int) = ((c.toNat % 128 * 2 ^ (7 * k) : Nat) : Int) := by
    rw [and127, wrapU64_id (by omega) (by omega)]
    have hm : min ((7 * k : Nat) : Int).toNat IntKind.u64.bits = 7 * k := by
      show min (7 * k) 64 = _
      omega
    unfold shlI
    rw [hm]
    have : ((c.toNat % 128 : Nat) : Int) * 2 ^ (7 * k) = ((c.toNat % 128 * 2 ^ (7 * k) : Nat) : Int) := by
      rw [Int.natCast_mul, Int.natCast_pow]; rfl
    rw [this, wrapU64_id (by omega) (by omega)]
  rw [hs, orNat (by omega) hbig]
  congr 1
  rw [Nat.or_comm, Nat.mul_comm, ← Nat.two_pow_add_eq_or_of_lt hn]
  omega

end Go.Proofs.Ytdceegllpcepnaa

/-
The reader's numbers.
-/
set_option linter.unusedSimpArgs false
set_option linter.unusedVariables false
namespace Go.Proofs.Ytdceegllpcepnaa
open Go.Sym
set_option maxRecDepth 10000
set_option maxHeartbeats 1000000

end Go.Proofs.Ytdceegllpcepnaa

/-
The reader's counts, and numbers one behind the other.
-/
set_option linter.unusedSimpArgs false
set_option linter.unusedVariables false
namespace Go.Proofs.Ytdceegllpcepnaa
open Go.Sym
set_option maxRecDepth 10000
set_option maxHeartbeats 1000000

/-- A number that is at most so great. -/
def rdC (bs : List UInt8) (most : Int) (k : Nat) : Option (Nat × Nat) := match rdN bs 10 k 0 0 with
  | some (v, e) => bif decide (0 ≤ most) && decide ((v : Int) ≤ most) then some (v, e) else none
  | none => none

theorem rdC_ok {bs : List UInt8} {most : Int} {k v e : Nat} (h : rdC bs most k = some (v, e)) : rdN bs 10 k 0 0 = some (v, e) ∧ 0 ≤ most ∧ (v : Int) ≤ most := by
  unfold rdC at h
  split at h
  · rename_i v' e' hr
    cases hb : decide (0 ≤ most) && decide ((v' : Int) ≤ most) with
    | true =>
      rw [hb] at h
      cases h
      simp only [Bool.and_eq_true, decide_eq_true_eq] at hb
      exact ⟨hr, hb.1, hb.2⟩
    | false => rw [hb] at h; cases h
  · cases h

theorem rdC_no {bs : List UInt8} {most : Int} {k : Nat} (h : rdC bs most k = none) : rdN bs 10 k 0 0 = none ∨ ∃ v e, rdN bs 10 k 0 0 = some (v, e) ∧ ¬ (0 ≤ most ∧ (v : Int) ≤ most) := by
  unfold rdC at h
  split at h
  · rename_i v' e' hr
    refine .inr ⟨v', e', hr, fun hq => ?_⟩
    simp only [hq.1, hq.2, decide_true, Bool.and_self, cond_true] at h
    cases h
  · exact .inl ‹_›

end Go.Proofs.Ytdceegllpcepnaa

/-
The reader's texts and digests.
-/
set_option linter.unusedSimpArgs false
set_option linter.unusedVariables false
namespace Go.Proofs.Ytdceegllpcepnaa
open Go.Sym
set_option maxRecDepth 10000
set_option maxHeartbeats 1000000

theorem rdN_le (bs : List UInt8) : ∀ (f k n j v e : Nat), rdN bs f k n j = some (v, e) → k < e ∧ e ≤ bs.length
  | 0, k, n, j, v, e, h => by cases h
  | f + 1, k, n, j, v, e, h => by
    rw [rdN] at h
    by_cases hk : k < bs.length
    · simp only [hk, decide_true, cond_true] at h
      cases hb : (decide (j = 9) && decide (1 < (bs.getD k 0).toNat)) || (decide (0 < j) && decide ((bs.getD k 0).toNat = 0)) with
      | true => rw [hb] at h; cases h
      | false =>
        rw [hb] at h
        by_cases hc : (bs.getD k 0).toNat < 128
        · simp only [hc, decide_true, cond_true, cond_false] at h
          cases h; omega
        · simp only [hc, decide_false, cond_false] at h
          have := rdN_le bs f _ _ _ _ _ h
          omega
    · simp only [hk, decide_false, cond_false] at h
      cases h

/-- A text. -/
def rdT (bs : List UInt8) (k : Nat) : Option (List UInt8 × Nat) := match rdC bs 1048576 k with
  | some (n, e) => bif decide (e + n ≤ bs.length) then some ((bs.drop e).take n, e + n) else none
  | none => none

theorem rdT_ok {bs ts : List UInt8} {k m : Nat} (h : rdT bs k = some (ts, m)) : ∃ n e, rdC bs 1048576 k = some (n, e) ∧ e + n ≤ bs.length ∧ ts = (bs.drop e).take n ∧ m = e + n := by
  unfold rdT at h
  split at h
  · rename_i n e hr
    cases hb : decide (e + n ≤ bs.length) with
    | true => rw [hb] at h; cases h; exact ⟨n, e, hr, of_decide_eq_true hb, rfl, rfl⟩
    | false => rw [hb] at h; cases h
  · cases h

theorem rdT_no {bs : List UInt8} {k : Nat} (h : rdT bs k = none) : rdC bs 1048576 k = none ∨ ∃ n e, rdC bs 1048576 k = some (n, e) ∧ ¬ e + n ≤ bs.length := by
  unfold rdT at h
  split at h
  · rename_i n e hr
    refine .inr ⟨n, e, hr, fun hq => ?_⟩
    rw [decide_eq_true hq] at h; cases h
  · exact .inl ‹_›

end Go.Proofs.Ytdceegllpcepnaa

/-
What is written is what is read: numbers and texts; no program in sight.
-/
set_option linter.unusedSimpArgs false
set_option linter.unusedVariables false
namespace Go.Proofs.Ytdceegllpcepnaa
open Go.Sym
set_option maxRecDepth 10000
set_option maxHeartbeats 1000000

def textB (t : List UInt8) : List UInt8 := numB t.length ++ t
/-- Texts one behind the other. -/
def textsB (vs : List (List UInt8)) : List UInt8 := vs.flatMap textB

theorem drop_cons {bs t : List UInt8} {k : Nat} {c : UInt8} (h : bs.drop k = c :: t) : k < bs.length ∧ bs.getD k 0 = c ∧ bs.drop (k + 1) = t := by
  have hk : k < bs.length := by
    rcases Nat.lt_or_ge k bs.length with hk | hk
    · exact hk
    · rw [List.drop_eq_nil_of_le hk] at h; cases h
  rw [List.drop_eq_getElem_cons hk] at h
  simp only [List.cons.injEq] at h
  refine ⟨hk, ?_, h.2⟩
  rw [List.getD_eq_getElem?_getD, List.getElem?_eq_getElem hk]; exact h.1

theorem cons_drop {bs : List UInt8} {k : Nat} (hk : k < bs.length) : bs.drop k = bs.getD k 0 :: bs.drop (k + 1) := by
  rw [List.drop_eq_getElem_cons hk, List.getD_eq_getElem?_getD, List.getElem?_eq_getElem hk]; rfl

theorem ofNat_byte (c : UInt8) : UInt8.ofNat c.toNat = c := by simp

theorem byte_inj {a b : Nat} (ha : a < 256) (hb : b < 256) (h : UInt8.ofNat a = UInt8.ofNat b) : a = b := by
  have := congrArg UInt8.toNat h
  rwa [UInt8.toNat_ofNat_of_lt' ha, UInt8.toNat_ofNat_of_lt' hb] at this

/-- No number's bytes begin another one's. -/
theorem numB_code : ∀ (m n : Nat) (u v : List UInt8), numB m ++ u = numB n ++ v → m = n ∧ u = v := by
  intro m
  induction m using Nat.strongRecOn with
  | ind m ih =>
    intro n u v h
    by_cases hm : m < 128
    · by_cases hn : n < 128
      · rw [numB_small hm, numB_small hn] at h
        simp only [List.cons_append, List.nil_append, List.cons.injEq] at h
        exact ⟨byte_inj (by omega) (by omega) h.1, h.2⟩
      · rw [numB_small hm, numB_big hn] at h
        simp only [List.cons_append, List.nil_append, List.cons.injEq] at h
        have := byte_inj (by omega) (by omega) h.1
        omega
    · by_cases hn : n < 128
      · rw [numB_big hm, numB_small hn] at h
        simp only [List.cons_append, List.nil_append, List.cons.injEq] at h
        have := byte_inj (by omega) (by omega) h.1
        omega
      · rw [numB_big hm, numB_big hn] at h
        simp only [List.cons_append, List.cons.injEq] at h
        have h1 := byte_inj (by omega) (by omega) h.1
        obtain ⟨h2, h3⟩ := ih (m / 128) (by omega) (n / 128) u v h.2
        exact ⟨by omega, h3⟩

theorem pow_step (j : Nat) : 2 ^ (7 * (j + 1)) = 128 * 2 ^ (7 * j) := by
  rw [show 7 * (j + 1) = 7 * j + 7 by omega, Nat.pow_add]; omega

theorem pow_left {j : Nat} (h : j + 1 ≤ 9) : 2 ^ (64 - 7 * j) = 128 * 2 ^ (64 - 7 * (j + 1)) := by
  rw [show 64 - 7 * j = (64 - 7 * (j + 1)) + 7 by omega, Nat.pow_add]; omega

/-- What was read as a number is what it is written as. -/
theorem rdN_num (bs : List UInt8) : ∀ (f j k n v e : Nat), f = 10 - j → j ≤ 9 → rdN bs f k n j = some (v, e) → ∃ m, v = n + m * 2 ^ (7 * j) ∧ m < 2 ^ (64 - 7 * j) ∧ (0 < j → 0 < m) ∧ bs.drop k = numB m ++ bs.drop e
  | 0, j, k, n, v, e, hf, hj, h => by cases h
  | f + 1, j, k, n, v, e, hf, hj, h => by
    rw [rdN] at h
    by_cases hk : k < bs.length
    rotate_left
    · simp only [hk, decide_false, cond_false] at h; cases h
    have hd := cons_drop hk
    generalize hc : bs.getD k 0 = c at h hd
    simp only [hk, decide_true, cond_true] at h
    have hlt := c.toNat_lt
    cases hb : (decide (j = 9) && decide (1 < c.toNat)) || (decide (0 < j) && decide (c.toNat = 0)) with
    | true => rw [hb] at h; cases h
    | false =>
      rw [hb] at h
      simp only [Bool.or_eq_false_iff, Bool.and_eq_false_iff, decide_eq_false_iff_not] at hb
      by_cases h8 : c.toNat < 128
      · simp only [h8, decide_true, cond_true, cond_false, Option.some.injEq, Prod.mk.injEq] at h
        refine ⟨c.toNat, ?_, ?_, fun hj0 => ?_, ?_⟩
        · rw [← h.1, Nat.mod_eq_of_lt h8]
        · rcases Nat.lt_or_ge j 9 with h9 | h9
          · have : 2 ^ 8 ≤ 2 ^ (64 - 7 * j) := Nat.pow_le_pow_right (by omega) (by omega)
            omega
          · obtain rfl : j = 9 := by omega
            have : c.toNat ≤ 1 := by omega
            omega
        · omega
        · rw [numB_small h8, ofNat_byte, ← h.2, hd]; rfl
      · simp only [h8, decide_false, cond_false] at h
        have hj8 : j + 1 ≤ 9 := by
          rcases Nat.lt_or_ge j 9 with h9 | h9
          · omega
          · exfalso
            have : j = 9 := by omega
            omega
        obtain ⟨m, h1, h2, h3, h4⟩ := rdN_num bs f (j + 1) (k + 1) _ v e (by omega) hj8 h
        have hm := h3 (by omega)
        refine ⟨c.toNat % 128 + 128 * m, ?_, ?_, fun _ => by omega, ?_⟩
        · rw [h1, pow_step, Nat.add_mul]
          have : m * (128 * 2 ^ (7 * j)) = 128 * m * 2 ^ (7 * j) := by rw [← Nat.mul_assoc, Nat.mul_comm m 128]
          omega
        · rw [pow_left hj8]; omega
        · rw [numB_big (by omega), show (c.toNat % 128 + 128 * m) / 128 = m by omega, hd, h4, show (c.toNat % 128 + 128 * m) % 128 + 128 = c.toNat by omega, ofNat_byte]
          rfl

/-- What is written as a number is read as it. -/
theorem num_rdN (bs : List UInt8) : ∀ (f j k n m : Nat) (rest : List UInt8), f = 10 - j → j ≤ 9 → m < 2 ^ (64 - 7 * j) → (0 < j → 0 < m) → bs.drop k = numB m ++ rest → rdN bs f k n j = some (n + m * 2 ^ (7 * j), k + (numB m).length) ∧ bs.drop (k + (numB m).length) = rest
  | 0, j, k, n, m, rest, hf, hj, hm, h0, h => by omega
  | f + 1, j, k, n, m, rest, hf, hj, hm, h0, h => by
    by_cases h8 : m < 128
    · rw [numB_small h8] at h ⊢
      obtain ⟨hk, hc, hd⟩ := drop_cons h
      refine ⟨?_, hd⟩
      rw [rdN, hc]
      have hcn : (UInt8.ofNat m).toNat = m := UInt8.toNat_ofNat_of_lt' (show m < 256 by omega)
      rw [hcn]
      have hb : ((decide (j = 9) && decide (1 < m)) || (decide (0 < j) && decide (m = 0))) = false := by
        simp only [Bool.or_eq_false_iff, Bool.and_eq_false_iff, decide_eq_false_iff_not]
        refine ⟨?_, ?_⟩
        · by_cases h9 : j = 9
          · subst h9; right; omega
          · exact .inl h9
        · by_cases hj0 : 0 < j
          · have := h0 hj0; right; omega
          · exact .inl hj0
      simp only [hk, hb, h8, decide_true, cond_true, cond_false, Nat.mod_eq_of_lt h8, List.length_singleton]
    · rw [numB_big h8] at h ⊢
      have hj8 : j + 1 ≤ 9 := by
        rcases Nat.lt_or_ge j 9 with h9 | h9
        · omega
        · exfalso
          obtain rfl : j = 9 := by omega
          omega
      obtain ⟨hk, hc, hd⟩ := drop_cons h
      have hcn : (UInt8.ofNat (m % 128 + 128)).toNat = m % 128 + 128 := UInt8.toNat_ofNat_of_lt' (show m % 128 + 128 < 256 by omega)
      have hb : ((decide (j = 9) && decide (1 < m % 128 + 128)) || (decide (0 < j) && decide (m % 128 + 128 = 0))) = false := by
        simp only [Bool.or_eq_false_iff, Bool.and_eq_false_iff, decide_eq_false_iff_not]
        exact ⟨.inl (by omega), .inr (by omega)⟩
      have hn8 : ¬ m % 128 + 128 < 128 := by omega
      rw [pow_left hj8] at hm
      obtain ⟨k1, k2⟩ := num_rdN bs f (j + 1) (k + 1) (n + (m % 128 + 128) % 128 * 2 ^ (7 * j)) (m / 128) rest (by omega) hj8 (by omega) (fun _ => by omega) hd
      refine ⟨?_, ?_⟩
      · rw [rdN, hc, hcn]
        simp only [hk, hb, hn8, decide_true, decide_false, cond_true, cond_false]
        rw [k1]
        simp only [List.length_cons, Option.some.injEq, Prod.mk.injEq]
        refine ⟨?_, by omega⟩
        rw [pow_step, ← Nat.mul_assoc, Nat.mul_comm (m / 128) 128, Nat.add_assoc, ← Nat.add_mul]
        congr 2
        omega
      · rw [List.length_cons, show k + ((numB (m / 128)).length + 1) = k + 1 + (numB (m / 128)).length by omega]; exact k2

theorem rdN_iff {bs : List UInt8} {k v e : Nat} (h : rdN bs 10 k 0 0 = some (v, e)) : v < 2 ^ 64 ∧ bs.drop k = numB v ++ bs.drop e := by
  obtain ⟨m, h1, h2, _, h4⟩ := rdN_num bs 10 0 k 0 v e rfl (by omega) h
  have hv : v = m := by simpa using h1
  subst hv
  exact ⟨by simpa using h2, h4⟩

theorem iff_rdN {bs rest : List UInt8} {k v : Nat} (hv : v < 2 ^ 64) (h : bs.drop k = numB v ++ rest) : rdN bs 10 k 0 0 = some (v, k + (numB v).length) ∧ bs.drop (k + (numB v).length) = rest := by
  have := num_rdN bs 10 0 k 0 v rest rfl (by omega) (by simpa using hv) (by omega) h
  simpa using this

theorem iff_rdC {bs rest : List UInt8} {k v : Nat} {most : Int} (hv : v < 2 ^ 64) (h0 : 0 ≤ most) (hm : (v : Int) ≤ most) (h : bs.drop k = numB v ++ rest) : rdC bs most k = some (v, k + (numB v).length) ∧ bs.drop (k + (numB v).length) = rest := by
  obtain ⟨h1, h2⟩ := iff_rdN hv h
  refine ⟨?_, h2⟩
  unfold rdC
  rw [h1]
  simp [h0, hm]

theorem rdT_iff {bs ts : List UInt8} {k m : Nat} (h : rdT bs k = some (ts, m)) : ts.length ≤ 1048576 ∧ bs.drop k = textB ts ++ bs.drop m := by
  obtain ⟨n, e, h1, h2, rfl, rfl⟩ := rdT_ok h
  obtain ⟨h3, _, h5⟩ := rdC_ok h1
  obtain ⟨h6, h7⟩ := rdN_iff h3
  have hl : ((bs.drop e).take n).length = n := by rw [List.length_take, List.length_drop]; omega
  refine ⟨by rw [hl]; omega, ?_⟩
  unfold textB
  rw [hl, h7, List.append_assoc, ← List.drop_drop, List.take_append_drop]

theorem iff_rdT {bs ts rest : List UInt8} {k : Nat} (hl : ts.length ≤ 1048576) (h : bs.drop k = textB ts ++ rest) : rdT bs k = some (ts, k + (textB ts).length) ∧ bs.drop (k + (textB ts).length) = rest := by
  unfold textB at h ⊢
  rw [List.append_assoc] at h
  obtain ⟨h1, h2⟩ := iff_rdC (most := 1048576) (by omega) (by omega) (by omega) h
  have hd : bs.drop (k + (numB ts.length).length + ts.length) = rest := by
    rw [← List.drop_drop, h2]; simp
  have hlen := congrArg List.length h2
  rw [List.length_drop, List.length_append] at hlen
  have hk : k + (numB ts.length).length ≤ bs.length ∨ ts = [] := by
    rcases Nat.lt_or_ge bs.length (k + (numB ts.length).length) with hh | hh
    · right
      have : ts.length = 0 := by omega
      exact List.eq_nil_of_length_eq_zero this
    · exact .inl hh
  have hk2 := congrArg List.length h
  rw [List.length_drop, List.length_append, List.length_append] at hk2
  have hp := numB_pos ts.length
  refine ⟨?_, by rw [List.length_append, ← Nat.add_assoc]; exact hd⟩
  unfold rdT
  rw [h1]
  simp only
  rw [decide_eq_true (show k + (numB ts.length).length + ts.length ≤ bs.length by omega), cond_true, h2]
  simp only [List.take_left', List.length_append, Nat.add_assoc]

theorem textB_code {s t u v : List UInt8} (h : textB s ++ u = textB t ++ v) : s = t ∧ u = v := by
  unfold textB at h
  rw [List.append_assoc, List.append_assoc] at h
  obtain ⟨h1, h2⟩ := numB_code _ _ _ _ h
  exact List.append_inj h2 h1

end Go.Proofs.Ytdceegllpcepnaa

/-
The reference's reader: numbers.
-/
set_option linter.unusedSimpArgs false
set_option linter.unusedVariables false
namespace Go.Proofs.Ytdceegllpcepnaa
open Go.Sym
set_option maxRecDepth 10000
set_option maxHeartbeats 1000000

/-- The reference's reader: bytes, how many were read, whether they are none. -/
def rIn (B : List D) (k : Nat) (b : Bool) : AObj := .var (.d (.st [.sl B, .int .i64 (k : Int), .bool b]))

/-- A number, as the reference reads it: what it is, where it ends, whether it is none. -/
def inN (bs : List UInt8) : Nat → Nat → Nat → Nat → Nat × Nat × Bool
  | 0, k, _, _ => (0, k, true)
  | f + 1, k, n, j => bif decide (k < bs.length) then
      bif (decide (j = 9) && decide (1 < (bs.getD k 0).toNat)) || (decide (0 < j) && decide ((bs.getD k 0).toNat = 0)) then (0, k + 1, true)
      else bif decide ((bs.getD k 0).toNat < 128) then (n + (bs.getD k 0).toNat % 128 * 2 ^ (7 * j), k + 1, false)
      else inN bs f (k + 1) (n + (bs.getD k 0).toNat % 128 * 2 ^ (7 * j)) (j + 1)
    else (0, k, true)

def optN (r : Nat × Nat × Bool) : Option (Nat × Nat) := bif r.2.2 then none else some (r.1, r.2.1)

theorem inN_rdN (bs : List UInt8) : ∀ f k n j, rdN bs f k n j = optN (inN bs f k n j)
  | 0, _, _, _ => rfl
  | f + 1, k, n, j => by
    rw [rdN, inN]
    cases decide (k < bs.length) with
    | false => rfl
    | true =>
      simp only [cond_true]
      cases (decide (j = 9) && decide (1 < (bs.getD k 0).toNat)) || (decide (0 < j) && decide ((bs.getD k 0).toNat = 0)) with
      | true => rfl
      | false =>
        simp only [cond_false]
        cases decide ((bs.getD k 0).toNat < 128) with
        | true => rfl
        | false => exact inN_rdN bs f _ _ _

theorem inN_le (bs : List UInt8) : ∀ f k n j, k ≤ bs.length → (inN bs f k n j).2.1 ≤ bs.length
  | 0, _, _, _, h => h
  | f + 1, k, n, j, h => by
    rw [inN]
    by_cases hk : k < bs.length
    · simp only [hk, decide_true, cond_true]
      cases (decide (j = 9) && decide (1 < (bs.getD k 0).toNat)) || (decide (0 < j) && decide ((bs.getD k 0).toNat = 0)) with
      | true => exact hk
      | false =>
        simp only [cond_false]
        cases decide ((bs.getD k 0).toNat < 128) with
        | true => exact hk
        | false => exact inN_le bs f _ _ _ hk
    · simp only [hk, decide_false, cond_false]; exact h

structure InI (bs : List UInt8) (R : Nat × Nat × Bool) (x : Nat × Nat × Nat) : Prop where
  h : inN bs (10 - x.2.1) x.2.2 x.1 x.2.1 = R
  lt : x.1 < 2 ^ (7 * x.2.1)
  le : x.2.1 ≤ 10
  hk : x.2.2 ≤ bs.length

theorem InI.go {bs : List UInt8} {R : Nat × Nat × Bool} {x : Nat × Nat × Nat} (hI : InI bs R x) {q : Prop} (h10 : x.2.1 = 10 → R = (0, x.2.2, true) → Vc q) (h0 : x.2.1 ≤ 9 → ¬ x.2.2 < bs.length → R = (0, x.2.2, true) → Vc q)
    (h : ∀ c : UInt8, bs.getD x.2.2 0 = c → x.2.2 < bs.length → x.1 < 2 ^ (7 * x.2.1) → x.2.1 ≤ 9 → ((x.2.1 = 9 ∧ 1 < c.toNat) ∨ (0 < x.2.1 ∧ c.toNat = 0) → R = (0, x.2.2 + 1, true)) →
      (¬ (x.2.1 = 9 ∧ 1 < c.toNat) → ¬ (0 < x.2.1 ∧ c.toNat = 0) → c.toNat < 128 → R = (x.1 + c.toNat % 128 * 2 ^ (7 * x.2.1), x.2.2 + 1, false)) →
      (¬ (x.2.1 = 9 ∧ 1 < c.toNat) → ¬ (0 < x.2.1 ∧ c.toNat = 0) → ¬ c.toNat < 128 → InI bs R (x.1 + c.toNat % 128 * 2 ^ (7 * x.2.1), x.2.1 + 1, x.2.2 + 1)) → Vc q) : Vc q := by
  obtain ⟨n, j, k⟩ := x
  obtain ⟨e, lt, le, hk⟩ := hI
  simp only at e lt le hk h10 h0 h ⊢
  rcases Nat.lt_or_ge j 10 with hj | hj
  rotate_left
  · obtain rfl : j = 10 := by omega
    exact h10 rfl e.symm
  obtain ⟨f, hf⟩ : ∃ f, 10 - j = f + 1 := ⟨9 - j, by omega⟩
  rw [hf, inN] at e
  by_cases hi : k < bs.length
  rotate_left
  · simp only [hi, decide_false, cond_false] at e
    exact h0 (by omega) hi e.symm
  simp only [hi, decide_true, cond_true] at e
  refine h _ rfl hi lt (by omega) (fun hb => ?_) (fun h1 h2 h3 => ?_) (fun h1 h2 h3 => ?_)
  · have hb' : ((decide (j = 9) && decide (1 < (bs.getD k 0).toNat)) || (decide (0 < j) && decide ((bs.getD k 0).toNat = 0))) = true := by
      simpa only [Bool.or_eq_true, Bool.and_eq_true, decide_eq_true_eq] using hb
    rw [hb'] at e
    exact e.symm
  · have hb' : ((decide (j = 9) && decide (1 < (bs.getD k 0).toNat)) || (decide (0 < j) && decide ((bs.getD k 0).toNat = 0))) = false := by
      rw [Bool.eq_false_iff]
      simp only [ne_eq, Bool.or_eq_true, Bool.and_eq_true, decide_eq_true_eq]
      omega
    rw [hb'] at e
    simp only [h3, decide_true, cond_true, cond_false] at e
    exact e.symm
  · have hb' : ((decide (j = 9) && decide (1 < (bs.getD k 0).toNat)) || (decide (0 < j) && decide ((bs.getD k 0).toNat = 0))) = false := by
      rw [Bool.eq_false_iff]
      simp only [ne_eq, Bool.or_eq_true, Bool.and_eq_true, decide_eq_true_eq]
      omega
    rw [hb'] at e
    simp only [h3, decide_false, cond_false] at e
    have hd : (bs.getD k 0).toNat % 128 < 128 := Nat.mod_lt _ (by omega)
    refine ⟨by simp only; rw [show 10 - (j + 1) = f by omega]; exact e, ?_, by simp only; omega, by simp only; omega⟩
    simp only
    rw [show 7 * (j + 1) = 7 * j + 7 by omega, Nat.pow_add]
    have : (bs.getD k 0).toNat % 128 * 2 ^ (7 * j) ≤ 127 * 2 ^ (7 * j) := Nat.mul_le_mul_right _ (by omega)
    omega

theorem add_shift {n j : Nat} {c : UInt8} (hn : n < 2 ^ (7 * j)) (hj : j ≤ 9) (h1 : ¬ (j = 9 ∧ 1 < c.toNat)) :
    IntKind.u64.wrap ((n : Int) + shlI .u64 (IntKind.u64.wrap ((c.toNat : Int).tmod 128)) (IntKind.u64.wrap (IntKind.i64.wrap (7 * (j : Int))))) = ((n + c.toNat % 128 * 2 ^ (7 * j) : Nat) : Int) := by
  have hd : c.toNat % 128 < 128 := Nat.mod_lt _ (by omega)
  have hp : 2 ^ (7 * j) ≤ 2 ^ 63 := Nat.pow_le_pow_right (by omega) (by omega)
  have hbig : n + c.toNat % 128 * 2 ^ (7 * j) < 2 ^ 64 := by
    rcases Nat.lt_or_ge j 9 with h9 | h9
    · have h56 : 2 ^ (7 * j) ≤ 2 ^ 56 := Nat.pow_le_pow_right (by omega) (by omega)
      have : c.toNat % 128 * 2 ^ (7 * j) ≤ 127 * 2 ^ 56 := Nat.mul_le_mul (by omega) h56
      omega
    · obtain rfl : j = 9 := by omega
      have : c.toNat ≤ 1 := by omega
      have : c.toNat % 128 ≤ 1 := by omega
      have : c.toNat % 128 * 2 ^ (7 * 9) ≤ 1 * 2 ^ 63 := Nat.mul_le_mul this (Nat.le_refl _)
      omega
  have e1 : (c.toNat : Int).tmod 128 = ((c.toNat % 128 : Nat) : Int) := by
    rw [Int.tmod_eq_emod_of_nonneg (by omega)]; omega
  have e2 : IntKind.u64.wrap (IntKind.i64.wrap (7 * (j : Int))) = ((7 * j : Nat) : Int) := by
    rw [wrap64_id (by omega) (by omega), wrapU64_id (by omega) (by omega)]; omega
  have hs : shlI .u64 (IntKind.u64.wrap ((c.toNat : Int).tmod 128)) (IntKind.u64.wrap (IntKind.i64.wrap (7 * (j : Int)))) = ((c.toNat % 128 * 2 ^ (7 * j) : Nat) : Int) := by
    rw [e1, e2, wrapU64_id (by omega) (by omega)]
    have hm : min ((7 * j : Nat) : Int).toNat IntKind.u64.bits = 7 * j := by
      show min (7 * j) 64 = _
      omega
    unfold shlI
    rw [hm]
    have : ((c.toNat % 128 : Nat) : Int) * 2 ^ (7 * j) = ((c.toNat % 128 * 2 ^ (7 * j) : Nat) : Int) := by
      rw [Int.natCast_mul, Int.natCast_pow]; rfl
    rw [this, wrapU64_id (by omega) (by omega)]
  rw [hs, wrapU64_id (by omega) (by omega)]
  omega

theorem wrapU64_nn (n : Int) : 0 ≤ IntKind.u64.wrap n := by
  have e : IntKind.u64.wrap n = n % 18446744073709551616 := by simp [IntKind.wrap, IntKind.signed, IntKind.bits]
  rw [e]; omega

end Go.Proofs.Ytdceegllpcepnaa

/-
The reference's reader: counts, pieces, texts, digests; whether it is done.
-/
set_option linter.unusedSimpArgs false
set_option linter.unusedVariables false
namespace Go.Proofs.Ytdceegllpcepnaa
open Go.Sym
set_option maxRecDepth 10000
set_option maxHeartbeats 1000000

def inC (bs : List UInt8) (most k : Nat) : Nat × Nat × Bool := let r := inN bs 10 k 0 0; bif r.2.2 || decide (most < r.1) then (0, r.2.1, true) else (r.1, r.2.1, false)

theorem inC_rdC (bs : List UInt8) (most k : Nat) : rdC bs (most : Int) k = optN (inC bs most k) := by
  unfold rdC inC
  rw [inN_rdN]
  rcases inN bs 10 k 0 0 with ⟨v, e, b⟩
  cases b with
  | true => rfl
  | false =>
    simp only [optN, cond_false, Bool.false_or]
    by_cases h : most < v
    · have : ¬ ((v : Int) ≤ most) := by omega
      simp [h, this]
    · have : ((v : Int) ≤ most) := by omega
      simp [h, this]

theorem inC_le (bs : List UInt8) (most k : Nat) (h : k ≤ bs.length) : (inC bs most k).2.1 ≤ bs.length := by
  have := inN_le bs 10 k 0 0 h
  unfold inC
  simp only
  cases (inN bs 10 k 0 0).2.2 || decide (most < (inN bs 10 k 0 0).1) <;> exact this

theorem inC_most (bs : List UInt8) (most k : Nat) : (inC bs most k).1 ≤ most := by
  unfold inC
  simp only
  cases h : (inN bs 10 k 0 0).2.2 || decide (most < (inN bs 10 k 0 0).1) with
  | true => exact Nat.zero_le _
  | false =>
    simp only [Bool.or_eq_false_iff, decide_eq_false_iff_not] at h
    simp only [cond_false]
    omega

/-- So many bytes. -/
def inK (bs : List UInt8) (n k : Nat) : List UInt8 × Nat × Bool := bif decide (k + n ≤ bs.length) then ((bs.drop k).take n, k + n, false) else ([], k, true)

/-- A text. -/
def inT (bs : List UInt8) (k : Nat) : List UInt8 × Nat × Bool := let c := inC bs 1048576 k; bif c.2.2 then ([], c.2.1, true) else inK bs c.1 c.2.1

/-- A digest's bytes, and what is not yet laid. -/
def padB (ts : List UInt8) (i : Nat) : List UInt8 := ts.take i ++ List.replicate (32 - i) 0

theorem padB_set {ts : List UInt8} {i : Nat} (h : i < ts.length) (h32 : i < 32) : ((padB ts i).map byteD).set i (byteD (ts.getD i 0)) = (padB ts (i + 1)).map byteD := by
  rw [← List.map_set]
  congr 1
  unfold padB
  rw [List.set_append_right _ _ (by rw [List.length_take]; omega), List.length_take, Nat.min_eq_left (by omega), Nat.sub_self]
  rw [show 32 - i = (32 - (i + 1)) + 1 by omega, List.replicate_succ, List.set_cons_zero, List.take_succ_eq_append_getElem h, List.getD_eq_getElem?_getD, List.getElem?_eq_getElem h, List.append_assoc]
  rfl

theorem padB_full {ts : List UInt8} (h : ts.length = 32) : padB ts 32 = ts := by
  unfold padB
  rw [List.take_of_length_le (by omega)]; simp

theorem padB_length {ts : List UInt8} {i : Nat} (h : i ≤ ts.length) (h32 : i ≤ 32) : (padB ts i).length = 32 := by
  unfold padB
  rw [List.length_append, List.length_take, List.length_replicate]; omega

def inD (bs : List UInt8) (k : Nat) : List UInt8 × Nat × Bool := let r := inK bs 32 k; (padB r.1 r.1.length, r.2)

end Go.Proofs.Ytdceegllpcepnaa

/-
The reader's digests; the reference's reader, bad or not.
-/
set_option linter.unusedSimpArgs false
set_option linter.unusedVariables false
namespace Go.Proofs.Ytdceegllpcepnaa
open Go.Sym
set_option maxRecDepth 10000
set_option maxHeartbeats 1000000

def inNs (bs : List UInt8) (b : Bool) (k : Nat) : Nat × Nat × Bool := bif b then (0, k, true) else inN bs 10 k 0 0
def inCs (bs : List UInt8) (most : Nat) (b : Bool) (k : Nat) : Nat × Nat × Bool := bif b then (0, k, true) else inC bs most k
def inTs (bs : List UInt8) (b : Bool) (k : Nat) : List UInt8 × Nat × Bool := bif b then ([], k, true) else inT bs k

theorem inK_le (bs : List UInt8) (n k : Nat) (h : k ≤ bs.length) : (inK bs n k).2.1 ≤ bs.length := by
  unfold inK
  by_cases hc : k + n ≤ bs.length
  · rw [decide_eq_true hc]; exact hc
  · rw [decide_eq_false hc]; exact h

theorem inNs_le (bs : List UInt8) (b : Bool) (k : Nat) (h : k ≤ bs.length) : (inNs bs b k).2.1 ≤ bs.length := by
  cases b with
  | true => exact h
  | false => exact inN_le bs 10 k 0 0 h

theorem inTs_le (bs : List UInt8) (b : Bool) (k : Nat) (h : k ≤ bs.length) : (inTs bs b k).2.1 ≤ bs.length := by
  cases b with
  | true => exact h
  | false =>
    have := inC_le bs 1048576 k h
    unfold inTs inT
    simp only [cond_false]
    cases (inC bs 1048576 k).2.2 with
    | true => exact this
    | false => exact inK_le bs _ _ this

def optT (r : List UInt8 × Nat × Bool) : Option (List UInt8 × Nat) := bif r.2.2 then none else some (r.1, r.2.1)

theorem inT_rdT (bs : List UInt8) (k : Nat) : rdT bs k = optT (inT bs k) := by
  unfold rdT inT
  have h := inC_rdC bs 1048576 k
  rw [show ((1048576 : Nat) : Int) = 1048576 from rfl] at h
  rw [h]
  rcases inC bs 1048576 k with ⟨v, e, b⟩
  cases b with
  | true => rfl
  | false =>
    simp only [optN, cond_false]
    unfold inK
    cases decide (e + v ≤ bs.length) <;> rfl

/-- The error's number of what was read. -/
def errI {α : Type} (o : Option α) : Int := if o = none then 3 else 0

theorem errI_none {α : Type} : errI (none : Option α) = 3 := rfl
theorem errI_some {α : Type} (x : α) : errI (some x) = 0 := rfl

end Go.Proofs.Ytdceegllpcepnaa

/-
Digests as data: what '==' says of them.
-/
set_option linter.unusedSimpArgs false
set_option linter.unusedVariables false
namespace Go.Proofs.Ytdceegllpcepnaa
open Go.Sym
set_option maxRecDepth 10000
set_option maxHeartbeats 1000000

theorem fits_dig (f : Nat) (a : List UInt8) : D.fits Try.prog (f + 2) 33 (.arr 32 1 (a.map byteD)) := by
  have hu : Try.prog.underlying 33 = some (.array 32 5) := rfl
  have hu2 : Try.prog.underlying 5 = some (.int .u8) := rfl
  simp only [D.fits, hu]
  refine ⟨trivial, rfl, rfl, fun y hy => ?_, fun y hy => ?_⟩
  · obtain ⟨c, _, rfl⟩ := List.mem_map.1 hy; rfl
  · obtain ⟨c, _, rfl⟩ := List.mem_map.1 hy
    simp only [hu2, byteD]

theorem beqs_bytes : ∀ a b : List UInt8, D.beqs (a.map byteD) (b.map byteD) = decide (a = b)
  | [], [] => rfl
  | [], _ :: _ => rfl
  | _ :: _, [] => rfl
  | x :: a, y :: b => by
    simp only [List.map_cons, D.beqs, beqs_bytes a b, byteD, D.beq, List.cons.injEq]
    rw [Bool.eq_iff_iff]
    simp only [Bool.and_eq_true, decide_eq_true_eq, beq_iff_eq]
    exact and_congr_left fun _ => ⟨fun h => UInt8.toNat_inj.1 (Int.ofNat_inj.1 h), fun h => by rw [h]⟩
theorem beq_dig (n e m f : Nat) (a b : List UInt8) : (D.arr n e (a.map byteD)).beq (.arr m f (b.map byteD)) = decide (a = b) := by
  simp only [D.beq]; exact beqs_bytes a b

end Go.Proofs.Ytdceegllpcepnaa

/-
The record layer: what the reader does, as an option says; names.
-/
set_option linter.unusedSimpArgs false
set_option linter.unusedVariables false
namespace Go.Proofs.Ytdceegllpcepnaa
open Go.Sym
set_option maxRecDepth 10000
set_option maxHeartbeats 1000000

/-- A digest. -/
def rdG (bs : List UInt8) (k : Nat) : Option (List UInt8 × Nat) := bif decide (k + 32 ≤ bs.length) then some ((bs.drop k).take 32, k + 32) else none

theorem rdG_ok {bs d : List UInt8} {k e : Nat} (h : rdG bs k = some (d, e)) : k + 32 ≤ bs.length ∧ d = (bs.drop k).take 32 ∧ e = k + 32 := by
  unfold rdG at h
  by_cases hk : k + 32 ≤ bs.length
  · rw [decide_eq_true hk, cond_true] at h
    cases h; exact ⟨hk, rfl, rfl⟩
  · rw [decide_eq_false hk, cond_false] at h; cases h

theorem rdG_no {bs : List UInt8} {k : Nat} (h : rdG bs k = none) : ¬ k + 32 ≤ bs.length := fun hk => by
  unfold rdG at h
  rw [decide_eq_true hk, cond_true] at h; cases h

theorem rdT_le {bs ts : List UInt8} {k m : Nat} (h : rdT bs k = some (ts, m)) : m ≤ bs.length := by
  obtain ⟨n, e, _, h2, _, h4⟩ := rdT_ok h
  omega
theorem rdN_le2 {bs : List UInt8} {k v e : Nat} (h : rdN bs 10 k 0 0 = some (v, e)) : e ≤ bs.length := (rdN_le bs _ _ _ _ _ _ h).2
theorem rdC_le {bs : List UInt8} {most : Int} {k v e : Nat} (h : rdC bs most k = some (v, e)) : e ≤ bs.length := rdN_le2 (rdC_ok h).1
theorem rdG_le {bs ts : List UInt8} {k m : Nat} (h : rdG bs k = some (ts, m)) : m ≤ bs.length := by
  obtain ⟨h1, _, h3⟩ := rdG_ok h
  omega

/-! ### Names -/

def okC (c : UInt8) : Prop := (97 ≤ c.toNat ∧ c.toNat ≤ 122) ∨ (48 ≤ c.toNat ∧ c.toNat ≤ 57) ∨ c.toNat = 46 ∨ c.toNat = 45
instance (c : UInt8) : Decidable (okC c) := by unfold okC; exact inferInstance

def nameB (n : List UInt8) : Bool := n.all (fun c => decide (okC c)) && decide (0 < n.length ∧ n.length ≤ 32)

theorem nameB_no {n : List UInt8} {i : Nat} (hi : i < n.length) (h : ¬ okC (n.getD i 0)) : nameB n = false := by
  unfold nameB
  rw [Bool.and_eq_false_iff]
  left
  rw [Bool.eq_false_iff]
  intro ha
  rw [List.getD_eq_getElem?_getD, List.getElem?_eq_getElem hi] at h
  exact h (of_decide_eq_true (List.all_eq_true.1 ha n[i] (List.getElem_mem hi)))

theorem nameB_len {n : List UInt8} (h : ¬ (0 < n.length ∧ n.length ≤ 32)) : nameB n = false := by
  unfold nameB
  rw [decide_eq_false h, Bool.and_false]

theorem nameB_yes {n : List UInt8} {i : Nat} (hi : n.length ≤ i) (h : ∀ j, j < i → j < n.length → okC (n.getD j 0)) (hl : 0 < n.length ∧ n.length ≤ 32) : nameB n = true := by
  unfold nameB
  rw [decide_eq_true hl, Bool.and_true, List.all_eq_true]
  intro c hc
  obtain ⟨j, hj, rfl⟩ := List.mem_iff_getElem.1 hc
  have := h j (by omega) hj
  rw [List.getD_eq_getElem?_getD, List.getElem?_eq_getElem hj] at this
  exact decide_eq_true this

abbrev strD (n : List UInt8) : D := .str ⟨n.toArray⟩

theorem str_get (n : List UInt8) (i : Nat) : (⟨n.toArray⟩ : ByteArray).data.toList.getD i 0 = n.getD i 0 := rfl
theorem str_size (n : List UInt8) : (⟨n.toArray⟩ : ByteArray).size = n.length := rfl

theorem str_list (n : List UInt8) : (⟨n.toArray⟩ : ByteArray).toList = n := by rw [ByteArray.toList_eq]
theorem str_nil : (⟨#[]⟩ : ByteArray).toList = [] := str_list []

theorem upTo {n : List UInt8} {i : Nat} (h : ∀ j, j < i → j < n.length → okC (n.getD j 0)) (hn : okC (n.getD i 0)) : ∀ j, j < i + 1 → j < n.length → okC (n.getD j 0) := fun j hj hl => by
  rcases Nat.lt_or_ge j i with h1 | h1
  · exact h j h1 hl
  · obtain rfl : j = i := by omega
    exact hn

/-- A binding. -/
structure Bnd where
  name : List UInt8
  key : List UInt8
  serial : Nat

abbrev bD (b : Bnd) : D := .st [strD b.name, .sl (b.key.map byteD), .int .u64 (b.serial : Int)]
def b0 : Bnd := ⟨[], [], 0⟩

/-- What is wrong with a name and a key. -/
def checkI (n k : List UInt8) : Int := bif nameB n then (bif decide (k.length = 0 ∨ 64 < k.length) then 5 else 0) else 4

end Go.Proofs.Ytdceegllpcepnaa

/-
What the closures of the record layer read: bindings, requests, signed roots.
-/
set_option linter.unusedSimpArgs false
set_option linter.unusedVariables false
namespace Go.Proofs.Ytdceegllpcepnaa
open Go.Sym
set_option maxRecDepth 10000
set_option maxHeartbeats 2000000

theorem rdT_len {bs : List UInt8} {k : Nat} {a : List UInt8 × Nat} (h : rdT bs k = some a) : a.1.length < 2 ^ 63 := by
  have := (rdT_iff (ts := a.1) (m := a.2) h).1
  omega
theorem rdT_end {bs : List UInt8} {k : Nat} {a : List UInt8 × Nat} (h : rdT bs k = some a) : a.2 ≤ bs.length := rdT_le (ts := a.1) (m := a.2) h
theorem rdN_end {bs : List UInt8} {k : Nat} {a : Nat × Nat} (h : rdN bs 10 k 0 0 = some a) : a.2 ≤ bs.length := rdN_le2 (v := a.1) (e := a.2) h
theorem rdC_end {bs : List UInt8} {most : Int} {k : Nat} {a : Nat × Nat} (h : rdC bs most k = some a) : a.2 ≤ bs.length := rdC_le (v := a.1) (e := a.2) h
theorem rdG_end {bs : List UInt8} {k : Nat} {a : List UInt8 × Nat} (h : rdG bs k = some a) : a.2 ≤ bs.length := rdG_le (ts := a.1) (m := a.2) h

/-- A binding. -/
def rdBnd (bs : List UInt8) : Option (Bnd × Nat) := (rdT bs 0).bind fun a => (rdT bs a.2).bind fun b => (rdN bs 10 b.2 0 0).bind fun c => bif decide (checkI a.1 b.1 = 0) then some (⟨a.1, b.1, c.1⟩, c.2) else none

/-- A request. -/
structure Req where
  kind : Int
  name : List UInt8
  key : List UInt8
  auth : List UInt8

abbrev qD (q : Req) : D := .st [.int .i64 q.kind, strD q.name, .sl (q.key.map byteD), .arr 32 1 (q.auth.map byteD)]
def zero32 : List UInt8 := List.replicate 32 0

/-- Who asks. -/
def rdAu (bs : List UInt8) (n k : Nat) : Option (List UInt8 × Nat) := bif decide (n = 2) then rdG bs k else some (zero32, k)

def rdReq (bs : List UInt8) : Option (Req × Nat) := (rdC bs 2 0).bind fun k => (rdT bs k.2).bind fun a => (rdT bs a.2).bind fun b => (rdAu bs k.1 b.2).bind fun c =>
  bif decide (1 ≤ k.1 ∧ checkI a.1 b.1 = 0) then some (⟨(k.1 : Int), a.1, b.1, c.1⟩, c.2) else none

theorem rdAu_two {bs : List UInt8} {n k : Nat} (h : (n : Int) = 2) : rdAu bs n k = rdG bs k := by
  unfold rdAu; rw [decide_eq_true (by omega), cond_true]
theorem rdAu_no {bs : List UInt8} {n k : Nat} (h : ¬ (n : Int) = 2) : rdAu bs n k = some (zero32, k) := by
  unfold rdAu; rw [decide_eq_false (by omega), cond_false]

/-- A root, and one signed. -/
structure Rt where
  epoch : Nat
  prev : List UInt8
  tree : List UInt8
  next : List UInt8
structure Sgn where
  root : Rt
  sig : List UInt8

abbrev digD (d : List UInt8) : D := .arr 32 1 (d.map byteD)
abbrev rootD (r : Rt) : D := .st [.int .u64 (r.epoch : Int), digD r.prev, digD r.tree, digD r.next]
abbrev sD (s : Sgn) : D := .st [rootD s.root, .sl (s.sig.map byteD)]

def rdSgn (bs : List UInt8) : Option (Sgn × Nat) := (rdN bs 10 0 0 0).bind fun e => (rdG bs e.2).bind fun p => (rdG bs p.2).bind fun t => (rdG bs t.2).bind fun n => (rdT bs n.2).bind fun s => some (⟨⟨e.1, p.1, t.1, n.1⟩, s.1⟩, s.2)

end Go.Proofs.Ytdceegllpcepnaa

/-
What the closures of the record layer read: proofs.
-/
set_option linter.unusedSimpArgs false
set_option linter.unusedVariables false
namespace Go.Proofs.Ytdceegllpcepnaa
open Go.Sym
set_option maxRecDepth 10000
set_option maxHeartbeats 4000000

/-- A proof. -/
structure Prf where
  sides : List (List UInt8)
  fin : Int
  index : List UInt8
  value : List UInt8

abbrev pD (p : Prf) : D := .st [.sl (p.sides.map digD), .int .i64 p.fin, digD p.index, digD p.value]

/-- So many digests. -/
def rdGs (bs : List UInt8) : Nat → Nat → Option (List (List UInt8) × Nat)
  | 0, k => some ([], k)
  | n + 1, k => (rdG bs k).bind fun a => (rdGs bs n a.2).map fun p => (a.1 :: p.1, p.2)

structure RgI (bs : List UInt8) (R : Option (List (List UInt8) × Nat)) (x : List (List UInt8) × Nat × Nat) : Prop where
  h : (rdGs bs x.2.1 x.2.2).map (fun p => (x.1 ++ p.1, p.2)) = R
  le : x.1.length + x.2.1 ≤ 256
  kle : x.2.2 ≤ bs.length

theorem RgI.stop {bs : List UInt8} {R : Option (List (List UInt8) × Nat)} {x : List (List UInt8) × Nat × Nat} (hI : RgI bs R x) (h : x.2.1 = 0) : R = some (x.1, x.2.2) := by
  obtain ⟨acc, n, k⟩ := x
  obtain ⟨h1, _, _⟩ := hI
  simp only at h h1
  subst h
  rw [← h1]; simp [rdGs]

theorem RgI.no {bs : List UInt8} {R : Option (List (List UInt8) × Nat)} {x : List (List UInt8) × Nat × Nat} (hI : RgI bs R x) (h : 0 < x.2.1) (hg : rdG bs x.2.2 = none) : R = none := by
  obtain ⟨acc, n, k⟩ := x
  obtain ⟨h1, _, _⟩ := hI
  simp only at h h1 hg
  obtain ⟨m, rfl⟩ : ∃ m, n = m + 1 := ⟨n - 1, by omega⟩
  rw [← h1]; simp [rdGs, hg]

theorem RgI.next {bs : List UInt8} {R : Option (List (List UInt8) × Nat)} {x : List (List UInt8) × Nat × Nat} (hI : RgI bs R x) (h : 0 < x.2.1) {a : List UInt8 × Nat} (hg : rdG bs x.2.2 = some a) : RgI bs R (x.1 ++ [a.1], x.2.1 - 1, a.2) := by
  obtain ⟨acc, n, k⟩ := x
  obtain ⟨h1, h2, _⟩ := hI
  simp only at h h1 h2 hg
  obtain ⟨m, rfl⟩ : ∃ m, n = m + 1 := ⟨n - 1, by omega⟩
  refine ⟨?_, by simp; omega, rdG_end hg⟩
  rw [← h1]
  simp only [rdGs, hg, Option.bind_some, Nat.add_sub_cancel, Option.map_map]
  congr 1
  funext p
  simp

theorem rdGs_len {bs : List UInt8} : ∀ {n k : Nat} {g : List (List UInt8) × Nat}, rdGs bs n k = some g → g.1.length = n
  | 0, k, g, h => by cases h; rfl
  | n + 1, k, g, h => by
    simp only [rdGs] at h
    cases hg : rdG bs k with
    | none => rw [hg] at h; cases h
    | some a =>
      rw [hg, Option.bind_some] at h
      cases hr : rdGs bs n a.2 with
      | none => rw [hr] at h; cases h
      | some p =>
        rw [hr] at h
        cases h
        simp [rdGs_len hr]

def rdLf (bs : List UInt8) (e k : Nat) : Option ((List UInt8 × List UInt8) × Nat) := bif decide (e = 1) then (rdG bs k).bind fun a => (rdG bs a.2).bind fun b => some ((a.1, b.1), b.2) else some ((zero32, zero32), k)

theorem rdLf_one {bs : List UInt8} {e k : Nat} (h : (e : Int) = 1) : rdLf bs e k = (rdG bs k).bind fun a => (rdG bs a.2).bind fun b => some ((a.1, b.1), b.2) := by
  unfold rdLf; rw [decide_eq_true (by omega), cond_true]
theorem rdLf_no {bs : List UInt8} {e k : Nat} (h : ¬ (e : Int) = 1) : rdLf bs e k = some ((zero32, zero32), k) := by
  unfold rdLf; rw [decide_eq_false (by omega), cond_false]

def rdPrf (bs : List UInt8) : Option (Prf × Nat) := (rdC bs 256 0).bind fun n => (rdGs bs n.1 n.2).bind fun g => (rdC bs 1 g.2).bind fun e => (rdLf bs e.1 e.2).bind fun l => some (⟨g.1, (e.1 : Int), l.1.1, l.1.2⟩, l.2)

theorem digD_app (l : List (List UInt8)) (v : List UInt8) : (l.map digD) ++ [D.arr 32 1 (v.map byteD)] = (l ++ [v]).map digD := by simp
theorem room32 {n k : Nat} (hk : k = 32) (h : n ≤ 2 ^ 22) : Room n k := by subst hk; unfold Room; omega

end Go.Proofs.Ytdceegllpcepnaa

/-
What is read to its end; things of nothing.
-/
set_option linter.unusedSimpArgs false
set_option linter.unusedVariables false
namespace Go.Proofs.Ytdceegllpcepnaa
open Go.Sym
set_option maxRecDepth 10000
set_option maxHeartbeats 1000000

/-- What is read, if it ends where the bytes end. -/
def toFin {α : Type} (len : Nat) (r : Option (α × Nat)) : Option α := r.bind fun a => bif decide (a.2 = len) then some a.1 else none

theorem toFin_cases {α : Type} (len : Nat) (r : Option (α × Nat)) : (∃ a, r = some a ∧ a.2 = len ∧ toFin len r = some a.1) ∨ ((r = none ∨ ∃ a, r = some a ∧ ¬ a.2 = len) ∧ toFin len r = none) := by
  cases r with
  | none => exact .inr ⟨.inl rfl, rfl⟩
  | some a =>
    by_cases h : a.2 = len
    · exact .inl ⟨a, rfl, h, by simp [toFin, h]⟩
    · exact .inr ⟨.inr ⟨a, rfl, h⟩, by simp [toFin, h]⟩

def q0 : Req := ⟨0, [], [], zero32⟩
def s0 : Sgn := ⟨⟨0, zero32, zero32, zero32⟩, []⟩
def p0 : Prf := ⟨[], 0, zero32, zero32⟩

end Go.Proofs.Ytdceegllpcepnaa

/-
Things of the record layer compared; whether a proof may be.
-/
set_option linter.unusedSimpArgs false
set_option linter.unusedVariables false
namespace Go.Proofs.Ytdceegllpcepnaa
open Go.Sym
set_option maxRecDepth 10000
set_option maxHeartbeats 4000000

instance : DecidableEq Bnd := fun a b => if h : a.name = b.name ∧ a.key = b.key ∧ a.serial = b.serial then isTrue (by cases a; cases b; simp_all) else isFalse (by rintro rfl; exact h ⟨rfl, rfl, rfl⟩)
instance : DecidableEq Req := fun a b => if h : a.kind = b.kind ∧ a.name = b.name ∧ a.key = b.key ∧ a.auth = b.auth then isTrue (by cases a; cases b; simp_all) else isFalse (by rintro rfl; exact h ⟨rfl, rfl, rfl, rfl⟩)
instance : DecidableEq Rt := fun a b => if h : a.epoch = b.epoch ∧ a.prev = b.prev ∧ a.tree = b.tree ∧ a.next = b.next then isTrue (by cases a; cases b; simp_all) else isFalse (by rintro rfl; exact h ⟨rfl, rfl, rfl, rfl⟩)
instance : DecidableEq Sgn := fun a b => if h : a.root = b.root ∧ a.sig = b.sig then isTrue (by cases a; cases b; simp_all) else isFalse (by rintro rfl; exact h ⟨rfl, rfl⟩)
instance : DecidableEq Prf := fun a b => if h : a.sides = b.sides ∧ a.fin = b.fin ∧ a.index = b.index ∧ a.value = b.value then isTrue (by cases a; cases b; simp_all) else isFalse (by rintro rfl; exact h ⟨rfl, rfl, rfl, rfl⟩)

theorem bnd_ext (a b : Bnd) : a = b ↔ a.name = b.name ∧ a.serial = b.serial ∧ a.key = b.key := ⟨fun h => by subst h; exact ⟨rfl, rfl, rfl⟩, fun h => by cases a; cases b; simp_all⟩
theorem req_ext (a b : Req) : a = b ↔ a.kind = b.kind ∧ a.name = b.name ∧ a.key = b.key ∧ a.auth = b.auth := ⟨fun h => by subst h; exact ⟨rfl, rfl, rfl, rfl⟩, fun h => by cases a; cases b; simp_all⟩
theorem rt_ext (a b : Rt) : a = b ↔ a.epoch = b.epoch ∧ a.prev = b.prev ∧ a.tree = b.tree ∧ a.next = b.next := ⟨fun h => by subst h; exact ⟨rfl, rfl, rfl, rfl⟩, fun h => by cases a; cases b; simp_all⟩
theorem sgn_ext (a b : Sgn) : a = b ↔ a.root = b.root ∧ a.sig = b.sig := ⟨fun h => by subst h; exact ⟨rfl, rfl⟩, fun h => by cases a; cases b; simp_all⟩
theorem prf_ext (a b : Prf) : a = b ↔ a.sides = b.sides ∧ a.fin = b.fin ∧ a.index = b.index ∧ a.value = b.value := ⟨fun h => by subst h; exact ⟨rfl, rfl, rfl, rfl⟩, fun h => by cases a; cases b; simp_all⟩

theorem bool_iff {b : Bool} {p : Prop} [Decidable p] (h : b = true ↔ p) : D.bool b = D.bool (decide p) := by
  congr 1
  rw [Bool.eq_iff_iff, decide_eq_true_eq]; exact h

theorem fits_root (f : Nat) (r : Rt) : D.fits Try.prog (f + 3) 56 (rootD r) := by
  have h1 := fits_dig f r.prev
  have h2 := fits_dig f r.tree
  have h3 := fits_dig f r.next
  exact ⟨by decide +kernel, ⟨by decide, rfl, rfl⟩, rfl, ⟨by decide, rfl, rfl⟩, h1, ⟨by decide, rfl, rfl⟩, h2, ⟨by decide, rfl, rfl⟩, h3, trivial⟩

theorem beq_root (a b : Rt) : D.beq (rootD a) (rootD b) = decide (a = b) := by
  simp only [D.beq, D.beqs, beqs_bytes]
  rw [Bool.eq_iff_iff, decide_eq_true_eq, rt_ext]
  simp only [Bool.and_eq_true, beq_iff_eq, decide_eq_true_eq, and_true, Int.ofNat_inj]

theorem z6 : List.replicate 32 (D.zero Try.prog 6 5) = zero32.map byteD := rfl
theorem z7 : List.replicate 32 (D.zero Try.prog 7 5) = zero32.map byteD := rfl

theorem sameBnd_ok (a b : Bnd) : LocalCall Try.prog 26 [.d (bD a), .d (bD b)] [] [] (one [.d (.bool (decide (a = b)))]) [] := by
  refine vc_fn mixed Try.func26 rfl rfl [] (vc_chk rfl) ?_
  repeat' (first
      | ((with_reducible refine vc_chk ?_); first | decide +kernel | rfl)
      | (with_reducible refine vc_side0 ?_; rfl)
      | (with_reducible first
           | refine vc_true ?_ | refine vc_true2 ?_ | refine vc_side ?_ ?_ | refine vc_triv | refine vc_later ?_ | refine vc_caseT ?_ | refine vc_caseF ?_ | refine vc_cons ?_ | refine vc_nil ?_ ?_ | refine vc_seq ?_
              | refine vc_region ?_ | refine vc_cond ?_ | refine vc_block ?_ | refine vc_retc ?_ | refine vc_exit ?_ | refine vc_skip ?_ | refine vc_scope ?_ | refine vc_label ?_ | refine vc_goto ?_ | refine vc_wkSl0
              | refine vc_wkHp0 | refine vc_eqAVs0 | refine vc_preG0 | refine vc_wkSl ?_ ?_ | refine vc_wkHp ?_ ?_ | refine vc_eqAVs ?_ ?_ | refine vc_preG ?_ ?_ | refine vc_side0 ?_ | refine vc_weakf [] ?_ ?_ ?_
              | refine vc_and ?_ ?_ | refine vc_ret [] [] ?_)
      | ((with_reducible first | refine vc_caseD (fun h => ?_) (fun h => ?_) | refine vc_caseN (fun h => ?_) (fun h => ?_)) <;> try (exfalso; omega))
      | ((with_reducible refine vc_case (fun h => ?_) (fun h => ?_)) <;> (try simp only [Bool.cond_true_left, Bool.cond_false_right, Bool.cond_true_right, Bool.cond_false_left, Bool.and_eq_true, Bool.or_eq_true, Bool.and_eq_false_iff, Bool.or_eq_false_iff, Bool.not_eq_true', Bool.not_eq_false', Bool.not_eq_true, Bool.not_eq_false, Bool.not_not, decide_eq_true_eq, decide_eq_false_iff_not, beq_iff_eq, beq_eq_false_iff_ne, bne_iff_ne, bne_eq_false_iff_eq, ne_eq, Classical.not_not, reduceCtorEq, false_or, or_false, true_and, and_true, Bool.false_eq_true, Bool.true_eq_false] at h) <;> try (exfalso; first | omega | (simp at h; done)))
      | (conv in Vc _ => arg 1; whnf
         first
          | (with_reducible refine vc_side0 ?_; rfl)
          | (with_reducible first
              | refine vc_true ?_ | refine vc_true2 ?_ | refine vc_side ?_ ?_ | refine vc_triv | refine vc_later ?_ | refine vc_caseT ?_ | refine vc_caseF ?_ | refine vc_cons ?_ | refine vc_nil ?_ ?_ | refine vc_seq ?_
                 | refine vc_region ?_ | refine vc_cond ?_ | refine vc_block ?_ | refine vc_retc ?_ | refine vc_exit ?_ | refine vc_skip ?_ | refine vc_scope ?_ | refine vc_label ?_ | refine vc_goto ?_ | refine vc_wkSl0
                 | refine vc_wkHp0 | refine vc_eqAVs0 | refine vc_preG0 | refine vc_wkSl ?_ ?_ | refine vc_wkHp ?_ ?_ | refine vc_eqAVs ?_ ?_ | refine vc_preG ?_ ?_ | refine vc_side0 ?_ | refine vc_weakf [] ?_ ?_ ?_
                 | refine vc_and ?_ ?_ | refine vc_ret [] [] ?_)
          | ((with_reducible first | refine vc_caseD (fun h => ?_) (fun h => ?_) | refine vc_caseN (fun h => ?_) (fun h => ?_)) <;> try (exfalso; omega))
          | ((with_reducible refine vc_case (fun h => ?_) (fun h => ?_)) <;> (try simp only [Bool.cond_true_left, Bool.cond_false_right, Bool.cond_true_right, Bool.cond_false_left, Bool.and_eq_true, Bool.or_eq_true, Bool.and_eq_false_iff, Bool.or_eq_false_iff, Bool.not_eq_true', Bool.not_eq_false', Bool.not_eq_true, Bool.not_eq_false, Bool.not_not, decide_eq_true_eq, decide_eq_false_iff_not, beq_iff_eq, beq_eq_false_iff_ne, bne_iff_ne, bne_eq_false_iff_eq, ne_eq, Classical.not_not, reduceCtorEq, false_or, or_false, true_and, and_true, Bool.false_eq_true, Bool.true_eq_false] at h) <;> try (exfalso; first | omega | (simp at h; done)))))
  all_goals (try simp only [bytesOf_map, str_list, Int.ofNat_inj, beq_root, beq_dig, cond_true, cond_false, Bool.not_eq_true', decide_eq_true_eq, decide_eq_false_iff_not] at *)
  all_goals first
    | rfl
    | exact ⟨trivial, trivial⟩
    | exact ⟨fits_dig 6 _, fits_dig 6 _⟩
    | exact ⟨by decide +kernel, fits_root 5 _, fits_root 5 _⟩
    | (refine bool_iff ?_; simp only [bnd_ext]; simp_all; done)
    | skip

theorem sides_eq (a b : List (List UInt8)) (h : a.length = b.length) {i : Nat} (hi : a.length ≤ i) (ht : a.take i = b.take i) : a = b := take_all h hi ht

def rightP (p : Prf) : Prop := p.sides.length ≤ 256 ∧ (p.fin = 1 ∨ (p.fin = 0 ∧ p.index = zero32 ∧ p.value = zero32))
instance (p : Prf) : Decidable (rightP p) := by unfold rightP; exact inferInstance

theorem right_ok (p : Prf) : LocalCall Try.prog 36 [.d (pD p)] [] [] (one [.d (.bool (decide (rightP p)))]) [] := by
  refine vc_fn mixed Try.func36 rfl rfl [] (vc_chk rfl) ?_
  repeat' (first
      | ((with_reducible refine vc_chk ?_); first | decide +kernel | rfl)
      | (with_reducible refine vc_side0 ?_; rfl)
      | (with_reducible first
           | refine vc_true ?_ | refine vc_true2 ?_ | refine vc_side ?_ ?_ | refine vc_triv | refine vc_later ?_ | refine vc_caseT ?_ | refine vc_caseF ?_ | refine vc_cons ?_ | refine vc_nil ?_ ?_ | refine vc_seq ?_
              | refine vc_region ?_ | refine vc_cond ?_ | refine vc_block ?_ | refine vc_retc ?_ | refine vc_exit ?_ | refine vc_skip ?_ | refine vc_scope ?_ | refine vc_label ?_ | refine vc_goto ?_ | refine vc_wkSl0
              | refine vc_wkHp0 | refine vc_eqAVs0 | refine vc_preG0 | refine vc_wkSl ?_ ?_ | refine vc_wkHp ?_ ?_ | refine vc_eqAVs ?_ ?_ | refine vc_preG ?_ ?_ | refine vc_side0 ?_ | refine vc_weakf [] ?_ ?_ ?_
              | refine vc_and ?_ ?_ | refine vc_ret [] [] ?_)
      | ((with_reducible first | refine vc_caseD (fun h => ?_) (fun h => ?_) | refine vc_caseN (fun h => ?_) (fun h => ?_)) <;> try (exfalso; omega))
      | ((with_reducible refine vc_case (fun h => ?_) (fun h => ?_)) <;> (try simp only [Bool.cond_true_left, Bool.cond_false_right, Bool.cond_true_right, Bool.cond_false_left, Bool.and_eq_true, Bool.or_eq_true, Bool.and_eq_false_iff, Bool.or_eq_false_iff, Bool.not_eq_true', Bool.not_eq_false', Bool.not_eq_true, Bool.not_eq_false, Bool.not_not, decide_eq_true_eq, decide_eq_false_iff_not, beq_iff_eq, beq_eq_false_iff_ne, bne_iff_ne, bne_eq_false_iff_eq, ne_eq, Classical.not_not, reduceCtorEq, false_or, or_false, true_and, and_true, Bool.false_eq_true, Bool.true_eq_false] at h) <;> try (exfalso; first | omega | (simp at h; done)))
      | (conv in Vc _ => arg 1; whnf
         first
          | (with_reducible refine vc_side0 ?_; rfl)
          | (with_reducible first
              | refine vc_true ?_ | refine vc_true2 ?_ | refine vc_side ?_ ?_ | refine vc_triv | refine vc_later ?_ | refine vc_caseT ?_ | refine vc_caseF ?_ | refine vc_cons ?_ | refine vc_nil ?_ ?_ | refine vc_seq ?_
                 | refine vc_region ?_ | refine vc_cond ?_ | refine vc_block ?_ | refine vc_retc ?_ | refine vc_exit ?_ | refine vc_skip ?_ | refine vc_scope ?_ | refine vc_label ?_ | refine vc_goto ?_ | refine vc_wkSl0
                 | refine vc_wkHp0 | refine vc_eqAVs0 | refine vc_preG0 | refine vc_wkSl ?_ ?_ | refine vc_wkHp ?_ ?_ | refine vc_eqAVs ?_ ?_ | refine vc_preG ?_ ?_ | refine vc_side0 ?_ | refine vc_weakf [] ?_ ?_ ?_
                 | refine vc_and ?_ ?_ | refine vc_ret [] [] ?_)
          | ((with_reducible first | refine vc_caseD (fun h => ?_) (fun h => ?_) | refine vc_caseN (fun h => ?_) (fun h => ?_)) <;> try (exfalso; omega))
          | ((with_reducible refine vc_case (fun h => ?_) (fun h => ?_)) <;> (try simp only [Bool.cond_true_left, Bool.cond_false_right, Bool.cond_true_right, Bool.cond_false_left, Bool.and_eq_true, Bool.or_eq_true, Bool.and_eq_false_iff, Bool.or_eq_false_iff, Bool.not_eq_true', Bool.not_eq_false', Bool.not_eq_true, Bool.not_eq_false, Bool.not_not, decide_eq_true_eq, decide_eq_false_iff_not, beq_iff_eq, beq_eq_false_iff_ne, bne_iff_ne, bne_eq_false_iff_eq, ne_eq, Classical.not_not, reduceCtorEq, false_or, or_false, true_and, and_true, Bool.false_eq_true, Bool.true_eq_false] at h) <;> try (exfalso; first | omega | (simp at h; done)))))
  all_goals (try simp only [z6, z7, beq_dig, List.length_map, cond_true, cond_false, Bool.not_eq_true', decide_eq_true_eq, decide_eq_false_iff_not] at *)
  all_goals first
    | rfl
    | exact ⟨fits_dig 6 _, fits_dig 6 zero32⟩
    | (refine bool_iff ?_; simp only [rightP]; simp_all; done)
    | (refine bool_iff ?_; simp only [rightP]; simp_all; omega)
    | (refine bool_iff ?_; simp only [rightP]; omega)
    | skip

end Go.Proofs.Ytdceegllpcepnaa

/-
The references' numbers and texts, handed back as rows of their own; texts and digests behind bytes.
-/
set_option linter.unusedSimpArgs false
set_option linter.unusedVariables false
namespace Go.Proofs.Ytdceegllpcepnaa
open Go.Sym
set_option maxRecDepth 10000
set_option maxHeartbeats 1000000

theorem room30 {k j : Nat} (hj : j = 1) (h : k ≤ 2 ^ 30) : Room k j := by subst hj; unfold Room; omega
theorem room23' {k : Nat} (h : k ≤ 2 ^ 30) : Room k 1 := room30 rfl h

theorem join_own (ts : List (List UInt8)) (hl : ts.length < 2 ^ 62) (hroom : ts.flatten.length ≤ 2 ^ 30) : LocalCall Try.prog 72 [.d (.sl (ts.map tD))] [] [2] (one [.sl 2 [] 1 0 (ts.flatten.map byteD).length]) [(2, .row 1 (ts.flatten.map byteD))] := by
  have hJ : ∀ i, i ≤ ts.length → (ts.take i).flatten.length ≤ ts.flatten.length := fun i h => by
    have h : ts.flatten = (ts.take i).flatten ++ (ts.drop i).flatten := by rw [← List.flatten_append, List.take_append_drop]
    rw [h, List.length_append]; omega
  have hN : ∀ i, i < ts.length → (ts.take i).flatten ++ ts.getD i [] = (ts.take (i + 1)).flatten := fun i h => by
    rw [List.take_add_one, List.flatten_append, List.getD_eq_getElem?_getD, List.getElem?_eq_getElem h]; simp
  have lm : (ts.map tD).length = ts.length := List.length_map _
  refine vc_fn mixed Try.func72 rfl rfl [(500001, [7001003])] (vc_chk rfl) ?_
  repeat' (first
      | ((with_reducible refine vc_chk ?_); first | decide +kernel | rfl)
      | (with_reducible refine vc_side0 ?_; rfl)
      | (with_reducible first
           | refine vc_true ?_ | refine vc_true2 ?_ | refine vc_side ?_ ?_ | refine vc_triv | refine vc_later ?_ | refine vc_caseT ?_ | refine vc_caseF ?_ | refine vc_cons ?_ | refine vc_nil ?_ ?_ | refine vc_seq ?_
              | refine vc_region ?_ | refine vc_cond ?_ | refine vc_block ?_ | refine vc_retc ?_ | refine vc_exit ?_ | refine vc_skip ?_ | refine vc_scope ?_ | refine vc_label ?_ | refine vc_goto ?_ | refine vc_wkSl0
              | refine vc_wkHp0 | refine vc_eqAVs0 | refine vc_preG0 | refine vc_wkSl ?_ ?_ | refine vc_wkHp ?_ ?_ | refine vc_eqAVs ?_ ?_ | refine vc_preG ?_ ?_ | refine vc_side0 ?_
              | refine vc_loopI 18 (fun (i : Nat) => [(0, .d (.sl (ts.map tD))), (3, .sl 7 [] 1 0 ((ts.take i).flatten.map byteD).length), (4, .d (.int .i64 (i : Int)))]) (fun i => [(7, .row 1 ((ts.take i).flatten.map byteD))]) (fun i => ts.length - i) (fun i => i ≤ ts.length) 0 [] ?_ ?_ ?_ ?_ ?_ (fun i hI => ?_)
              | refine vc_nextI (i + 1) [(7, 6020)] ?_ ?_ ?_ ?_ ?_ ?_ | refine vc_ret [] [(2, 7)] ?_ | refine vc_weakf [] ?_ ?_ ?_ | refine vc_and ?_ ?_ | refine vc_ret [] [] ?_)
      | ((with_reducible first | refine vc_caseD (fun h => ?_) (fun h => ?_) | refine vc_caseN (fun h => ?_) (fun h => ?_)) <;> try (exfalso; omega))
      | ((with_reducible refine vc_case (fun h => ?_) (fun h => ?_)) <;> (try simp at h) <;> try (exfalso; omega))
      | (conv in Vc _ => arg 1; whnf
         first
          | (with_reducible refine vc_side0 ?_; rfl)
          | (with_reducible first
              | refine vc_true ?_ | refine vc_true2 ?_ | refine vc_side ?_ ?_ | refine vc_triv | refine vc_later ?_ | refine vc_caseT ?_ | refine vc_caseF ?_ | refine vc_cons ?_ | refine vc_nil ?_ ?_ | refine vc_seq ?_
                 | refine vc_region ?_ | refine vc_cond ?_ | refine vc_block ?_ | refine vc_retc ?_ | refine vc_exit ?_ | refine vc_skip ?_ | refine vc_scope ?_ | refine vc_label ?_ | refine vc_goto ?_ | refine vc_wkSl0
                 | refine vc_wkHp0 | refine vc_eqAVs0 | refine vc_preG0 | refine vc_wkSl ?_ ?_ | refine vc_wkHp ?_ ?_ | refine vc_eqAVs ?_ ?_ | refine vc_preG ?_ ?_ | refine vc_side0 ?_
                 | refine vc_loopI 18 (fun (i : Nat) => [(0, .d (.sl (ts.map tD))), (3, .sl 7 [] 1 0 ((ts.take i).flatten.map byteD).length), (4, .d (.int .i64 (i : Int)))]) (fun i => [(7, .row 1 ((ts.take i).flatten.map byteD))]) (fun i => ts.length - i) (fun i => i ≤ ts.length) 0 [] ?_ ?_ ?_ ?_ ?_ (fun i hI => ?_)
                 | refine vc_nextI (i + 1) [(7, 6020)] ?_ ?_ ?_ ?_ ?_ ?_ | refine vc_ret [] [(2, 7)] ?_ | refine vc_weakf [] ?_ ?_ ?_ | refine vc_and ?_ ?_ | refine vc_ret [] [] ?_)
          | ((with_reducible first | refine vc_caseD (fun h => ?_) (fun h => ?_) | refine vc_caseN (fun h => ?_) (fun h => ?_)) <;> try (exfalso; omega))
          | ((with_reducible refine vc_case (fun h => ?_) (fun h => ?_)) <;> (try simp at h) <;> try (exfalso; omega))))
  all_goals (try simp only [Int.toNat_natCast])
  all_goals first
    | rfl
    | omega
    | (congr 1; rw [wrap64_id (by omega) (by omega)]; omega)
    | (rw [(map_at (f := tD) (d := []) (by omega)).1]; show _ = List.length (((ts.take (i + 1)).flatten).map byteD); rw [← hN i (by omega), List.map_append]; rfl)
    | (rw [(map_at (f := tD) (d := []) (by omega)).1]; show _ = ((ts.take (i + 1)).flatten).map byteD; rw [← hN i (by omega), List.map_append]; rfl)
    | (rw [(map_at (f := tD) (d := []) (by omega)).1]; exact ⟨⟨by omega, by omega⟩, rfl⟩)
    | (rw [(map_at (f := tD) (d := []) (by omega)).1]
       refine ⟨⟨trivial, by first | trivial | rfl, room23' ?_⟩, fun y hy => size_bytes _ y hy⟩
       have := hJ (i + 1) (by omega)
       rw [← hN i (by omega), List.length_append] at this
       show ((ts.take i).flatten.map byteD ++ (ts.getD i []).map byteD).length ≤ _
       rw [List.length_append, List.length_map, List.length_map]; omega)
    | (obtain rfl : i = ts.length := by omega
       rw [List.take_length])

end Go.Proofs.Ytdceegllpcepnaa

/-
What record.Binding, Request, Signed and Proof write.
-/
set_option linter.unusedSimpArgs false
set_option linter.unusedVariables false
namespace Go.Proofs.Ytdceegllpcepnaa
open Go.Sym
set_option maxRecDepth 10000
set_option maxHeartbeats 8000000

def bndB (b : Bnd) : List UInt8 := textB b.name ++ textB b.key ++ numB b.serial
def kindN (k : Int) : Nat := (IntKind.u64.wrap k).toNat
def reqB (q : Req) : List UInt8 := numB (kindN q.kind) ++ textB q.name ++ textB q.key ++ (bif decide (q.kind = 2) then q.auth else [])
def sgnB (s : Sgn) : List UInt8 := numB s.root.epoch ++ [s.root.prev, s.root.tree, s.root.next].flatten ++ textB s.sig
def prfB (p : Prf) : List UInt8 := numB p.sides.length ++ p.sides.flatten ++ numB (kindN p.fin) ++ (bif decide (p.fin = 1) then p.index ++ p.value else [])

theorem kindN_eq (k : Int) : IntKind.u64.wrap k = (kindN k : Int) := by
  unfold kindN
  have : IntKind.u64.wrap k = k % 18446744073709551616 := by simp [IntKind.wrap, IntKind.signed, IntKind.bits]
  rw [this]; omega
theorem kindN_lt (k : Int) : kindN k < 2 ^ 64 := by
  unfold kindN
  have : IntKind.u64.wrap k = k % 18446744073709551616 := by simp [IntKind.wrap, IntKind.signed, IntKind.bits]
  rw [this]; omega

theorem str_cut (n : List UInt8) : D.sl (List.take (⟨n.toArray⟩ : ByteArray).size (List.drop 0 (List.map byteD (⟨n.toArray⟩ : ByteArray).data.toList))) = D.sl (n.map byteD) := by
  show D.sl (List.take n.length (List.drop 0 (List.map byteD n))) = _
  rw [List.drop_zero, ← List.length_map (f := byteD), List.take_length]
theorem str_side (n : List UInt8) : 0 + (⟨n.toArray⟩ : ByteArray).size ≤ (List.map byteD (⟨n.toArray⟩ : ByteArray).data.toList).length ∧ True := by
  show 0 + n.length ≤ (List.map byteD n).length ∧ True
  rw [List.length_map]; exact ⟨Nat.le_of_eq (Nat.zero_add _), trivial⟩

theorem flat_len : ∀ l : List (List UInt8), (∀ d, d ∈ l → d.length = 32) → l.length ≤ l.flatten.length
  | [], _ => by simp
  | x :: l, h => by
    have h1 := flat_len l fun d hd => h d (by simp [hd])
    have h2 := h x (by simp)
    simp only [List.length_cons, List.flatten_cons, List.length_append]; omega

end Go.Proofs.Ytdceegllpcepnaa

/-
What is written is what is read: bindings, requests, signed roots and proofs; no program in sight.
-/
set_option linter.unusedSimpArgs false
set_option linter.unusedVariables false
namespace Go.Proofs.Ytdceegllpcepnaa
open Go.Sym
set_option maxRecDepth 10000
set_option maxHeartbeats 1000000

theorem rdG_iff {bs d : List UInt8} {k m : Nat} (h : rdG bs k = some (d, m)) : d.length = 32 ∧ bs.drop k = d ++ bs.drop m := by
  obtain ⟨h1, rfl, rfl⟩ := rdG_ok h
  refine ⟨by rw [List.length_take, List.length_drop]; omega, ?_⟩
  rw [← List.drop_drop, List.take_append_drop]

theorem iff_rdG {bs d rest : List UInt8} {k : Nat} (hl : d.length = 32) (h : bs.drop k = d ++ rest) : rdG bs k = some (d, k + 32) ∧ bs.drop (k + 32) = rest := by
  have hlen : (bs.drop k).length = 32 + rest.length := by rw [h, List.length_append, hl]
  rw [List.length_drop] at hlen
  refine ⟨?_, ?_⟩
  · unfold rdG
    rw [decide_eq_true (by omega), cond_true, h, ← hl, List.take_left' rfl]
  · rw [← List.drop_drop, h, ← hl, List.drop_left' rfl]

theorem rdC_iff {bs : List UInt8} {most : Int} {k v e : Nat} (h : rdC bs most k = some (v, e)) : v < 2 ^ 64 ∧ (v : Int) ≤ most ∧ bs.drop k = numB v ++ bs.drop e := by
  obtain ⟨h1, h2, h3⟩ := rdC_ok h
  exact ⟨(rdN_iff h1).1, h3, (rdN_iff h1).2⟩

theorem at_end {bs : List UInt8} {k : Nat} (hk : k ≤ bs.length) (h : bs.drop k = []) : k = bs.length := by
  have := congrArg List.length h
  rw [List.length_drop] at this
  simp at this; omega

theorem kindN_small {k : Int} (h0 : 0 ≤ k) (h : k < 4) : (kindN k : Int) = k := by
  rw [← kindN_eq, wrapU64_id (by omega) (by omega)]

/-! ### Bindings -/

theorem bnd_back {b : Bnd} (hs : b.serial < 2 ^ 64) (hc : checkI b.name b.key = 0) (hn : b.name.length ≤ 1048576) (hk : b.key.length ≤ 1048576) : toFin (bndB b).length (rdBnd (bndB b)) = some b := by
  have h0 : (bndB b).drop 0 = textB b.name ++ (textB b.key ++ (numB b.serial ++ [])) := by simp [bndB]
  obtain ⟨q1, r1⟩ := iff_rdT hn h0
  obtain ⟨q2, r2⟩ := iff_rdT hk r1
  obtain ⟨q3, r3⟩ := iff_rdN hs r2
  simp only [rdBnd, q1, q2, q3, Option.bind_some, hc, decide_true, cond_true]
  have he := at_end (rdN_le2 q3) r3
  simp only [toFin, Option.bind_some, he, decide_true, cond_true]

theorem bnd_one {bs : List UInt8} {b : Bnd} (h : toFin bs.length (rdBnd bs) = some b) : bndB b = bs ∧ b.serial < 2 ^ 64 ∧ checkI b.name b.key = 0 := by
  rcases toFin_cases bs.length (rdBnd bs) with ⟨a, h1, h2, h3⟩ | ⟨_, h3⟩
  · rw [h] at h3
    cases h3
    unfold rdBnd at h1
    cases q1 : rdT bs 0 with
    | none => rw [q1] at h1; cases h1
    | some x =>
      rw [q1, Option.bind_some] at h1
      cases q2 : rdT bs x.2 with
      | none => rw [q2] at h1; cases h1
      | some y =>
        rw [q2, Option.bind_some] at h1
        cases q3 : rdN bs 10 y.2 0 0 with
        | none => rw [q3] at h1; cases h1
        | some z =>
          rw [q3, Option.bind_some] at h1
          by_cases hc : checkI x.1 y.1 = 0
          · rw [decide_eq_true hc, cond_true] at h1
            cases h1
            have e1 := (rdT_iff (ts := x.1) (m := x.2) q1).2
            have e2 := (rdT_iff (ts := y.1) (m := y.2) q2).2
            obtain ⟨e4, e3⟩ := rdN_iff (v := z.1) (e := z.2) q3
            refine ⟨?_, e4, hc⟩
            rw [List.drop_zero] at e1
            simp only at h2
            rw [e1, e2, e3, h2, List.drop_length]
            simp [bndB]
          · rw [decide_eq_false hc, cond_false] at h1; cases h1
  · rw [h] at h3; cases h3

theorem bnd_code {a b : Bnd} (h : bndB a = bndB b) : a = b := by
  unfold bndB at h
  simp only [List.append_assoc] at h
  obtain ⟨h1, h⟩ := textB_code h
  obtain ⟨h2, h⟩ := textB_code h
  have h3 := (numB_code _ _ [] [] (by simpa using h)).1
  exact (bnd_ext a b).2 ⟨h1, h3, h2⟩

/-! ### Requests -/

/-- May a request be? -/
def mayQ (q : Req) : Prop := checkI q.name q.key = 0 ∧ (q.kind = 2 ∨ (q.kind = 1 ∧ q.auth = zero32))

theorem req_back {q : Req} (ha : q.auth.length = 32) (hc : mayQ q) (hn : q.name.length ≤ 1048576) (hk : q.key.length ≤ 1048576) : toFin (reqB q).length (rdReq (reqB q)) = some q := by
  obtain ⟨hc, hm⟩ := hc
  have hkd : 0 ≤ q.kind ∧ q.kind < 4 ∧ (kindN q.kind : Int) = q.kind := by
    have : 0 ≤ q.kind ∧ q.kind < 4 := by rcases hm with h | ⟨h, _⟩ <;> omega
    exact ⟨this.1, this.2, kindN_small this.1 this.2⟩
  have h0 : (reqB q).drop 0 = numB (kindN q.kind) ++ (textB q.name ++ (textB q.key ++ (bif decide (q.kind = 2) then q.auth else []))) := by simp [reqB]
  obtain ⟨q0, r0⟩ := iff_rdC (most := 2) (kindN_lt q.kind) (by omega) (by rw [hkd.2.2]; rcases hm with h | ⟨h, _⟩ <;> omega) h0
  obtain ⟨q1, r1⟩ := iff_rdT hn r0
  obtain ⟨q2, r2⟩ := iff_rdT hk r1
  rcases hm with h2 | ⟨h2, h3⟩
  · rw [decide_eq_true h2, cond_true] at r2
    obtain ⟨q3, r3⟩ := iff_rdG (rest := []) ha (by rw [List.append_nil]; exact r2)
    have he := at_end (rdG_le q3) r3
    simp only [rdReq, q0, q1, q2, Option.bind_some, rdAu_two (n := kindN q.kind) (by omega), q3]
    rw [decide_eq_true ⟨by omega, hc⟩, cond_true]
    simp only [toFin, Option.bind_some, he, decide_true, cond_true, hkd.2.2]
  · rw [decide_eq_false (by omega), cond_false] at r2
    have he := at_end (rdT_le q2) r2
    simp only [rdReq, q0, q1, q2, Option.bind_some, rdAu_no (n := kindN q.kind) (by omega)]
    rw [decide_eq_true ⟨by omega, hc⟩, cond_true]
    simp only [toFin, Option.bind_some, he, decide_true, cond_true, hkd.2.2, ← h3]

theorem req_one {bs : List UInt8} {q : Req} (h : toFin bs.length (rdReq bs) = some q) : reqB q = bs ∧ q.auth.length = 32 ∧ mayQ q := by
  rcases toFin_cases bs.length (rdReq bs) with ⟨a, h1, h2, h3⟩ | ⟨_, h3⟩
  · rw [h] at h3
    cases h3
    unfold rdReq at h1
    cases q0 : rdC bs 2 0 with
    | none => rw [q0] at h1; cases h1
    | some w =>
    rw [q0, Option.bind_some] at h1
    cases q1 : rdT bs w.2 with
    | none => rw [q1] at h1; cases h1
    | some x =>
    rw [q1, Option.bind_some] at h1
    cases q2 : rdT bs x.2 with
    | none => rw [q2] at h1; cases h1
    | some y =>
    rw [q2, Option.bind_some] at h1
    cases q3 : rdAu bs w.1 y.2 with
    | none => rw [q3] at h1; cases h1
    | some z =>
    rw [q3, Option.bind_some] at h1
    by_cases hc : 1 ≤ w.1 ∧ checkI x.1 y.1 = 0
    · rw [decide_eq_true hc, cond_true] at h1
      cases h1
      obtain ⟨e5, e6, e0⟩ := rdC_iff (v := w.1) (e := w.2) q0
      have e1 := (rdT_iff (ts := x.1) (m := x.2) q1).2
      have e2 := (rdT_iff (ts := y.1) (m := y.2) q2).2
      have hk : kindN (w.1 : Int) = w.1 := by
        have := kindN_small (k := (w.1 : Int)) (by omega) (by omega)
        omega
      simp only at h2
      rw [List.drop_zero] at e0
      by_cases h2' : (w.1 : Int) = 2
      · rw [rdAu_two h2'] at q3
        obtain ⟨e3, e4⟩ := rdG_iff (d := z.1) (m := z.2) q3
        refine ⟨?_, e3, hc.2, .inl h2'⟩
        rw [h2, List.drop_length] at e4
        rw [e0, e1, e2, e4]
        simp only [reqB, hk, decide_eq_true h2', cond_true, List.append_assoc, List.append_nil]
      · rw [rdAu_no h2'] at q3
        cases q3
        refine ⟨?_, rfl, hc.2, .inr ⟨by simp only; omega, rfl⟩⟩
        simp only at h2
        rw [h2, List.drop_length] at e2
        rw [e0, e1, e2]
        simp only [reqB, hk, decide_eq_false h2', cond_false, List.append_assoc, List.append_nil]
    · rw [decide_eq_false hc, cond_false] at h1; cases h1
  · rw [h] at h3; cases h3

theorem req_code {a b : Req} (ha : mayQ a) (hb : mayQ b) (h : reqB a = reqB b) : a = b := by
  unfold reqB at h
  simp only [List.append_assoc] at h
  obtain ⟨h0, h⟩ := numB_code _ _ _ _ h
  obtain ⟨h1, h⟩ := textB_code h
  obtain ⟨h2, h⟩ := textB_code h
  have hk : a.kind = b.kind := by
    have ka : (kindN a.kind : Int) = a.kind := kindN_small (by rcases ha.2 with h | ⟨h, _⟩ <;> omega) (by rcases ha.2 with h | ⟨h, _⟩ <;> omega)
    have kb : (kindN b.kind : Int) = b.kind := kindN_small (by rcases hb.2 with h | ⟨h, _⟩ <;> omega) (by rcases hb.2 with h | ⟨h, _⟩ <;> omega)
    rw [← ka, ← kb, h0]
  refine (req_ext a b).2 ⟨hk, h1, h2, ?_⟩
  by_cases h2' : b.kind = 2
  · rw [decide_eq_true h2', decide_eq_true (by omega)] at h
    exact h
  · rcases ha.2 with h | ⟨_, h⟩
    · omega
    · rcases hb.2 with h' | ⟨_, h'⟩
      · omega
      · rw [h, h']

/-! ### Signed roots -/

structure wfS (s : Sgn) : Prop where
  epoch : s.root.epoch < 2 ^ 64
  prev : s.root.prev.length = 32
  tree : s.root.tree.length = 32
  next : s.root.next.length = 32

theorem sgn_back {s : Sgn} (hw : wfS s) (hs : s.sig.length ≤ 1048576) : toFin (sgnB s).length (rdSgn (sgnB s)) = some s := by
  have h0 : (sgnB s).drop 0 = numB s.root.epoch ++ (s.root.prev ++ (s.root.tree ++ (s.root.next ++ (textB s.sig ++ [])))) := by simp [sgnB]
  obtain ⟨q0, r0⟩ := iff_rdN hw.epoch h0
  obtain ⟨q1, r1⟩ := iff_rdG hw.prev r0
  obtain ⟨q2, r2⟩ := iff_rdG hw.tree r1
  obtain ⟨q3, r3⟩ := iff_rdG hw.next r2
  obtain ⟨q4, r4⟩ := iff_rdT hs r3
  have he := at_end (rdT_le q4) r4
  simp only [rdSgn, q0, q1, q2, q3, q4, Option.bind_some]
  simp only [toFin, Option.bind_some, he, decide_true, cond_true]

theorem sgn_one {bs : List UInt8} {s : Sgn} (h : toFin bs.length (rdSgn bs) = some s) : sgnB s = bs ∧ wfS s ∧ s.sig.length ≤ 1048576 := by
  rcases toFin_cases bs.length (rdSgn bs) with ⟨a, h1, h2, h3⟩ | ⟨_, h3⟩
  · rw [h] at h3
    cases h3
    unfold rdSgn at h1
    cases q0 : rdN bs 10 0 0 0 with
    | none => rw [q0] at h1; cases h1
    | some w =>
    rw [q0, Option.bind_some] at h1
    cases q1 : rdG bs w.2 with
    | none => rw [q1] at h1; cases h1
    | some x =>
    rw [q1, Option.bind_some] at h1
    cases q2 : rdG bs x.2 with
    | none => rw [q2] at h1; cases h1
    | some y =>
    rw [q2, Option.bind_some] at h1
    cases q3 : rdG bs y.2 with
    | none => rw [q3] at h1; cases h1
    | some z =>
    rw [q3, Option.bind_some] at h1
    cases q4 : rdT bs z.2 with
    | none => rw [q4] at h1; cases h1
    | some u =>
    rw [q4, Option.bind_some] at h1
    cases h1
    obtain ⟨e5, e0⟩ := rdN_iff (v := w.1) (e := w.2) q0
    obtain ⟨f1, e1⟩ := rdG_iff (d := x.1) (m := x.2) q1
    obtain ⟨f2, e2⟩ := rdG_iff (d := y.1) (m := y.2) q2
    obtain ⟨f3, e3⟩ := rdG_iff (d := z.1) (m := z.2) q3
    obtain ⟨f4, e4⟩ := rdT_iff (ts := u.1) (m := u.2) q4
    refine ⟨?_, ⟨e5, f1, f2, f3⟩, f4⟩
    simp only at h2
    rw [List.drop_zero] at e0
    rw [h2, List.drop_length] at e4
    rw [e0, e1, e2, e3, e4]
    simp [sgnB]
  · rw [h] at h3; cases h3

theorem sgn_code {a b : Sgn} (ha : wfS a) (hb : wfS b) (h : sgnB a = sgnB b) : a = b := by
  unfold sgnB at h
  simp only [List.append_assoc, List.flatten_cons, List.flatten_nil, List.nil_append, List.append_nil] at h
  obtain ⟨h0, h⟩ := numB_code _ _ _ _ h
  obtain ⟨h1, h⟩ := List.append_inj h (by rw [ha.prev, hb.prev])
  obtain ⟨h2, h⟩ := List.append_inj h (by rw [ha.tree, hb.tree])
  obtain ⟨h3, h⟩ := List.append_inj h (by rw [ha.next, hb.next])
  have h4 := (textB_code (u := []) (v := []) (by simpa using h)).1
  exact (sgn_ext a b).2 ⟨(rt_ext _ _).2 ⟨h0, h1, h2, h3⟩, h4⟩

/-! ### Proofs -/

structure wfP (p : Prf) : Prop where
  sides : ∀ d, d ∈ p.sides → d.length = 32
  index : p.index.length = 32
  value : p.value.length = 32

theorem iff_rdGs {bs : List UInt8} : ∀ {ds : List (List UInt8)} {k : Nat} {rest : List UInt8}, (∀ d, d ∈ ds → d.length = 32) → bs.drop k = ds.flatten ++ rest → rdGs bs ds.length k = some (ds, k + ds.flatten.length) ∧ bs.drop (k + ds.flatten.length) = rest
  | [], k, rest, _, h => ⟨rfl, by simpa using h⟩
  | d :: ds, k, rest, hd, h => by
    rw [List.flatten_cons, List.append_assoc] at h
    obtain ⟨q1, r1⟩ := iff_rdG (hd d (by simp)) h
    obtain ⟨q2, r2⟩ := iff_rdGs (fun x hx => hd x (by simp [hx])) r1
    have hl := hd d (by simp)
    have e : k + (d :: ds).flatten.length = k + 32 + ds.flatten.length := by rw [List.flatten_cons, List.length_append]; omega
    refine ⟨?_, by rw [e]; exact r2⟩
    rw [e]
    simp only [List.length_cons, rdGs, q1, Option.bind_some, q2, Option.map_some]

theorem rdGs_iff {bs : List UInt8} : ∀ {n k : Nat} {g : List (List UInt8) × Nat}, rdGs bs n k = some g → (∀ d, d ∈ g.1 → d.length = 32) ∧ bs.drop k = g.1.flatten ++ bs.drop g.2
  | 0, k, g, h => by cases h; exact ⟨nofun, rfl⟩
  | n + 1, k, g, h => by
    simp only [rdGs] at h
    cases hg : rdG bs k with
    | none => rw [hg] at h; cases h
    | some a =>
      rw [hg, Option.bind_some] at h
      cases hr : rdGs bs n a.2 with
      | none => rw [hr] at h; cases h
      | some p =>
        rw [hr] at h
        cases h
        obtain ⟨e1, e2⟩ := rdG_iff (d := a.1) (m := a.2) hg
        obtain ⟨e3, e4⟩ := rdGs_iff hr
        refine ⟨fun d hd => ?_, ?_⟩
        · rcases List.mem_cons.1 hd with rfl | hd
          · exact e1
          · exact e3 d hd
        · rw [e2, e4]; simp

theorem prf_back {p : Prf} (hw : wfP p) (hr : rightP p) : toFin (prfB p).length (rdPrf (prfB p)) = some p := by
  obtain ⟨hs, hf⟩ := hr
  have hk : 0 ≤ p.fin ∧ p.fin < 4 ∧ (kindN p.fin : Int) = p.fin := by
    have : 0 ≤ p.fin ∧ p.fin < 4 := by rcases hf with h | ⟨h, _⟩ <;> omega
    exact ⟨this.1, this.2, kindN_small this.1 this.2⟩
  have h0 : (prfB p).drop 0 = numB p.sides.length ++ (p.sides.flatten ++ (numB (kindN p.fin) ++ (bif decide (p.fin = 1) then p.index ++ p.value else []))) := by simp [prfB]
  obtain ⟨q0, r0⟩ := iff_rdC (most := 256) (by omega) (by omega) (by omega) h0
  obtain ⟨q1, r1⟩ := iff_rdGs hw.sides r0
  obtain ⟨q2, r2⟩ := iff_rdC (most := 1) (kindN_lt p.fin) (by omega) (by rw [hk.2.2]; rcases hf with h | ⟨h, _⟩ <;> omega) r1
  rcases hf with h2 | ⟨h2, h3, h4⟩
  · rw [decide_eq_true h2, cond_true] at r2
    obtain ⟨q3, r3⟩ := iff_rdG hw.index r2
    obtain ⟨q4, r4⟩ := iff_rdG (rest := []) hw.value (by rw [List.append_nil]; exact r3)
    have he := at_end (rdG_le q4) r4
    simp only [rdPrf, q0, q1, q2, Option.bind_some, rdLf_one (e := kindN p.fin) (by omega), q3, q4]
    simp only [toFin, Option.bind_some, he, decide_true, cond_true, hk.2.2]
  · rw [decide_eq_false (by omega), cond_false] at r2
    have he := at_end (rdC_le q2) r2
    simp only [rdPrf, q0, q1, q2, Option.bind_some, rdLf_no (e := kindN p.fin) (by omega)]
    simp only [toFin, Option.bind_some, he, decide_true, cond_true, hk.2.2]
    exact congrArg some ((prf_ext _ _).2 ⟨rfl, rfl, h3.symm, h4.symm⟩)

theorem prf_one {bs : List UInt8} {p : Prf} (h : toFin bs.length (rdPrf bs) = some p) : prfB p = bs ∧ wfP p ∧ rightP p := by
  rcases toFin_cases bs.length (rdPrf bs) with ⟨a, h1, h2, h3⟩ | ⟨_, h3⟩
  · rw [h] at h3
    cases h3
    unfold rdPrf at h1
    cases q0 : rdC bs 256 0 with
    | none => rw [q0] at h1; cases h1
    | some w =>
    rw [q0, Option.bind_some] at h1
    cases q1 : rdGs bs w.1 w.2 with
    | none => rw [q1] at h1; cases h1
    | some x =>
    rw [q1, Option.bind_some] at h1
    cases q2 : rdC bs 1 x.2 with
    | none => rw [q2] at h1; cases h1
    | some y =>
    rw [q2, Option.bind_some] at h1
    cases q3 : rdLf bs y.1 y.2 with
    | none => rw [q3] at h1; cases h1
    | some z =>
    rw [q3, Option.bind_some] at h1
    cases h1
    obtain ⟨_, e6, e0⟩ := rdC_iff (v := w.1) (e := w.2) q0
    obtain ⟨f1, e1⟩ := rdGs_iff q1
    have fl := rdGs_len q1
    obtain ⟨_, e7, e2⟩ := rdC_iff (v := y.1) (e := y.2) q2
    have hk : kindN (y.1 : Int) = y.1 := by
      have := kindN_small (k := (y.1 : Int)) (by omega) (by omega)
      omega
    simp only at h2
    rw [List.drop_zero] at e0
    by_cases h2' : (y.1 : Int) = 1
    · rw [rdLf_one h2'] at q3
      cases q4 : rdG bs y.2 with
      | none => rw [q4] at q3; cases q3
      | some u =>
      rw [q4, Option.bind_some] at q3
      cases q5 : rdG bs u.2 with
      | none => rw [q5] at q3; cases q3
      | some v =>
      rw [q5, Option.bind_some] at q3
      cases q3
      obtain ⟨g1, e4⟩ := rdG_iff (d := u.1) (m := u.2) q4
      obtain ⟨g2, e5⟩ := rdG_iff (d := v.1) (m := v.2) q5
      refine ⟨?_, ⟨f1, g1, g2⟩, by simp only [fl]; omega, .inl h2'⟩
      simp only at h2
      rw [h2, List.drop_length] at e5
      rw [e0, e1, e2, e4, e5]
      simp only [prfB, hk, fl, decide_eq_true h2', cond_true, List.append_assoc, List.append_nil]
    · rw [rdLf_no h2'] at q3
      cases q3
      refine ⟨?_, ⟨f1, rfl, rfl⟩, by simp only [fl]; omega, .inr ⟨by simp only; omega, rfl, rfl⟩⟩
      simp only at h2
      rw [h2, List.drop_length] at e2
      rw [e0, e1, e2]
      simp only [prfB, hk, fl, decide_eq_false h2', cond_false, List.append_assoc, List.append_nil]
  · rw [h] at h3; cases h3

theorem flat_code : ∀ {a b : List (List UInt8)} {u v : List UInt8}, a.length = b.length → (∀ d, d ∈ a → d.length = 32) → (∀ d, d ∈ b → d.length = 32) → a.flatten ++ u = b.flatten ++ v → a = b ∧ u = v
  | [], [], u, v, _, _, _, h => ⟨rfl, by simpa using h⟩
  | x :: a, y :: b, u, v, hl, ha, hb, h => by
    rw [List.flatten_cons, List.flatten_cons, List.append_assoc, List.append_assoc] at h
    obtain ⟨h1, h⟩ := List.append_inj h (by rw [ha x (by simp), hb y (by simp)])
    obtain ⟨h2, h3⟩ := flat_code (by simpa using hl) (fun d hd => ha d (by simp [hd])) (fun d hd => hb d (by simp [hd])) h
    exact ⟨by rw [h1, h2], h3⟩

theorem prf_code {a b : Prf} (wa : wfP a) (wb : wfP b) (ha : rightP a) (hb : rightP b) (h : prfB a = prfB b) : a = b := by
  unfold prfB at h
  simp only [List.append_assoc] at h
  obtain ⟨h0, h⟩ := numB_code _ _ _ _ h
  obtain ⟨h1, h⟩ := flat_code h0 wa.sides wb.sides h
  obtain ⟨h2, h⟩ := numB_code _ _ _ _ h
  have ka : (kindN a.fin : Int) = a.fin := kindN_small (by rcases ha.2 with h | ⟨h, _⟩ <;> omega) (by rcases ha.2 with h | ⟨h, _⟩ <;> omega)
  have kb : (kindN b.fin : Int) = b.fin := kindN_small (by rcases hb.2 with h | ⟨h, _⟩ <;> omega) (by rcases hb.2 with h | ⟨h, _⟩ <;> omega)
  have hk : a.fin = b.fin := by rw [← ka, ← kb, h2]
  by_cases h2' : b.fin = 1
  · rw [decide_eq_true h2', decide_eq_true (by omega), cond_true, cond_true] at h
    obtain ⟨h3, h4⟩ := List.append_inj h (by rw [wa.index, wb.index])
    exact (prf_ext a b).2 ⟨h1, hk, h3, h4⟩
  · rcases ha.2 with h | ⟨_, h3, h4⟩
    · omega
    · rcases hb.2 with h' | ⟨_, h5, h6⟩
      · omega
      · exact (prf_ext a b).2 ⟨h1, hk, h3.trans h5.symm, h4.trans h6.symm⟩

end Go.Proofs.Ytdceegllpcepnaa

/-
Readings of bindings, requests, signed roots and proofs.
-/
set_option linter.unusedSimpArgs false
set_option linter.unusedVariables false
namespace Go.Proofs.Ytdceegllpcepnaa
open Go.Sym
set_option maxRecDepth 10000

theorem str_of {n : Nat} {x : D} (h : okD Try.prog (n + 1) 9 x) : ∃ s : List UInt8, x = strD s ∧ s.length ≤ maxLen := by
  have hu : Try.prog.underlying 9 = some .string := rfl
  simp only [okD, hu] at h
  obtain ⟨s, rfl, hs⟩ := h
  exact ⟨s.data.toList, by simp, hs⟩

theorem sll_of {n : Nat} {x : D} (h : okD Try.prog (n + 2) 23 x) : ∃ bs : List UInt8, x = .sl (bs.map byteD) ∧ bs.length ≤ maxLen := by
  have hu : Try.prog.underlying 23 = some (.slice 5) := rfl
  rw [show n + 2 = (n + 1) + 1 from rfl, okD, hu] at h
  obtain ⟨xs, rfl, hl, hx⟩ := h
  obtain ⟨bs, rfl⟩ := bytes_of (n := n) xs hx
  exact ⟨bs, rfl, by simpa using hl⟩

theorem bnd_of {n : Nat} {x : D} (h : okD Try.prog (n + 4) 59 x) : ∃ b : Bnd, x = bD b ∧ b.serial < 2 ^ 64 ∧ b.name.length ≤ maxLen := by
  have hu : ∃ fs, Try.prog.underlying 59 = some (.struct fs) ∧ fs.toList.map (·.type) = [9, 23, 54] := ⟨_, rfl, rfl⟩
  obtain ⟨fs, hu, ht⟩ := hu
  rw [show n + 4 = (n + 3) + 1 from rfl, okD, hu] at h
  obtain ⟨xs, rfl, hx⟩ := h
  rw [ht] at hx
  obtain ⟨a, b, c, rfl, h0, h1, h2⟩ := okAll3 hx
  obtain ⟨s, rfl, hs⟩ := str_of (n := n + 2) h0
  obtain ⟨k, rfl⟩ := sl_of (n := n + 1) h1
  obtain ⟨m, rfl, hm⟩ := u64_of (n := n + 2) h2
  exact ⟨⟨s, k, m⟩, rfl, hm, hs⟩

theorem root_of {n : Nat} {x : D} (h : okD Try.prog (n + 4) 56 x) : ∃ r : Rt, x = rootD r ∧ r.epoch < 2 ^ 64 ∧ r.prev.length = 32 ∧ r.tree.length = 32 ∧ r.next.length = 32 := by
  have hu : ∃ fs, Try.prog.underlying 56 = some (.struct fs) ∧ fs.toList.map (·.type) = [54, 33, 33, 33] := ⟨_, rfl, rfl⟩
  obtain ⟨fs, hu, ht⟩ := hu
  rw [show n + 4 = (n + 3) + 1 from rfl, okD, hu] at h
  obtain ⟨xs, rfl, hx⟩ := h
  rw [ht] at hx
  obtain ⟨i, a, b, c, rfl, hi, h0, h1, h2⟩ := okAll4 hx
  obtain ⟨j, rfl, hj⟩ := u64_of (n := n + 2) hi
  obtain ⟨p, hp, rfl⟩ := dig_of (n := n + 1) h0
  obtain ⟨t, ht, rfl⟩ := dig_of (n := n + 1) h1
  obtain ⟨d, hd, rfl⟩ := dig_of (n := n + 1) h2
  exact ⟨⟨j, p, t, d⟩, rfl, hj, hp, ht, hd⟩

theorem digs_in {n : Nat} : ∀ (xs : List D), (∀ y, y ∈ xs → okD Try.prog (n + 2) 33 y) → ∃ ds : List (List UInt8), xs = ds.map digD ∧ ∀ d, d ∈ ds → d.length = 32
  | [], _ => ⟨[], rfl, nofun⟩
  | x :: xs, h => by
    obtain ⟨d, hd, rfl⟩ := dig_of (h x (by simp))
    obtain ⟨ds, rfl, hb⟩ := digs_in xs fun y hy => h y (by simp [hy])
    refine ⟨d :: ds, rfl, fun v hv => ?_⟩
    rcases List.mem_cons.1 hv with rfl | hv
    · exact hd
    · exact hb v hv

theorem digs_of {n : Nat} {x : D} (h : okD Try.prog (n + 3) 34 x) : ∃ ds : List (List UInt8), x = .sl (ds.map digD) ∧ (∀ d, d ∈ ds → d.length = 32) ∧ ds.length ≤ maxLen := by
  have hu : Try.prog.underlying 34 = some (.slice 33) := rfl
  rw [show n + 3 = (n + 2) + 1 from rfl, okD, hu] at h
  obtain ⟨xs, rfl, hl, hx⟩ := h
  obtain ⟨ds, rfl, hd⟩ := digs_in (n := n) xs hx
  exact ⟨ds, rfl, hd, by simpa using hl⟩

theorem prf_of {n : Nat} {x : D} (h : okD Try.prog (n + 4) 36 x) : ∃ p : Prf, x = pD p ∧ wfP p ∧ p.sides.length ≤ maxLen := by
  have hu : ∃ fs, Try.prog.underlying 36 = some (.struct fs) ∧ fs.toList.map (·.type) = [34, 3, 33, 33] := ⟨_, rfl, rfl⟩
  obtain ⟨fs, hu, ht⟩ := hu
  rw [show n + 4 = (n + 3) + 1 from rfl, okD, hu] at h
  obtain ⟨xs, rfl, hx⟩ := h
  rw [ht] at hx
  obtain ⟨a, i, b, c, rfl, h0, hi, h1, h2⟩ := okAll4 hx
  obtain ⟨ds, rfl, hd, hl⟩ := digs_of (n := n) h0
  obtain ⟨j, rfl, _⟩ := int_of (n := n + 2) hi
  obtain ⟨p, hp, rfl⟩ := dig_of (n := n + 1) h1
  obtain ⟨d, hd', rfl⟩ := dig_of (n := n + 1) h2
  exact ⟨⟨ds, j, p, d⟩, rfl, ⟨hd, hp, hd'⟩, hl⟩

theorem bulk_digs : ∀ ds : List (List UInt8), ds.flatten.length ≤ D.bulks (ds.map digD)
  | [] => by simp [D.bulks]
  | d :: ds => by
    have h1 := bulk_digs ds
    have h2 := bulks_len (d.map byteD)
    simp only [List.map_cons, D.bulks, D.bulk, List.flatten_cons, List.length_append, List.length_map] at h1 h2 ⊢
    omega

theorem bulk_bnd (b : Bnd) : b.name.length + b.key.length ≤ (bD b).bulk := by
  have h2 := bulks_len (b.key.map byteD)
  simp only [D.bulks, D.bulk, List.length_map, str_size] at h2 ⊢
  omega
theorem bulk_req (q : Req) : q.name.length + q.key.length ≤ (qD q).bulk := by
  have h2 := bulks_len (q.key.map byteD)
  simp only [D.bulks, D.bulk, List.length_map, str_size] at h2 ⊢
  omega
theorem bulk_sgn (s : Sgn) : s.sig.length ≤ (sD s).bulk := by
  have h2 := bulks_len (s.sig.map byteD)
  simp only [D.bulks, D.bulk, List.length_map] at h2 ⊢
  omega
theorem bulk_prf (p : Prf) : p.sides.flatten.length ≤ (pD p).bulk := by
  have h2 := bulk_digs p.sides
  simp only [D.bulks, D.bulk] at h2 ⊢
  omega

end Go.Proofs.Ytdceegllpcepnaa

/-
Readings of lists of texts and of short numbers.
-/
set_option linter.unusedSimpArgs false
set_option linter.unusedVariables false
namespace Go.Proofs.Ytdceegllpcepnaa
open Go.Sym
set_option maxRecDepth 100000

theorem sls_of {n : Nat} : ∀ (xs : List D), (∀ y, y ∈ xs → okD Try.prog (n + 2) 23 y) → ∃ vs : List (List UInt8), xs = vs.map tD
  | [], _ => ⟨[], rfl⟩
  | x :: xs, h => by
    obtain ⟨c, rfl⟩ := sl_of (h x (by simp))
    obtain ⟨bs, rfl⟩ := sls_of xs fun y hy => h y (by simp [hy])
    exact ⟨c :: bs, rfl⟩

theorem texts_of {n : Nat} {x : D} (h : okD Try.prog (n + 3) 22 x) : ∃ vs : List (List UInt8), x = .sl (vs.map tD) := by
  have hu : Try.prog.underlying 22 = some (.slice 23) := rfl
  rw [show n + 3 = (n + 2) + 1 from rfl, okD, hu] at h
  obtain ⟨xs, rfl, _, hx⟩ := h
  obtain ⟨vs, rfl⟩ := sls_of (n := n) xs hx
  exact ⟨vs, rfl⟩

theorem bulk_texts : ∀ ts : List (List UInt8), ts.length + ts.flatten.length ≤ D.bulks (ts.map tD)
  | [] => by simp [D.bulks]
  | t :: ts => by
    have h1 := bulk_texts ts
    have h2 := bulks_len (t.map byteD)
    simp only [List.map_cons, D.bulks, D.bulk, tD, List.length_cons, List.flatten_cons, List.length_append, List.length_map] at h1 h2 ⊢
    omega

end Go.Proofs.Ytdceegllpcepnaa

/-
Readings of two digests.
-/
set_option linter.unusedSimpArgs false
set_option linter.unusedVariables false
namespace Go.Proofs.Ytdceegllpcepnaa
open Go.Sym
set_option maxRecDepth 10000

theorem dig2_of {n : Nat} {x : D} (h : okD Try.prog (n + 3) 57 x) : ∃ a b : List UInt8, a.length = 32 ∧ b.length = 32 ∧ x = .arr 2 32 [digD a, digD b] := by
  have hu : Try.prog.underlying 57 = some (.array 2 33) := rfl
  have hc : Try.prog.cellsOf 33 = 32 := rfl
  rw [show n + 3 = (n + 2) + 1 from rfl, okD, hu] at h
  obtain ⟨xs, rfl, hl, hx⟩ := h
  match xs, hl with
  | [y, z], _ =>
    obtain ⟨a, ha, rfl⟩ := dig_of (n := n) (hx y (by simp))
    obtain ⟨b, hb, rfl⟩ := dig_of (n := n) (hx z (by simp))
    exact ⟨a, b, ha, hb, by rw [hc]⟩

theorem mem_flat {ts : List (List UInt8)} {t : List UInt8} (h : t ∈ ts) : t.length ≤ ts.flatten.length := by
  induction ts with
  | nil => cases h
  | cons x xs ih =>
    rw [List.flatten_cons, List.length_append]
    rcases List.mem_cons.1 h with rfl | h
    · omega
    · have := ih h; omega

theorem bnd_of2 {n : Nat} {x : D} (h : okD Try.prog (n + 4) 59 x) : ∃ b : Bnd, x = bD b ∧ b.serial < 2 ^ 64 ∧ b.name.length ≤ maxLen ∧ b.key.length ≤ maxLen := by
  have hu : ∃ fs, Try.prog.underlying 59 = some (.struct fs) ∧ fs.toList.map (·.type) = [9, 23, 54] := ⟨_, rfl, rfl⟩
  obtain ⟨fs, hu, ht⟩ := hu
  rw [show n + 4 = (n + 3) + 1 from rfl, okD, hu] at h
  obtain ⟨xs, rfl, hx⟩ := h
  rw [ht] at hx
  obtain ⟨a, b, c, rfl, h0, h1, h2⟩ := okAll3 hx
  obtain ⟨s, rfl, hs⟩ := str_of (n := n + 2) h0
  obtain ⟨k, rfl, hk⟩ := sll_of (n := n + 1) h1
  obtain ⟨m, rfl, hm⟩ := u64_of (n := n + 2) h2
  exact ⟨⟨s, k, m⟩, rfl, hm, hs, hk⟩

end Go.Proofs.Ytdceegllpcepnaa

/-
blazonref01.Join hands back a row of its own.
-/
set_option linter.unusedSimpArgs false
set_option linter.unusedVariables false
namespace Go.Proofs.Ytdceegllpcepnaa
open Go.Sym
set_option maxRecDepth 10000
set_option maxHeartbeats 1000000

theorem roomJ {k : Nat} (h : k ≤ 2 ^ 30) : Room k 1 := by unfold Room; omega

theorem joinO_ok (ts : List (List UInt8)) (hl : ts.length < 2 ^ 63) (hroom : ts.flatten.length ≤ 2 ^ 30) : LocalCall Try.prog 72 [.d (.sl (ts.map tD))] [] [2] (one [.sl 2 [] 1 0 (ts.flatten.map byteD).length]) [(2, .row 1 (ts.flatten.map byteD))] := by
  have hJ : ∀ i, i ≤ ts.length → (ts.take i).flatten.length ≤ ts.flatten.length := fun i h => by
    have h : ts.flatten = (ts.take i).flatten ++ (ts.drop i).flatten := by rw [← List.flatten_append, List.take_append_drop]
    rw [h, List.length_append]; omega
  have hN : ∀ i, i < ts.length → (ts.take i).flatten ++ ts.getD i [] = (ts.take (i + 1)).flatten := fun i h => by
    rw [List.take_add_one, List.flatten_append, List.getD_eq_getElem?_getD, List.getElem?_eq_getElem h]; simp
  have lm : (ts.map tD).length = ts.length := List.length_map _
  refine vc_fn mixed Try.func72 rfl rfl [(500001, [7001003])] (vc_chk rfl) ?_
  repeat' (first
      | ((with_reducible refine vc_chk ?_); first | decide +kernel | rfl)
      | (with_reducible refine vc_side0 ?_; rfl)
      | (with_reducible first
           | refine vc_true ?_ | refine vc_true2 ?_ | refine vc_side ?_ ?_ | refine vc_triv | refine vc_later ?_ | refine vc_caseT ?_ | refine vc_caseF ?_ | refine vc_cons ?_ | refine vc_nil ?_ ?_ | refine vc_seq ?_
              | refine vc_region ?_ | refine vc_cond ?_ | refine vc_block ?_ | refine vc_retc ?_ | refine vc_exit ?_ | refine vc_skip ?_ | refine vc_scope ?_ | refine vc_label ?_ | refine vc_goto ?_ | refine vc_wkSl0
              | refine vc_wkHp0 | refine vc_eqAVs0 | refine vc_preG0 | refine vc_wkSl ?_ ?_ | refine vc_wkHp ?_ ?_ | refine vc_eqAVs ?_ ?_ | refine vc_preG ?_ ?_ | refine vc_side0 ?_
              | refine vc_loopI 18 (fun (i : Nat) => [(0, .d (.sl (ts.map tD))), (3, .sl 7 [] 1 0 ((ts.take i).flatten.map byteD).length), (4, .d (.int .i64 (i : Int)))]) (fun i => [(7, .row 1 ((ts.take i).flatten.map byteD))]) (fun i => ts.length - i) (fun i => i ≤ ts.length) 0 [] ?_ ?_ ?_ ?_ ?_ (fun i hI => ?_)
              | refine vc_nextI (i + 1) [(7, 6020)] ?_ ?_ ?_ ?_ ?_ ?_ | refine vc_ret [] [(2, 7)] ?_ | refine vc_weakf [] ?_ ?_ ?_ | refine vc_and ?_ ?_ | refine vc_ret [] [] ?_)
      | ((with_reducible first | refine vc_caseD (fun h => ?_) (fun h => ?_) | refine vc_caseN (fun h => ?_) (fun h => ?_)) <;> try (exfalso; omega))
      | ((with_reducible refine vc_case (fun h => ?_) (fun h => ?_)) <;> (try simp at h) <;> try (exfalso; omega))
      | (conv in Vc _ => arg 1; whnf
         first
          | (with_reducible refine vc_side0 ?_; rfl)
          | (with_reducible first
              | refine vc_true ?_ | refine vc_true2 ?_ | refine vc_side ?_ ?_ | refine vc_triv | refine vc_later ?_ | refine vc_caseT ?_ | refine vc_caseF ?_ | refine vc_cons ?_ | refine vc_nil ?_ ?_ | refine vc_seq ?_
                 | refine vc_region ?_ | refine vc_cond ?_ | refine vc_block ?_ | refine vc_retc ?_ | refine vc_exit ?_ | refine vc_skip ?_ | refine vc_scope ?_ | refine vc_label ?_ | refine vc_goto ?_ | refine vc_wkSl0
                 | refine vc_wkHp0 | refine vc_eqAVs0 | refine vc_preG0 | refine vc_wkSl ?_ ?_ | refine vc_wkHp ?_ ?_ | refine vc_eqAVs ?_ ?_ | refine vc_preG ?_ ?_ | refine vc_side0 ?_
                 | refine vc_loopI 18 (fun (i : Nat) => [(0, .d (.sl (ts.map tD))), (3, .sl 7 [] 1 0 ((ts.take i).flatten.map byteD).length), (4, .d (.int .i64 (i : Int)))]) (fun i => [(7, .row 1 ((ts.take i).flatten.map byteD))]) (fun i => ts.length - i) (fun i => i ≤ ts.length) 0 [] ?_ ?_ ?_ ?_ ?_ (fun i hI => ?_)
                 | refine vc_nextI (i + 1) [(7, 6020)] ?_ ?_ ?_ ?_ ?_ ?_ | refine vc_ret [] [(2, 7)] ?_ | refine vc_weakf [] ?_ ?_ ?_ | refine vc_and ?_ ?_ | refine vc_ret [] [] ?_)
          | ((with_reducible first | refine vc_caseD (fun h => ?_) (fun h => ?_) | refine vc_caseN (fun h => ?_) (fun h => ?_)) <;> try (exfalso; omega))
          | ((with_reducible refine vc_case (fun h => ?_) (fun h => ?_)) <;> (try simp at h) <;> try (exfalso; omega))))
  all_goals (try simp only [Int.toNat_natCast])
  all_goals first
    | rfl
    | omega
    | (congr 1; rw [wrap64_id (by omega) (by omega)]; omega)
    | (rw [(map_at (f := tD) (d := []) (by omega)).1]; show _ = List.length (((ts.take (i + 1)).flatten).map byteD); rw [← hN i (by omega), List.map_append]; rfl)
    | (rw [(map_at (f := tD) (d := []) (by omega)).1]; show _ = ((ts.take (i + 1)).flatten).map byteD; rw [← hN i (by omega), List.map_append]; rfl)
    | (rw [(map_at (f := tD) (d := []) (by omega)).1]; exact ⟨⟨by omega, by omega⟩, rfl⟩)
    | (rw [(map_at (f := tD) (d := []) (by omega)).1]
       refine ⟨⟨trivial, by first | trivial | rfl, roomJ ?_⟩, fun y hy => size_bytes _ y hy⟩
       have := hJ (i + 1) (by omega)
       rw [← hN i (by omega), List.length_append] at this
       show ((ts.take i).flatten.map byteD ++ (ts.getD i []).map byteD).length ≤ _
       rw [List.length_append, List.length_map, List.length_map]; omega)
    | (obtain rfl : i = ts.length := by omega
       rw [List.take_length])

end Go.Proofs.Ytdceegllpcepnaa

/-
The small functions of SHA-256: turns, words, constants.
-/
set_option linter.unusedSimpArgs false
set_option linter.unusedVariables false
namespace Go.Proofs.Ytdceegllpcepnaa
open Go.Sym
set_option maxRecDepth 10000
set_option maxHeartbeats 4000000

theorem wD_eq {i : Int} {x : W32} (h : i = wI x) : D.int .u32 i = wD x := by rw [h]; rfl

theorem rot_ok {i : Int} {x : W32} (hi : i = wI x) (k : Int) (n : Nat) (hn : n ≤ 32) (h1 : aBits .and .u64 (IntKind.u64.wrap k) 31 = ((32 - n : Nat) : Int)) (h2 : IntKind.u64.wrap (32 - ((32 - n : Nat) : Int)) = (n : Int)) :
    LocalCall Try.prog 82 [.d (.int .u32 i), .d (.int .i64 k)] [] [] (one [.d (.int .u32 (wI (rotr x n)))]) [] := by
  subst hi
  refine vc_fn mixed Try.func82 rfl rfl [] (vc_chk rfl) ?_
  repeat' (first
      | ((with_reducible refine vc_chk ?_); first | decide +kernel | rfl)
      | (with_reducible refine vc_side0 ?_; rfl)
      | (with_reducible first
           | refine vc_true ?_ | refine vc_true2 ?_ | refine vc_side ?_ ?_ | refine vc_triv | refine vc_later ?_ | refine vc_caseT ?_ | refine vc_caseF ?_ | refine vc_cons ?_ | refine vc_nil ?_ ?_ | refine vc_seq ?_
              | refine vc_region ?_ | refine vc_cond ?_ | refine vc_block ?_ | refine vc_retc ?_ | refine vc_exit ?_ | refine vc_skip ?_ | refine vc_scope ?_ | refine vc_label ?_ | refine vc_goto ?_ | refine vc_wkSl0
              | refine vc_wkHp0 | refine vc_eqAVs0 | refine vc_preG0 | refine vc_wkSl ?_ ?_ | refine vc_wkHp ?_ ?_ | refine vc_eqAVs ?_ ?_ | refine vc_preG ?_ ?_ | refine vc_side0 ?_ | refine vc_weakf [] ?_ ?_ ?_
              | refine vc_and ?_ ?_ | refine vc_ret [] [] ?_)
      | ((with_reducible first | refine vc_caseD (fun h => ?_) (fun h => ?_) | refine vc_caseN (fun h => ?_) (fun h => ?_)) <;> try (exfalso; omega))
      | ((with_reducible refine vc_case (fun h => ?_) (fun h => ?_)) <;> (try simp only [Bool.cond_true_left, Bool.cond_false_right, Bool.cond_true_right, Bool.cond_false_left, Bool.and_eq_true, Bool.or_eq_true, Bool.and_eq_false_iff, Bool.or_eq_false_iff, Bool.not_eq_true', Bool.not_eq_false', Bool.not_eq_true, Bool.not_eq_false, Bool.not_not, decide_eq_true_eq, decide_eq_false_iff_not, beq_iff_eq, beq_eq_false_iff_ne, bne_iff_ne, bne_eq_false_iff_eq, ne_eq, Classical.not_not, reduceCtorEq, false_or, or_false, true_and, and_true, Bool.false_eq_true, Bool.true_eq_false] at h) <;> try (exfalso; first | omega | (simp at h; done)))
      | (conv in Vc _ => arg 1; whnf
         first
          | (with_reducible refine vc_side0 ?_; rfl)
          | (with_reducible first
              | refine vc_true ?_ | refine vc_true2 ?_ | refine vc_side ?_ ?_ | refine vc_triv | refine vc_later ?_ | refine vc_caseT ?_ | refine vc_caseF ?_ | refine vc_cons ?_ | refine vc_nil ?_ ?_ | refine vc_seq ?_
                 | refine vc_region ?_ | refine vc_cond ?_ | refine vc_block ?_ | refine vc_retc ?_ | refine vc_exit ?_ | refine vc_skip ?_ | refine vc_scope ?_ | refine vc_label ?_ | refine vc_goto ?_ | refine vc_wkSl0
                 | refine vc_wkHp0 | refine vc_eqAVs0 | refine vc_preG0 | refine vc_wkSl ?_ ?_ | refine vc_wkHp ?_ ?_ | refine vc_eqAVs ?_ ?_ | refine vc_preG ?_ ?_ | refine vc_side0 ?_ | refine vc_weakf [] ?_ ?_ ?_
                 | refine vc_and ?_ ?_ | refine vc_ret [] [] ?_)
          | ((with_reducible first | refine vc_caseD (fun h => ?_) (fun h => ?_) | refine vc_caseN (fun h => ?_) (fun h => ?_)) <;> try (exfalso; omega))
          | ((with_reducible refine vc_case (fun h => ?_) (fun h => ?_)) <;> (try simp only [Bool.cond_true_left, Bool.cond_false_right, Bool.cond_true_right, Bool.cond_false_left, Bool.and_eq_true, Bool.or_eq_true, Bool.and_eq_false_iff, Bool.or_eq_false_iff, Bool.not_eq_true', Bool.not_eq_false', Bool.not_eq_true, Bool.not_eq_false, Bool.not_not, decide_eq_true_eq, decide_eq_false_iff_not, beq_iff_eq, beq_eq_false_iff_ne, bne_iff_ne, bne_eq_false_iff_eq, ne_eq, Classical.not_not, reduceCtorEq, false_or, or_false, true_and, and_true, Bool.false_eq_true, Bool.true_eq_false] at h) <;> try (exfalso; first | omega | (simp at h; done)))))
  all_goals (try simp only [h1, h2])
  all_goals first
    | rfl
    | omega
    | (rw [w_shl x (by omega), w_shr x hn, w_or]; unfold rotr; rw [BitVec.or_comm])

theorem turn_ok {i : Int} {x : W32} (hi : i = wI x) (n : Nat) (hn : n ≤ 32) :
    LocalCall Try.prog 78 [.d (.int .u32 i), .d (.int .i64 (n : Int))] [] [] (one [.d (.int .u32 (wI (rotr x n)))]) [] := by
  subst hi
  have h1 : IntKind.u64.wrap (n : Int) = n := by rw [u64_wrap]; omega
  have h2 : IntKind.u64.wrap (IntKind.i64.wrap (32 - (n : Int))) = ((32 - n : Nat) : Int) := by rw [wrap64_id (by omega) (by omega), u64_wrap]; omega
  refine vc_fn mixed Try.func78 rfl rfl [] (vc_chk rfl) ?_
  repeat' (first
      | ((with_reducible refine vc_chk ?_); first | decide +kernel | rfl)
      | (with_reducible refine vc_side0 ?_; rfl)
      | (with_reducible first
           | refine vc_true ?_ | refine vc_true2 ?_ | refine vc_side ?_ ?_ | refine vc_triv | refine vc_later ?_ | refine vc_caseT ?_ | refine vc_caseF ?_ | refine vc_cons ?_ | refine vc_nil ?_ ?_ | refine vc_seq ?_
              | refine vc_region ?_ | refine vc_cond ?_ | refine vc_block ?_ | refine vc_retc ?_ | refine vc_exit ?_ | refine vc_skip ?_ | refine vc_scope ?_ | refine vc_label ?_ | refine vc_goto ?_ | refine vc_wkSl0
              | refine vc_wkHp0 | refine vc_eqAVs0 | refine vc_preG0 | refine vc_wkSl ?_ ?_ | refine vc_wkHp ?_ ?_ | refine vc_eqAVs ?_ ?_ | refine vc_preG ?_ ?_ | refine vc_side0 ?_ | refine vc_weakf [] ?_ ?_ ?_
              | refine vc_and ?_ ?_ | refine vc_ret [] [] ?_)
      | ((with_reducible first | refine vc_caseD (fun h => ?_) (fun h => ?_) | refine vc_caseN (fun h => ?_) (fun h => ?_)) <;> try (exfalso; omega))
      | ((with_reducible refine vc_case (fun h => ?_) (fun h => ?_)) <;> (try simp only [Bool.cond_true_left, Bool.cond_false_right, Bool.cond_true_right, Bool.cond_false_left, Bool.and_eq_true, Bool.or_eq_true, Bool.and_eq_false_iff, Bool.or_eq_false_iff, Bool.not_eq_true', Bool.not_eq_false', Bool.not_eq_true, Bool.not_eq_false, Bool.not_not, decide_eq_true_eq, decide_eq_false_iff_not, beq_iff_eq, beq_eq_false_iff_ne, bne_iff_ne, bne_eq_false_iff_eq, ne_eq, Classical.not_not, reduceCtorEq, false_or, or_false, true_and, and_true, Bool.false_eq_true, Bool.true_eq_false] at h) <;> try (exfalso; first | omega | (simp at h; done)))
      | (conv in Vc _ => arg 1; whnf
         first
          | (with_reducible refine vc_side0 ?_; rfl)
          | (with_reducible first
              | refine vc_true ?_ | refine vc_true2 ?_ | refine vc_side ?_ ?_ | refine vc_triv | refine vc_later ?_ | refine vc_caseT ?_ | refine vc_caseF ?_ | refine vc_cons ?_ | refine vc_nil ?_ ?_ | refine vc_seq ?_
                 | refine vc_region ?_ | refine vc_cond ?_ | refine vc_block ?_ | refine vc_retc ?_ | refine vc_exit ?_ | refine vc_skip ?_ | refine vc_scope ?_ | refine vc_label ?_ | refine vc_goto ?_ | refine vc_wkSl0
                 | refine vc_wkHp0 | refine vc_eqAVs0 | refine vc_preG0 | refine vc_wkSl ?_ ?_ | refine vc_wkHp ?_ ?_ | refine vc_eqAVs ?_ ?_ | refine vc_preG ?_ ?_ | refine vc_side0 ?_ | refine vc_weakf [] ?_ ?_ ?_
                 | refine vc_and ?_ ?_ | refine vc_ret [] [] ?_)
          | ((with_reducible first | refine vc_caseD (fun h => ?_) (fun h => ?_) | refine vc_caseN (fun h => ?_) (fun h => ?_)) <;> try (exfalso; omega))
          | ((with_reducible refine vc_case (fun h => ?_) (fun h => ?_)) <;> (try simp only [Bool.cond_true_left, Bool.cond_false_right, Bool.cond_true_right, Bool.cond_false_left, Bool.and_eq_true, Bool.or_eq_true, Bool.and_eq_false_iff, Bool.or_eq_false_iff, Bool.not_eq_true', Bool.not_eq_false', Bool.not_eq_true, Bool.not_eq_false, Bool.not_not, decide_eq_true_eq, decide_eq_false_iff_not, beq_iff_eq, beq_eq_false_iff_ne, bne_iff_ne, bne_eq_false_iff_eq, ne_eq, Classical.not_not, reduceCtorEq, false_or, or_false, true_and, and_true, Bool.false_eq_true, Bool.true_eq_false] at h) <;> try (exfalso; first | omega | (simp at h; done)))))
  all_goals (try simp only [h1, h2])
  all_goals first
    | rfl
    | omega
    | (rw [w_shl x (by omega), w_shr x hn, w_or]; rfl)

theorem factors_ok : LocalCall Try.prog 81 [] [] [] (one [.d (.arr 64 1 (sK.map wD))]) [] := by
  refine vc_fn mixed Try.func81 rfl rfl [] (vc_chk rfl) ?_
  repeat' (first
      | ((with_reducible refine vc_chk ?_); first | decide +kernel | rfl)
      | (with_reducible refine vc_side0 ?_; rfl)
      | (with_reducible first
           | refine vc_true ?_ | refine vc_true2 ?_ | refine vc_side ?_ ?_ | refine vc_triv | refine vc_later ?_ | refine vc_caseT ?_ | refine vc_caseF ?_ | refine vc_cons ?_ | refine vc_nil ?_ ?_ | refine vc_seq ?_
              | refine vc_region ?_ | refine vc_cond ?_ | refine vc_block ?_ | refine vc_retc ?_ | refine vc_exit ?_ | refine vc_skip ?_ | refine vc_scope ?_ | refine vc_label ?_ | refine vc_goto ?_ | refine vc_wkSl0
              | refine vc_wkHp0 | refine vc_eqAVs0 | refine vc_preG0 | refine vc_wkSl ?_ ?_ | refine vc_wkHp ?_ ?_ | refine vc_eqAVs ?_ ?_ | refine vc_preG ?_ ?_ | refine vc_side0 ?_ | refine vc_weakf [] ?_ ?_ ?_
              | refine vc_and ?_ ?_ | refine vc_ret [] [] ?_)
      | ((with_reducible first | refine vc_caseD (fun h => ?_) (fun h => ?_) | refine vc_caseN (fun h => ?_) (fun h => ?_)) <;> try (exfalso; omega))
      | ((with_reducible refine vc_case (fun h => ?_) (fun h => ?_)) <;> (try simp only [Bool.cond_true_left, Bool.cond_false_right, Bool.cond_true_right, Bool.cond_false_left, Bool.and_eq_true, Bool.or_eq_true, Bool.and_eq_false_iff, Bool.or_eq_false_iff, Bool.not_eq_true', Bool.not_eq_false', Bool.not_eq_true, Bool.not_eq_false, Bool.not_not, decide_eq_true_eq, decide_eq_false_iff_not, beq_iff_eq, beq_eq_false_iff_ne, bne_iff_ne, bne_eq_false_iff_eq, ne_eq, Classical.not_not, reduceCtorEq, false_or, or_false, true_and, and_true, Bool.false_eq_true, Bool.true_eq_false] at h) <;> try (exfalso; first | omega | (simp at h; done)))
      | (conv in Vc _ => arg 1; whnf
         first
          | (with_reducible refine vc_side0 ?_; rfl)
          | (with_reducible first
              | refine vc_true ?_ | refine vc_true2 ?_ | refine vc_side ?_ ?_ | refine vc_triv | refine vc_later ?_ | refine vc_caseT ?_ | refine vc_caseF ?_ | refine vc_cons ?_ | refine vc_nil ?_ ?_ | refine vc_seq ?_
                 | refine vc_region ?_ | refine vc_cond ?_ | refine vc_block ?_ | refine vc_retc ?_ | refine vc_exit ?_ | refine vc_skip ?_ | refine vc_scope ?_ | refine vc_label ?_ | refine vc_goto ?_ | refine vc_wkSl0
                 | refine vc_wkHp0 | refine vc_eqAVs0 | refine vc_preG0 | refine vc_wkSl ?_ ?_ | refine vc_wkHp ?_ ?_ | refine vc_eqAVs ?_ ?_ | refine vc_preG ?_ ?_ | refine vc_side0 ?_ | refine vc_weakf [] ?_ ?_ ?_
                 | refine vc_and ?_ ?_ | refine vc_ret [] [] ?_)
          | ((with_reducible first | refine vc_caseD (fun h => ?_) (fun h => ?_) | refine vc_caseN (fun h => ?_) (fun h => ?_)) <;> try (exfalso; omega))
          | ((with_reducible refine vc_case (fun h => ?_) (fun h => ?_)) <;> (try simp only [Bool.cond_true_left, Bool.cond_false_right, Bool.cond_true_right, Bool.cond_false_left, Bool.and_eq_true, Bool.or_eq_true, Bool.and_eq_false_iff, Bool.or_eq_false_iff, Bool.not_eq_true', Bool.not_eq_false', Bool.not_eq_true, Bool.not_eq_false, Bool.not_not, decide_eq_true_eq, decide_eq_false_iff_not, beq_iff_eq, beq_eq_false_iff_ne, bne_iff_ne, bne_eq_false_iff_eq, ne_eq, Classical.not_not, reduceCtorEq, false_or, or_false, true_and, and_true, Bool.false_eq_true, Bool.true_eq_false] at h) <;> try (exfalso; first | omega | (simp at h; done)))))
  all_goals first
    | rfl
    | ((repeat' apply And.intro) <;> first | trivial | decide)

theorem round_ok : LocalCall Try.prog 77 [] [] [] (one [.d (.arr 64 1 (sK.map wD))]) [] := by
  refine vc_fn mixed Try.func77 rfl rfl [] (vc_chk rfl) ?_
  repeat' (first
      | ((with_reducible refine vc_chk ?_); first | decide +kernel | rfl)
      | (with_reducible refine vc_side0 ?_; rfl)
      | (with_reducible first
           | refine vc_true ?_ | refine vc_true2 ?_ | refine vc_side ?_ ?_ | refine vc_triv | refine vc_later ?_ | refine vc_caseT ?_ | refine vc_caseF ?_ | refine vc_cons ?_ | refine vc_nil ?_ ?_ | refine vc_seq ?_
              | refine vc_region ?_ | refine vc_cond ?_ | refine vc_block ?_ | refine vc_retc ?_ | refine vc_exit ?_ | refine vc_skip ?_ | refine vc_scope ?_ | refine vc_label ?_ | refine vc_goto ?_ | refine vc_wkSl0
              | refine vc_wkHp0 | refine vc_eqAVs0 | refine vc_preG0 | refine vc_wkSl ?_ ?_ | refine vc_wkHp ?_ ?_ | refine vc_eqAVs ?_ ?_ | refine vc_preG ?_ ?_ | refine vc_side0 ?_ | refine vc_weakf [] ?_ ?_ ?_
              | refine vc_and ?_ ?_ | refine vc_ret [] [] ?_)
      | ((with_reducible first | refine vc_caseD (fun h => ?_) (fun h => ?_) | refine vc_caseN (fun h => ?_) (fun h => ?_)) <;> try (exfalso; omega))
      | ((with_reducible refine vc_case (fun h => ?_) (fun h => ?_)) <;> (try simp only [Bool.cond_true_left, Bool.cond_false_right, Bool.cond_true_right, Bool.cond_false_left, Bool.and_eq_true, Bool.or_eq_true, Bool.and_eq_false_iff, Bool.or_eq_false_iff, Bool.not_eq_true', Bool.not_eq_false', Bool.not_eq_true, Bool.not_eq_false, Bool.not_not, decide_eq_true_eq, decide_eq_false_iff_not, beq_iff_eq, beq_eq_false_iff_ne, bne_iff_ne, bne_eq_false_iff_eq, ne_eq, Classical.not_not, reduceCtorEq, false_or, or_false, true_and, and_true, Bool.false_eq_true, Bool.true_eq_false] at h) <;> try (exfalso; first | omega | (simp at h; done)))
      | (conv in Vc _ => arg 1; whnf
         first
          | (with_reducible refine vc_side0 ?_; rfl)
          | (with_reducible first
              | refine vc_true ?_ | refine vc_true2 ?_ | refine vc_side ?_ ?_ | refine vc_triv | refine vc_later ?_ | refine vc_caseT ?_ | refine vc_caseF ?_ | refine vc_cons ?_ | refine vc_nil ?_ ?_ | refine vc_seq ?_
                 | refine vc_region ?_ | refine vc_cond ?_ | refine vc_block ?_ | refine vc_retc ?_ | refine vc_exit ?_ | refine vc_skip ?_ | refine vc_scope ?_ | refine vc_label ?_ | refine vc_goto ?_ | refine vc_wkSl0
                 | refine vc_wkHp0 | refine vc_eqAVs0 | refine vc_preG0 | refine vc_wkSl ?_ ?_ | refine vc_wkHp ?_ ?_ | refine vc_eqAVs ?_ ?_ | refine vc_preG ?_ ?_ | refine vc_side0 ?_ | refine vc_weakf [] ?_ ?_ ?_
                 | refine vc_and ?_ ?_ | refine vc_ret [] [] ?_)
          | ((with_reducible first | refine vc_caseD (fun h => ?_) (fun h => ?_) | refine vc_caseN (fun h => ?_) (fun h => ?_)) <;> try (exfalso; omega))
          | ((with_reducible refine vc_case (fun h => ?_) (fun h => ?_)) <;> (try simp only [Bool.cond_true_left, Bool.cond_false_right, Bool.cond_true_right, Bool.cond_false_left, Bool.and_eq_true, Bool.or_eq_true, Bool.and_eq_false_iff, Bool.or_eq_false_iff, Bool.not_eq_true', Bool.not_eq_false', Bool.not_eq_true, Bool.not_eq_false, Bool.not_not, decide_eq_true_eq, decide_eq_false_iff_not, beq_iff_eq, beq_eq_false_iff_ne, bne_iff_ne, bne_eq_false_iff_eq, ne_eq, Classical.not_not, reduceCtorEq, false_or, or_false, true_and, and_true, Bool.false_eq_true, Bool.true_eq_false] at h) <;> try (exfalso; first | omega | (simp at h; done)))))
  all_goals first
    | rfl
    | ((repeat' apply And.intro) <;> first | trivial | decide)

theorem first_ok : LocalCall Try.prog 67 [] [] [] (one [.d (.arr 8 1 (sFirst.map wD))]) [] := by
  refine vc_fn mixed Try.func67 rfl rfl [] (vc_chk rfl) ?_
  repeat' (first
      | ((with_reducible refine vc_chk ?_); first | decide +kernel | rfl)
      | (with_reducible refine vc_side0 ?_; rfl)
      | (with_reducible first
           | refine vc_true ?_ | refine vc_true2 ?_ | refine vc_side ?_ ?_ | refine vc_triv | refine vc_later ?_ | refine vc_caseT ?_ | refine vc_caseF ?_ | refine vc_cons ?_ | refine vc_nil ?_ ?_ | refine vc_seq ?_
              | refine vc_region ?_ | refine vc_cond ?_ | refine vc_block ?_ | refine vc_retc ?_ | refine vc_exit ?_ | refine vc_skip ?_ | refine vc_scope ?_ | refine vc_label ?_ | refine vc_goto ?_ | refine vc_wkSl0
              | refine vc_wkHp0 | refine vc_eqAVs0 | refine vc_preG0 | refine vc_wkSl ?_ ?_ | refine vc_wkHp ?_ ?_ | refine vc_eqAVs ?_ ?_ | refine vc_preG ?_ ?_ | refine vc_side0 ?_ | refine vc_weakf [] ?_ ?_ ?_
              | refine vc_and ?_ ?_ | refine vc_ret [] [] ?_)
      | ((with_reducible first | refine vc_caseD (fun h => ?_) (fun h => ?_) | refine vc_caseN (fun h => ?_) (fun h => ?_)) <;> try (exfalso; omega))
      | ((with_reducible refine vc_case (fun h => ?_) (fun h => ?_)) <;> (try simp only [Bool.cond_true_left, Bool.cond_false_right, Bool.cond_true_right, Bool.cond_false_left, Bool.and_eq_true, Bool.or_eq_true, Bool.and_eq_false_iff, Bool.or_eq_false_iff, Bool.not_eq_true', Bool.not_eq_false', Bool.not_eq_true, Bool.not_eq_false, Bool.not_not, decide_eq_true_eq, decide_eq_false_iff_not, beq_iff_eq, beq_eq_false_iff_ne, bne_iff_ne, bne_eq_false_iff_eq, ne_eq, Classical.not_not, reduceCtorEq, false_or, or_false, true_and, and_true, Bool.false_eq_true, Bool.true_eq_false] at h) <;> try (exfalso; first | omega | (simp at h; done)))
      | (conv in Vc _ => arg 1; whnf
         first
          | (with_reducible refine vc_side0 ?_; rfl)
          | (with_reducible first
              | refine vc_true ?_ | refine vc_true2 ?_ | refine vc_side ?_ ?_ | refine vc_triv | refine vc_later ?_ | refine vc_caseT ?_ | refine vc_caseF ?_ | refine vc_cons ?_ | refine vc_nil ?_ ?_ | refine vc_seq ?_
                 | refine vc_region ?_ | refine vc_cond ?_ | refine vc_block ?_ | refine vc_retc ?_ | refine vc_exit ?_ | refine vc_skip ?_ | refine vc_scope ?_ | refine vc_label ?_ | refine vc_goto ?_ | refine vc_wkSl0
                 | refine vc_wkHp0 | refine vc_eqAVs0 | refine vc_preG0 | refine vc_wkSl ?_ ?_ | refine vc_wkHp ?_ ?_ | refine vc_eqAVs ?_ ?_ | refine vc_preG ?_ ?_ | refine vc_side0 ?_ | refine vc_weakf [] ?_ ?_ ?_
                 | refine vc_and ?_ ?_ | refine vc_ret [] [] ?_)
          | ((with_reducible first | refine vc_caseD (fun h => ?_) (fun h => ?_) | refine vc_caseN (fun h => ?_) (fun h => ?_)) <;> try (exfalso; omega))
          | ((with_reducible refine vc_case (fun h => ?_) (fun h => ?_)) <;> (try simp only [Bool.cond_true_left, Bool.cond_false_right, Bool.cond_true_right, Bool.cond_false_left, Bool.and_eq_true, Bool.or_eq_true, Bool.and_eq_false_iff, Bool.or_eq_false_iff, Bool.not_eq_true', Bool.not_eq_false', Bool.not_eq_true, Bool.not_eq_false, Bool.not_not, decide_eq_true_eq, decide_eq_false_iff_not, beq_iff_eq, beq_eq_false_iff_ne, bne_iff_ne, bne_eq_false_iff_eq, ne_eq, Classical.not_not, reduceCtorEq, false_or, or_false, true_and, and_true, Bool.false_eq_true, Bool.true_eq_false] at h) <;> try (exfalso; first | omega | (simp at h; done)))))
  all_goals first
    | rfl
    | ((repeat' apply And.intro) <;> first | trivial | decide)

/-- What a hash holds. -/
def hsh (h : List W32) (bl : List UInt8) (hv n : Nat) : AObj := .var (.d (.st [.arr 8 1 (h.map wD), .arr 64 1 (bl.map byteD), .int .i64 (hv : Int), .int .u64 (n : Int)]))

def zero64 : List UInt8 := List.replicate 64 0

theorem new_ok : LocalCall Try.prog 63 [] [] [9] (one [.ptr 9 []]) [(9, hsh sFirst zero64 0 0)] := by
  refine vc_fn mixed Try.func63 rfl rfl [] (vc_chk rfl) ?_
  repeat' (first
      | ((with_reducible refine vc_chk ?_); first | decide +kernel | rfl)
      | (with_reducible refine vc_side0 ?_; rfl)
      | (with_reducible first
           | refine vc_true ?_ | refine vc_true2 ?_ | refine vc_side ?_ ?_ | refine vc_triv | refine vc_later ?_ | refine vc_caseT ?_ | refine vc_caseF ?_ | refine vc_cons ?_ | refine vc_nil ?_ ?_ | refine vc_seq ?_
              | refine vc_region ?_ | refine vc_cond ?_ | refine vc_block ?_ | refine vc_retc ?_ | refine vc_exit ?_ | refine vc_skip ?_ | refine vc_scope ?_ | refine vc_label ?_ | refine vc_goto ?_ | refine vc_wkSl0
              | refine vc_wkHp0 | refine vc_eqAVs0 | refine vc_preG0 | refine vc_wkSl ?_ ?_ | refine vc_wkHp ?_ ?_ | refine vc_eqAVs ?_ ?_ | refine vc_preG ?_ ?_ | refine vc_side0 ?_ | refine vc_ret [] [(9, 2008)] ?_
              | refine vc_weakf [] ?_ ?_ ?_ | refine vc_and ?_ ?_ | refine vc_ret [] [] ?_)
      | ((with_reducible first | refine vc_caseD (fun h => ?_) (fun h => ?_) | refine vc_caseN (fun h => ?_) (fun h => ?_)) <;> try (exfalso; omega))
      | ((with_reducible refine vc_case (fun h => ?_) (fun h => ?_)) <;> (try simp only [Bool.cond_true_left, Bool.cond_false_right, Bool.cond_true_right, Bool.cond_false_left, Bool.and_eq_true, Bool.or_eq_true, Bool.and_eq_false_iff, Bool.or_eq_false_iff, Bool.not_eq_true', Bool.not_eq_false', Bool.not_eq_true, Bool.not_eq_false, Bool.not_not, decide_eq_true_eq, decide_eq_false_iff_not, beq_iff_eq, beq_eq_false_iff_ne, bne_iff_ne, bne_eq_false_iff_eq, ne_eq, Classical.not_not, reduceCtorEq, false_or, or_false, true_and, and_true, Bool.false_eq_true, Bool.true_eq_false] at h) <;> try (exfalso; first | omega | (simp at h; done)))
      | (conv in Vc _ => arg 1; whnf
         first
          | (with_reducible refine vc_side0 ?_; rfl)
          | (with_reducible first
              | refine vc_true ?_ | refine vc_true2 ?_ | refine vc_side ?_ ?_ | refine vc_triv | refine vc_later ?_ | refine vc_caseT ?_ | refine vc_caseF ?_ | refine vc_cons ?_ | refine vc_nil ?_ ?_ | refine vc_seq ?_
                 | refine vc_region ?_ | refine vc_cond ?_ | refine vc_block ?_ | refine vc_retc ?_ | refine vc_exit ?_ | refine vc_skip ?_ | refine vc_scope ?_ | refine vc_label ?_ | refine vc_goto ?_ | refine vc_wkSl0
                 | refine vc_wkHp0 | refine vc_eqAVs0 | refine vc_preG0 | refine vc_wkSl ?_ ?_ | refine vc_wkHp ?_ ?_ | refine vc_eqAVs ?_ ?_ | refine vc_preG ?_ ?_ | refine vc_side0 ?_ | refine vc_ret [] [(9, 2008)] ?_
                 | refine vc_weakf [] ?_ ?_ ?_ | refine vc_and ?_ ?_ | refine vc_ret [] [] ?_)
          | ((with_reducible first | refine vc_caseD (fun h => ?_) (fun h => ?_) | refine vc_caseN (fun h => ?_) (fun h => ?_)) <;> try (exfalso; omega))
          | ((with_reducible refine vc_case (fun h => ?_) (fun h => ?_)) <;> (try simp only [Bool.cond_true_left, Bool.cond_false_right, Bool.cond_true_right, Bool.cond_false_left, Bool.and_eq_true, Bool.or_eq_true, Bool.and_eq_false_iff, Bool.or_eq_false_iff, Bool.not_eq_true', Bool.not_eq_false', Bool.not_eq_true, Bool.not_eq_false, Bool.not_not, decide_eq_true_eq, decide_eq_false_iff_not, beq_iff_eq, beq_eq_false_iff_ne, bne_iff_ne, bne_eq_false_iff_eq, ne_eq, Classical.not_not, reduceCtorEq, false_or, or_false, true_and, and_true, Bool.false_eq_true, Bool.true_eq_false] at h) <;> try (exfalso; first | omega | (simp at h; done)))))
  all_goals first
    | rfl
    | ((repeat' apply And.intro) <;> first | trivial | decide)

theorem word_ok (h : List W32) (bl : List UInt8) (hv n : Nat) (hb : bl.length = 64) (t : Nat) (ht : t < 16) :
    LocalCall Try.prog 83 [.sl 9 [.fld 1 8] 1 (4 * t) (64 - 4 * t)] [(9, hsh h bl hv n)] [] (one [.d (.int .u32 (wI (wordAt bl t)))]) [] := by
  have hg : ∀ k, k < 64 → ((bl.map byteD).getD k .nilp) = .int .u8 ((bl.getD k 0).toNat : Int) := fun k hk => by rw [getD_byte (by omega)]; rfl
  refine vc_fn mixed Try.func83 rfl rfl [] (vc_chk rfl) ?_
  repeat' (first
      | ((with_reducible refine vc_chk ?_); first | decide +kernel | rfl)
      | (with_reducible refine vc_side0 ?_; rfl)
      | (with_reducible first
           | refine vc_true ?_ | refine vc_true2 ?_ | refine vc_side ?_ ?_ | refine vc_triv | refine vc_later ?_ | refine vc_caseT ?_ | refine vc_caseF ?_ | refine vc_cons ?_ | refine vc_nil ?_ ?_ | refine vc_seq ?_
              | refine vc_region ?_ | refine vc_cond ?_ | refine vc_block ?_ | refine vc_retc ?_ | refine vc_exit ?_ | refine vc_skip ?_ | refine vc_scope ?_ | refine vc_label ?_ | refine vc_goto ?_ | refine vc_wkSl0
              | refine vc_wkHp0 | refine vc_eqAVs0 | refine vc_preG0 | refine vc_wkSl ?_ ?_ | refine vc_wkHp ?_ ?_ | refine vc_eqAVs ?_ ?_ | refine vc_preG ?_ ?_ | refine vc_side0 ?_ | refine vc_weakf [] ?_ ?_ ?_
              | refine vc_and ?_ ?_ | refine vc_ret [] [] ?_)
      | ((with_reducible first | refine vc_caseD (fun h => ?_) (fun h => ?_) | refine vc_caseN (fun h => ?_) (fun h => ?_)) <;> try (exfalso; omega))
      | ((with_reducible refine vc_case (fun h => ?_) (fun h => ?_)) <;> (try simp only [Bool.cond_true_left, Bool.cond_false_right, Bool.cond_true_right, Bool.cond_false_left, Bool.and_eq_true, Bool.or_eq_true, Bool.and_eq_false_iff, Bool.or_eq_false_iff, Bool.not_eq_true', Bool.not_eq_false', Bool.not_eq_true, Bool.not_eq_false, Bool.not_not, decide_eq_true_eq, decide_eq_false_iff_not, beq_iff_eq, beq_eq_false_iff_ne, bne_iff_ne, bne_eq_false_iff_eq, ne_eq, Classical.not_not, reduceCtorEq, false_or, or_false, true_and, and_true, Bool.false_eq_true, Bool.true_eq_false] at h) <;> try (exfalso; first | omega | (simp at h; done)))
      | (conv in Vc _ => arg 1; whnf
         first
          | (with_reducible refine vc_side0 ?_; rfl)
          | (with_reducible first
              | refine vc_true ?_ | refine vc_true2 ?_ | refine vc_side ?_ ?_ | refine vc_triv | refine vc_later ?_ | refine vc_caseT ?_ | refine vc_caseF ?_ | refine vc_cons ?_ | refine vc_nil ?_ ?_ | refine vc_seq ?_
                 | refine vc_region ?_ | refine vc_cond ?_ | refine vc_block ?_ | refine vc_retc ?_ | refine vc_exit ?_ | refine vc_skip ?_ | refine vc_scope ?_ | refine vc_label ?_ | refine vc_goto ?_ | refine vc_wkSl0
                 | refine vc_wkHp0 | refine vc_eqAVs0 | refine vc_preG0 | refine vc_wkSl ?_ ?_ | refine vc_wkHp ?_ ?_ | refine vc_eqAVs ?_ ?_ | refine vc_preG ?_ ?_ | refine vc_side0 ?_ | refine vc_weakf [] ?_ ?_ ?_
                 | refine vc_and ?_ ?_ | refine vc_ret [] [] ?_)
          | ((with_reducible first | refine vc_caseD (fun h => ?_) (fun h => ?_) | refine vc_caseN (fun h => ?_) (fun h => ?_)) <;> try (exfalso; omega))
          | ((with_reducible refine vc_case (fun h => ?_) (fun h => ?_)) <;> (try simp only [Bool.cond_true_left, Bool.cond_false_right, Bool.cond_true_right, Bool.cond_false_left, Bool.and_eq_true, Bool.or_eq_true, Bool.and_eq_false_iff, Bool.or_eq_false_iff, Bool.not_eq_true', Bool.not_eq_false', Bool.not_eq_true, Bool.not_eq_false, Bool.not_not, decide_eq_true_eq, decide_eq_false_iff_not, beq_iff_eq, beq_eq_false_iff_ne, bne_iff_ne, bne_eq_false_iff_eq, ne_eq, Classical.not_not, reduceCtorEq, false_or, or_false, true_and, and_true, Bool.false_eq_true, Bool.true_eq_false] at h) <;> try (exfalso; first | omega | (simp at h; done)))))
  all_goals (try simp only [show Int.toNat 0 = 0 from rfl, show Int.toNat 1 = 1 from rfl, show Int.toNat 2 = 2 from rfl, show Int.toNat 3 = 3 from rfl, Nat.add_zero])
  all_goals first
    | exact ⟨by omega, by omega⟩
    | (show (0 : Int) ≤ _; omega)
    | (rw [hg _ (by omega)]; exact ⟨⟨by omega, trivial⟩, rfl⟩)
    | (rw [hg _ (by omega), hg _ (by omega), hg _ (by omega), hg _ (by omega)]
       simp only [D.toInt, bW_wrap]
       have s1 : ∀ x : W32, shlI .u32 (wI x) 24 = wI (x <<< 24) := fun x => w_shl x (k := 24) (by omega)
       have s2 : ∀ x : W32, shlI .u32 (wI x) 16 = wI (x <<< 16) := fun x => w_shl x (k := 16) (by omega)
       have s3 : ∀ x : W32, shlI .u32 (wI x) 8 = wI (x <<< 8) := fun x => w_shl x (k := 8) (by omega)
       rw [s1, s2, s3, w_or, w_or, w_or, word4_or]
       rfl)

end Go.Proofs.Ytdceegllpcepnaa

/-
A block's words.
-/
set_option linter.unusedSimpArgs false
set_option linter.unusedVariables false
namespace Go.Proofs.Ytdceegllpcepnaa
open Go.Sym
set_option maxRecDepth 10000
set_option maxHeartbeats 8000000

/-- Words, and noughts behind them. -/
def padW (ws : List W32) : List D := ws.map wD ++ List.replicate (64 - ws.length) (.int .u32 0)

theorem padW_set {ws : List W32} (h : ws.length < 64) (x : W32) : (padW ws).set ws.length (wD x) = padW (ws ++ [x]) := by
  unfold padW
  rw [List.set_append_right _ _ (by rw [List.length_map]; omega), List.length_map, Nat.sub_self]
  rw [show 64 - ws.length = (64 - (ws ++ [x]).length) + 1 by simp; omega, List.replicate_succ, List.set_cons_zero, List.map_append, List.append_assoc]
  rfl

theorem padW_get {ws : List W32} {k : Nat} (h : k < ws.length) : (padW ws).getD k .nilp = wD (ws.getD k 0) := by
  unfold padW
  rw [List.getD_eq_getElem?_getD, List.getElem?_append_left (by rw [List.length_map]; exact h), List.getElem?_map, List.getD_eq_getElem?_getD, List.getElem?_eq_getElem h]; rfl

theorem padW_full {ws : List W32} (h : ws.length = 64) : padW ws = ws.map wD := by
  unfold padW
  rw [h]; simp

theorem words_next (bl : List UInt8) (t : Nat) : (List.range t).map (wordAt bl) ++ [wordAt bl t] = (List.range (t + 1)).map (wordAt bl) := by
  rw [List.range_succ]; simp

theorem spread_ok (hs : List W32) (bl : List UInt8) (hv n : Nat) (hb : bl.length = 64) :
    LocalCall Try.prog 80 [.ptr 9 [.fld 1 8]] [(9, hsh hs bl hv n)] [] (one [.d (.arr 64 1 ((sched bl 48).map wD))]) [] := by
  have r0 : ∀ (m k : Nat), k < 16 + m → (padW (sched bl m)).getD k .nilp = wD ((sched bl m).getD k 0) := fun m k hk => padW_get (by rw [sched_length]; exact hk)
  have r1 : ∀ m : Nat, m < 48 → IntKind.i64.wrap (((16 + m : Nat) : Int) - 15) = ((m + 1 : Nat) : Int) := fun m hm => by rw [wrap64_id (by omega) (by omega)]; omega
  have r2 : ∀ m : Nat, m < 48 → IntKind.i64.wrap (((16 + m : Nat) : Int) - 2) = ((m + 14 : Nat) : Int) := fun m hm => by rw [wrap64_id (by omega) (by omega)]; omega
  have r3 : ∀ m : Nat, m < 48 → IntKind.i64.wrap (((16 + m : Nat) : Int) - 16) = ((m : Nat) : Int) := fun m hm => by rw [wrap64_id (by omega) (by omega)]; omega
  have r4 : ∀ m : Nat, m < 48 → IntKind.i64.wrap (((16 + m : Nat) : Int) - 7) = ((m + 9 : Nat) : Int) := fun m hm => by rw [wrap64_id (by omega) (by omega)]; omega
  have ga : ∀ m : Nat, m < 48 → ((padW (sched bl m)).getD (IntKind.i64.wrap (((16 + m : Nat) : Int) - 15)).toNat .nilp).toInt = wI ((sched bl m).getD (m + 1) 0) := fun m hm => by rw [r1 m hm, Int.toNat_natCast, r0 m _ (by omega)]; rfl
  have gb : ∀ m : Nat, m < 48 → ((padW (sched bl m)).getD (IntKind.i64.wrap (((16 + m : Nat) : Int) - 2)).toNat .nilp).toInt = wI ((sched bl m).getD (m + 14) 0) := fun m hm => by rw [r2 m hm, Int.toNat_natCast, r0 m _ (by omega)]; rfl
  have gc : ∀ m : Nat, m < 48 → ((padW (sched bl m)).getD (IntKind.i64.wrap (((16 + m : Nat) : Int) - 16)).toNat .nilp).toInt = wI ((sched bl m).getD m 0) := fun m hm => by rw [r3 m hm, Int.toNat_natCast, r0 m _ (by omega)]; rfl
  have gd : ∀ m : Nat, m < 48 → ((padW (sched bl m)).getD (IntKind.i64.wrap (((16 + m : Nat) : Int) - 7)).toNat .nilp).toInt = wI ((sched bl m).getD (m + 9) 0) := fun m hm => by rw [r4 m hm, Int.toNat_natCast, r0 m _ (by omega)]; rfl
  have r5 : ∀ t : Nat, t < 16 → IntKind.i64.wrap (4 * (t : Int)) = ((4 * t : Nat) : Int) := fun t ht => by rw [wrap64_id (by omega) (by omega)]; omega
  have r6 : ∀ t : Nat, t < 16 → (padW ((List.range t).map (wordAt bl))).set t (D.int .u32 (wI (wordAt bl t))) = padW ((List.range (t + 1)).map (wordAt bl)) := fun t ht => by
    have := padW_set (ws := (List.range t).map (wordAt bl)) (by simp; omega) (wordAt bl t)
    rw [words_next] at this
    simpa [wD] using this
  have r7 : ∀ m : Nat, m < 48 → (padW (sched bl m)).set (16 + m) (D.int .u32 (wI ((sched bl m).getD m 0 + (rotr ((sched bl m).getD (m + 1) 0) 7 ^^^ rotr ((sched bl m).getD (m + 1) 0) 18 ^^^ (sched bl m).getD (m + 1) 0 >>> 3) + (sched bl m).getD (m + 9) 0 + (rotr ((sched bl m).getD (m + 14) 0) 17 ^^^ rotr ((sched bl m).getD (m + 14) 0) 19 ^^^ (sched bl m).getD (m + 14) 0 >>> 10)))) = padW (sched bl (m + 1)) := fun m hm => by
    have := padW_set (ws := sched bl m) (by rw [sched_length]; omega) ((sched bl m).getD m 0 + low3 ((sched bl m).getD (m + 1) 0) + (sched bl m).getD (m + 9) 0 + high3 ((sched bl m).getD (m + 14) 0))
    rw [sched_length] at this
    exact this
  refine vc_fn mixed Try.func80 rfl rfl [] (vc_chk rfl) ?_
  repeat' (first
      | ((with_reducible refine vc_chk ?_); first | decide +kernel | rfl)
      | (with_reducible refine vc_side0 ?_; rfl)
      | (with_reducible first
           | refine vc_true ?_ | refine vc_true2 ?_ | refine vc_side ?_ ?_ | refine vc_triv | refine vc_later ?_ | refine vc_caseT ?_ | refine vc_caseF ?_ | refine vc_cons ?_ | refine vc_nil ?_ ?_ | refine vc_seq ?_
              | refine vc_region ?_ | refine vc_cond ?_ | refine vc_block ?_ | refine vc_retc ?_ | refine vc_exit ?_ | refine vc_skip ?_ | refine vc_scope ?_ | refine vc_label ?_ | refine vc_goto ?_ | refine vc_wkSl0
              | refine vc_wkHp0 | refine vc_eqAVs0 | refine vc_preG0 | refine vc_wkSl ?_ ?_ | refine vc_wkHp ?_ ?_ | refine vc_eqAVs ?_ ?_ | refine vc_preG ?_ ?_ | refine vc_side0 ?_
              | refine vc_loopI (y := .seq (.region 3 _ _) _) 66 (fun (t : Nat) => [(0, .ptr 9 [.fld 1 8]), (2, .ptr 1000 []), (3, .ptr 2000 []), (10, .d (.int .i64 (t : Int)))]) (fun t => [(9, hsh hs bl hv n), (1000, .var (.d (.arr 64 1 (List.replicate 64 (.int .u32 0))))), (2000, .var (.d (.arr 64 1 (padW ((List.range t).map (wordAt bl))))))]) (fun t => 16 - t) (fun t => t ≤ 16) 0 [] ?_ ?_ ?_ ?_ ?_ (fun t hI => ?_)
              | refine vc_call [] (word_ok hs bl hv n hb t (by omega)) ?_ | refine vc_nextI (t + 1) [] ?_ ?_ ?_ ?_ ?_ ?_
              | refine vc_loopI (y := .seq (.seq (.region 8 _ _) _) _) 66 (fun (t : Nat) => [(2, .ptr 1000 []), (3, .ptr 2000 []), (5, .d (.int .i64 ((16 + t : Nat) : Int)))]) (fun t => [(9, hsh hs bl hv n), (1000, .var (.d (.arr 64 1 (List.replicate 64 (.int .u32 0))))), (2000, .var (.d (.arr 64 1 (padW (sched bl t)))))]) (fun t => 48 - t) (fun t => t ≤ 48) 0 [] ?_ ?_ ?_ ?_ ?_ (fun t hM => ?_)
              | refine vc_pure (rot_ok (ga t (by omega)) (-7) 7 (by decide) (by decide) (by decide)) ?_ ?_ ?_ | refine vc_pure (rot_ok (ga t (by omega)) (-18) 18 (by decide) (by decide) (by decide)) ?_ ?_ ?_
              | refine vc_pure (rot_ok (gb t (by omega)) (-17) 17 (by decide) (by decide) (by decide)) ?_ ?_ ?_ | refine vc_pure (rot_ok (gb t (by omega)) (-19) 19 (by decide) (by decide) (by decide)) ?_ ?_ ?_
              | refine vc_weakf [] ?_ ?_ ?_ | refine vc_and ?_ ?_ | refine vc_ret [] [] ?_)
      | ((with_reducible first | refine vc_caseD (fun h => ?_) (fun h => ?_) | refine vc_caseN (fun h => ?_) (fun h => ?_)) <;> try (exfalso; omega))
      | ((with_reducible refine vc_case (fun h => ?_) (fun h => ?_)) <;> (try simp only [Bool.cond_true_left, Bool.cond_false_right, Bool.cond_true_right, Bool.cond_false_left, Bool.and_eq_true, Bool.or_eq_true, Bool.and_eq_false_iff, Bool.or_eq_false_iff, Bool.not_eq_true', Bool.not_eq_false', Bool.not_eq_true, Bool.not_eq_false, Bool.not_not, decide_eq_true_eq, decide_eq_false_iff_not, beq_iff_eq, beq_eq_false_iff_ne, bne_iff_ne, bne_eq_false_iff_eq, ne_eq, Classical.not_not, reduceCtorEq, false_or, or_false, true_and, and_true, Bool.false_eq_true, Bool.true_eq_false] at h) <;> try (exfalso; first | omega | (simp at h; done)))
      | (conv in Vc _ => arg 1; whnf
         first
          | (with_reducible refine vc_side0 ?_; rfl)
          | (with_reducible first
              | refine vc_true ?_ | refine vc_true2 ?_ | refine vc_side ?_ ?_ | refine vc_triv | refine vc_later ?_ | refine vc_caseT ?_ | refine vc_caseF ?_ | refine vc_cons ?_ | refine vc_nil ?_ ?_ | refine vc_seq ?_
                 | refine vc_region ?_ | refine vc_cond ?_ | refine vc_block ?_ | refine vc_retc ?_ | refine vc_exit ?_ | refine vc_skip ?_ | refine vc_scope ?_ | refine vc_label ?_ | refine vc_goto ?_ | refine vc_wkSl0
                 | refine vc_wkHp0 | refine vc_eqAVs0 | refine vc_preG0 | refine vc_wkSl ?_ ?_ | refine vc_wkHp ?_ ?_ | refine vc_eqAVs ?_ ?_ | refine vc_preG ?_ ?_ | refine vc_side0 ?_
                 | refine vc_loopI (y := .seq (.region 3 _ _) _) 66 (fun (t : Nat) => [(0, .ptr 9 [.fld 1 8]), (2, .ptr 1000 []), (3, .ptr 2000 []), (10, .d (.int .i64 (t : Int)))]) (fun t => [(9, hsh hs bl hv n), (1000, .var (.d (.arr 64 1 (List.replicate 64 (.int .u32 0))))), (2000, .var (.d (.arr 64 1 (padW ((List.range t).map (wordAt bl))))))]) (fun t => 16 - t) (fun t => t ≤ 16) 0 [] ?_ ?_ ?_ ?_ ?_ (fun t hI => ?_)
                 | refine vc_call [] (word_ok hs bl hv n hb t (by omega)) ?_ | refine vc_nextI (t + 1) [] ?_ ?_ ?_ ?_ ?_ ?_
                 | refine vc_loopI (y := .seq (.seq (.region 8 _ _) _) _) 66 (fun (t : Nat) => [(2, .ptr 1000 []), (3, .ptr 2000 []), (5, .d (.int .i64 ((16 + t : Nat) : Int)))]) (fun t => [(9, hsh hs bl hv n), (1000, .var (.d (.arr 64 1 (List.replicate 64 (.int .u32 0))))), (2000, .var (.d (.arr 64 1 (padW (sched bl t)))))]) (fun t => 48 - t) (fun t => t ≤ 48) 0 [] ?_ ?_ ?_ ?_ ?_ (fun t hM => ?_)
                 | refine vc_pure (rot_ok (ga t (by omega)) (-7) 7 (by decide) (by decide) (by decide)) ?_ ?_ ?_ | refine vc_pure (rot_ok (ga t (by omega)) (-18) 18 (by decide) (by decide) (by decide)) ?_ ?_ ?_
                 | refine vc_pure (rot_ok (gb t (by omega)) (-17) 17 (by decide) (by decide) (by decide)) ?_ ?_ ?_ | refine vc_pure (rot_ok (gb t (by omega)) (-19) 19 (by decide) (by decide) (by decide)) ?_ ?_ ?_
                 | refine vc_weakf [] ?_ ?_ ?_ | refine vc_and ?_ ?_ | refine vc_ret [] [] ?_)
          | ((with_reducible first | refine vc_caseD (fun h => ?_) (fun h => ?_) | refine vc_caseN (fun h => ?_) (fun h => ?_)) <;> try (exfalso; omega))
          | ((with_reducible refine vc_case (fun h => ?_) (fun h => ?_)) <;> (try simp only [Bool.cond_true_left, Bool.cond_false_right, Bool.cond_true_right, Bool.cond_false_left, Bool.and_eq_true, Bool.or_eq_true, Bool.and_eq_false_iff, Bool.or_eq_false_iff, Bool.not_eq_true', Bool.not_eq_false', Bool.not_eq_true, Bool.not_eq_false, Bool.not_not, decide_eq_true_eq, decide_eq_false_iff_not, beq_iff_eq, beq_eq_false_iff_ne, bne_iff_ne, bne_eq_false_iff_eq, ne_eq, Classical.not_not, reduceCtorEq, false_or, or_false, true_and, and_true, Bool.false_eq_true, Bool.true_eq_false] at h) <;> try (exfalso; first | omega | (simp at h; done)))))
  all_goals (try dsimp only)
  all_goals first
    | with_reducible rfl
    | omega
    | (show (0 : Int) ≤ _; decide)
    | exact ⟨by omega, by omega⟩
    | (show D.int .i64 _ = D.int .i64 _; first | rfl | (congr 1; rw [wrap64_id (by omega) (by omega)]; omega))
    | skip
  all_goals first
    | (have hm := hM
       first
       | (obtain rfl : t = 48 := by omega
          rw [padW_full (sched_length bl 48)]; done)
       | (simp only [r1 t (by omega), r2 t (by omega), r3 t (by omega), r4 t (by omega), Int.toNat_natCast]
          first
          | exact ⟨by omega, by omega⟩
          | (rw [r0 t _ (by omega)]; exact ⟨⟨by omega, trivial⟩, rfl⟩))
       | (rw [ga t (by omega), gb t (by omega), gc t (by omega), gd t (by omega)]
          have s1 : ∀ x : W32, shrI .u32 (wI x) 3 = wI (x >>> 3) := fun x => w_shr x (k := 3) (by omega)
          have s2 : ∀ x : W32, shrI .u32 (wI x) 10 = wI (x >>> 10) := fun x => w_shr x (k := 10) (by omega)
          simp only [s1, s2, w_xor, w_add, Int.toNat_natCast]
          exact congrArg (D.arr 64 1) (r7 t (by omega)))
       | skip)
    | (have ht := hI
       first
       | (rw [r5 t (by omega)]; first | omega | exact ⟨⟨by omega, by omega, by omega⟩, trivial⟩)
       | (rw [Int.toNat_natCast]; exact congrArg (D.arr 64 1) (r6 t (by omega)))
       | (have e : t = 16 := by omega
          subst e
          exact congrArg (D.arr 64 1) rfl)
       | skip)
    | rfl
    | skip

end Go.Proofs.Ytdceegllpcepnaa

/-
A block taken in.
-/
set_option linter.unusedSimpArgs false
set_option linter.unusedVariables false
namespace Go.Proofs.Ytdceegllpcepnaa
open Go.Sym
set_option maxRecDepth 10000
set_option maxHeartbeats 8000000

theorem words8 {v : List W32} (h : v.length = 8) : ∃ a b c d e f g i, v = [a, b, c, d, e, f, g, i] := by
  match v, h with
  | [a, b, c, d, e, f, g, i], _ => exact ⟨a, b, c, d, e, f, g, i, rfl⟩

theorem w8_get {v : List W32} (k : Nat) (hk : k < v.length) : (v.map wD).getD k .nilp = wD (v.getD k 0) := by
  rw [List.getD_eq_getElem?_getD, List.getElem?_map, List.getD_eq_getElem?_getD, List.getElem?_eq_getElem hk]; rfl

/-- The words moved by one. -/
def over8 (v : List W32) : List D := overD (v.map wD) ((v.map wD).take 7) 1 7

theorem over8_four {v : List W32} (h : v.length = 8) : (over8 v).getD 4 .nilp = wD (v.getD 3 0) := by
  obtain ⟨a, b, c, d, e, f, g, i, rfl⟩ := words8 h
  rfl

theorem over8_set {v : List W32} (h : v.length = 8) (x y : W32) : ((over8 v).set 0 (wD x)).set 4 (wD y) = [x, v.getD 0 0, v.getD 1 0, v.getD 2 0, y, v.getD 4 0, v.getD 5 0, v.getD 6 0].map wD := by
  obtain ⟨a, b, c, d, e, f, g, i, rfl⟩ := words8 h
  rfl

theorem addW_get (h v : List W32) {i : Nat} (hi : i < 8) : (addW h v i).getD i 0 = h.getD i 0 := by
  unfold addW
  rw [List.getD_eq_getElem?_getD, List.getElem?_map, List.getElem?_range hi]
  simp

theorem addW_length (h v : List W32) (i : Nat) : (addW h v i).length = 8 := by simp [addW]

theorem addW_set (h v : List W32) {i : Nat} (hi : i < 8) : ((addW h v i).map wD).set i (wD (h.getD i 0 + v.getD i 0)) = (addW h v (i + 1)).map wD := by
  rw [← List.map_set]
  congr 1
  apply List.ext_getElem?
  intro k
  unfold addW
  rw [List.getElem?_set]
  by_cases hk : i = k
  · subst hk
    simp [hi]
  · rw [if_neg hk, List.getElem?_map, List.getElem?_map]
    by_cases h8 : k < 8
    · rw [List.getElem?_range h8]
      have : decide (k < i) = decide (k < i + 1) := by
        by_cases h1 : k < i
        · rw [decide_eq_true h1, decide_eq_true (show k < i + 1 by omega)]
        · rw [decide_eq_false h1, decide_eq_false (show ¬ k < i + 1 by omega)]
      simp [this]
    · rw [List.getElem?_eq_none (by simpa using h8)]; rfl

theorem addW_zero {h : List W32} (v : List W32) (hh : h.length = 8) : addW h v 0 = h := by
  obtain ⟨a, b, c, d, e, f, g, i, rfl⟩ := words8 hh
  rfl

theorem over8_eq {v : List W32} (h : v.length = 8) : overD (v.map wD) (List.take (7 - 0) (List.drop 0 (v.map wD))) 1 (min (List.take (7 - 0) (List.drop 0 (v.map wD))).length (8 - 1)) = over8 v := by
  obtain ⟨a, b, c, d, e, f, g, i, rfl⟩ := words8 h
  rfl

theorem n0 : Int.toNat 0 = 0 := rfl
theorem n1 : Int.toNat 1 = 1 := rfl
theorem n2 : Int.toNat 2 = 2 := rfl
theorem n3 : Int.toNat 3 = 3 := rfl
theorem n4 : Int.toNat 4 = 4 := rfl
theorem n5 : Int.toNat 5 = 5 := rfl
theorem n6 : Int.toNat 6 = 6 := rfl
theorem n7 : Int.toNat 7 = 7 := rfl
theorem n8 : (((8 : Nat) : Int)).toNat = 8 := rfl

theorem mix_ok (hs : List W32) (bl : List UInt8) (hv n : Nat) (hh : hs.length = 8) (hb : bl.length = 64) :
    LocalCall Try.prog 73 [.ptr 9 []] [(9, hsh hs bl hv n)] [] (one []) [(9, hsh (sblock hs bl) bl 0 n)] := by
  have hV : ∀ t, (srounds sK (sched bl 48) hs t).length = 8 := srounds_length _ _ hh
  have g : ∀ t k, k < 8 → ((srounds sK (sched bl 48) hs t).map wD).getD k .nilp = wD ((srounds sK (sched bl 48) hs t).getD k 0) := fun t k hk => w8_get k (by rw [hV]; exact hk)
  have g0 : ∀ t, (((srounds sK (sched bl 48) hs t).map wD).getD (Int.toNat 0) .nilp).toInt = wI ((srounds sK (sched bl 48) hs t).getD 0 0) := fun t => by rw [show Int.toNat 0 = 0 from rfl, g t 0 (by omega)]; rfl
  have g4 : ∀ t, (((srounds sK (sched bl 48) hs t).map wD).getD (Int.toNat 4) .nilp).toInt = wI ((srounds sK (sched bl 48) hs t).getD 4 0) := fun t => by rw [show Int.toNat 4 = 4 from rfl, g t 4 (by omega)]; rfl
  refine vc_fn mixed Try.func73 rfl rfl [] (vc_chk rfl) ?_
  repeat' (first
      | ((with_reducible refine vc_chk ?_); first | decide +kernel | rfl)
      | (with_reducible refine vc_side0 ?_; rfl)
      | (with_reducible first
           | refine vc_true ?_ | refine vc_true2 ?_ | refine vc_side ?_ ?_ | refine vc_triv | refine vc_later ?_ | refine vc_caseT ?_ | refine vc_caseF ?_ | refine vc_cons ?_ | refine vc_nil ?_ ?_ | refine vc_seq ?_
              | refine vc_region ?_ | refine vc_cond ?_ | refine vc_block ?_ | refine vc_retc ?_ | refine vc_exit ?_ | refine vc_skip ?_ | refine vc_scope ?_ | refine vc_label ?_ | refine vc_goto ?_ | refine vc_wkSl0
              | refine vc_wkHp0 | refine vc_eqAVs0 | refine vc_preG0 | refine vc_wkSl ?_ ?_ | refine vc_wkHp ?_ ?_ | refine vc_eqAVs ?_ ?_ | refine vc_preG ?_ ?_ | refine vc_side0 ?_
              | refine vc_call [] (spread_ok hs bl hv n hb) ?_ | refine vc_pure factors_ok ?_ ?_ ?_
              | refine vc_loopI (y := .seq (.region 2 _ _) _) 115 (fun (t : Nat) => [(0, .ptr 9 []), (2, .ptr 1036 []), (3, .ptr 1040 []), (4, .ptr 1044 []), (21, .d (.int .i64 (t : Int)))]) (fun t => [(9, hsh hs bl hv n), (1036, .var (.d (.arr 64 1 ((sched bl 48).map wD)))), (1040, .var (.d (.arr 64 1 (sK.map wD)))), (1044, .var (.d (.arr 8 1 ((srounds sK (sched bl 48) hs t).map wD))))]) (fun t => 64 - t) (fun t => t ≤ 64) 0 [] ?_ ?_ ?_ ?_ ?_ (fun t hI => ?_)
              | refine vc_loopI (y := .seq (.region 11 _ _) _) 115 (fun (t : Nat) => [(0, .ptr 9 []), (95, .d (.arr 8 1 ((srounds sK (sched bl 48) hs 64).map wD))), (96, .d (.int .i64 (t : Int)))]) (fun t => [(9, hsh (addW hs (srounds sK (sched bl 48) hs 64) t) bl hv n)]) (fun t => 8 - t) (fun t => t ≤ 8) 0 [] ?_ ?_ ?_ ?_ ?_ (fun t hM => ?_)
              | refine vc_nextI (t + 1) [] ?_ ?_ ?_ ?_ ?_ ?_ | refine vc_pure (rot_ok (g0 t) (-2) 2 (by decide) (by decide) (by decide)) ?_ ?_ ?_
              | refine vc_pure (rot_ok (g0 t) (-13) 13 (by decide) (by decide) (by decide)) ?_ ?_ ?_ | refine vc_pure (rot_ok (g0 t) (-22) 22 (by decide) (by decide) (by decide)) ?_ ?_ ?_
              | refine vc_pure (rot_ok (g4 t) (-6) 6 (by decide) (by decide) (by decide)) ?_ ?_ ?_ | refine vc_pure (rot_ok (g4 t) (-11) 11 (by decide) (by decide) (by decide)) ?_ ?_ ?_
              | refine vc_pure (rot_ok (g4 t) (-25) 25 (by decide) (by decide) (by decide)) ?_ ?_ ?_ | refine vc_weakf [] ?_ ?_ ?_ | refine vc_and ?_ ?_ | refine vc_ret [] [] ?_)
      | ((with_reducible first | refine vc_caseD (fun h => ?_) (fun h => ?_) | refine vc_caseN (fun h => ?_) (fun h => ?_)) <;> try (exfalso; omega))
      | ((with_reducible refine vc_case (fun h => ?_) (fun h => ?_)) <;> (try simp only [Bool.cond_true_left, Bool.cond_false_right, Bool.cond_true_right, Bool.cond_false_left, Bool.and_eq_true, Bool.or_eq_true, Bool.and_eq_false_iff, Bool.or_eq_false_iff, Bool.not_eq_true', Bool.not_eq_false', Bool.not_eq_true, Bool.not_eq_false, Bool.not_not, decide_eq_true_eq, decide_eq_false_iff_not, beq_iff_eq, beq_eq_false_iff_ne, bne_iff_ne, bne_eq_false_iff_eq, ne_eq, Classical.not_not, reduceCtorEq, false_or, or_false, true_and, and_true, Bool.false_eq_true, Bool.true_eq_false] at h) <;> try (exfalso; first | omega | (simp at h; done)))
      | (conv in Vc _ => arg 1; whnf
         first
          | (with_reducible refine vc_side0 ?_; rfl)
          | (with_reducible first
              | refine vc_true ?_ | refine vc_true2 ?_ | refine vc_side ?_ ?_ | refine vc_triv | refine vc_later ?_ | refine vc_caseT ?_ | refine vc_caseF ?_ | refine vc_cons ?_ | refine vc_nil ?_ ?_ | refine vc_seq ?_
                 | refine vc_region ?_ | refine vc_cond ?_ | refine vc_block ?_ | refine vc_retc ?_ | refine vc_exit ?_ | refine vc_skip ?_ | refine vc_scope ?_ | refine vc_label ?_ | refine vc_goto ?_ | refine vc_wkSl0
                 | refine vc_wkHp0 | refine vc_eqAVs0 | refine vc_preG0 | refine vc_wkSl ?_ ?_ | refine vc_wkHp ?_ ?_ | refine vc_eqAVs ?_ ?_ | refine vc_preG ?_ ?_ | refine vc_side0 ?_
                 | refine vc_call [] (spread_ok hs bl hv n hb) ?_ | refine vc_pure factors_ok ?_ ?_ ?_
                 | refine vc_loopI (y := .seq (.region 2 _ _) _) 115 (fun (t : Nat) => [(0, .ptr 9 []), (2, .ptr 1036 []), (3, .ptr 1040 []), (4, .ptr 1044 []), (21, .d (.int .i64 (t : Int)))]) (fun t => [(9, hsh hs bl hv n), (1036, .var (.d (.arr 64 1 ((sched bl 48).map wD)))), (1040, .var (.d (.arr 64 1 (sK.map wD)))), (1044, .var (.d (.arr 8 1 ((srounds sK (sched bl 48) hs t).map wD))))]) (fun t => 64 - t) (fun t => t ≤ 64) 0 [] ?_ ?_ ?_ ?_ ?_ (fun t hI => ?_)
                 | refine vc_loopI (y := .seq (.region 11 _ _) _) 115 (fun (t : Nat) => [(0, .ptr 9 []), (95, .d (.arr 8 1 ((srounds sK (sched bl 48) hs 64).map wD))), (96, .d (.int .i64 (t : Int)))]) (fun t => [(9, hsh (addW hs (srounds sK (sched bl 48) hs 64) t) bl hv n)]) (fun t => 8 - t) (fun t => t ≤ 8) 0 [] ?_ ?_ ?_ ?_ ?_ (fun t hM => ?_)
                 | refine vc_nextI (t + 1) [] ?_ ?_ ?_ ?_ ?_ ?_ | refine vc_pure (rot_ok (g0 t) (-2) 2 (by decide) (by decide) (by decide)) ?_ ?_ ?_
                 | refine vc_pure (rot_ok (g0 t) (-13) 13 (by decide) (by decide) (by decide)) ?_ ?_ ?_ | refine vc_pure (rot_ok (g0 t) (-22) 22 (by decide) (by decide) (by decide)) ?_ ?_ ?_
                 | refine vc_pure (rot_ok (g4 t) (-6) 6 (by decide) (by decide) (by decide)) ?_ ?_ ?_ | refine vc_pure (rot_ok (g4 t) (-11) 11 (by decide) (by decide) (by decide)) ?_ ?_ ?_
                 | refine vc_pure (rot_ok (g4 t) (-25) 25 (by decide) (by decide) (by decide)) ?_ ?_ ?_ | refine vc_weakf [] ?_ ?_ ?_ | refine vc_and ?_ ?_ | refine vc_ret [] [] ?_)
          | ((with_reducible first | refine vc_caseD (fun h => ?_) (fun h => ?_) | refine vc_caseN (fun h => ?_) (fun h => ?_)) <;> try (exfalso; omega))
          | ((with_reducible refine vc_case (fun h => ?_) (fun h => ?_)) <;> (try simp only [Bool.cond_true_left, Bool.cond_false_right, Bool.cond_true_right, Bool.cond_false_left, Bool.and_eq_true, Bool.or_eq_true, Bool.and_eq_false_iff, Bool.or_eq_false_iff, Bool.not_eq_true', Bool.not_eq_false', Bool.not_eq_true, Bool.not_eq_false, Bool.not_not, decide_eq_true_eq, decide_eq_false_iff_not, beq_iff_eq, beq_eq_false_iff_ne, bne_iff_ne, bne_eq_false_iff_eq, ne_eq, Classical.not_not, reduceCtorEq, false_or, or_false, true_and, and_true, Bool.false_eq_true, Bool.true_eq_false] at h) <;> try (exfalso; first | omega | (simp at h; done)))))
  all_goals (try dsimp only)
  all_goals first
    | with_reducible rfl
    | omega
    | exact ⟨by omega, by omega⟩
    | exact ⟨⟨by omega, by omega, by omega⟩, trivial⟩
    | (show D.int .i64 _ = D.int .i64 _; first | rfl | (congr 1; rw [wrap64_id (by omega) (by omega)]; omega))
    | skip
  all_goals first
    | (have hm := hM
       first
       | (have ht : t < 8 := by omega
          rw [Int.toNat_natCast, w8_get t (by rw [hV]; exact ht)]
          exact ⟨⟨by omega, by omega⟩, rfl⟩)
       | (have ht : t < 8 := by omega
          rw [Int.toNat_natCast, w8_get t (by rw [addW_length]; exact ht)]
          exact ⟨⟨by omega, trivial⟩, rfl⟩)
       | (have ht : t < 8 := by omega
          have a1 := w8_get (v := srounds sK (sched bl 48) hs 64) t (by rw [hV]; exact ht)
          have a2 := w8_get (v := addW hs (srounds sK (sched bl 48) hs 64) t) t (by rw [addW_length]; exact ht)
          rw [Int.toNat_natCast, a1, a2, addW_get _ _ ht]
          have e1 : (wD (hs.getD t 0)).toInt = wI (hs.getD t 0) := rfl
          have e2 : (wD ((srounds sK (sched bl 48) hs 64).getD t 0)).toInt = wI ((srounds sK (sched bl 48) hs 64).getD t 0) := rfl
          rw [e1, e2, w_add]
          have e3 := addW_set hs (srounds sK (sched bl 48) hs 64) ht
          have e4 : wD (hs.getD t 0 + (srounds sK (sched bl 48) hs 64).getD t 0) = D.int .u32 (wI (hs.getD t 0 + (srounds sK (sched bl 48) hs 64).getD t 0)) := rfl
          rw [← e4, e3]; done)
       | (have e : t = 8 := by omega
          subst e
          rfl)
       | skip)
    | (have ht := hI
       (try simp only [n0, n1, n2, n3, n4, n5, n6, n7, n8, over8_eq (hV t), Int.toNat_natCast])
       first
       | (rw [g t _ (by omega)]; exact ⟨⟨by omega, trivial⟩, rfl⟩)
       | (rw [w8_get t (by rw [sched_length]; omega)]; exact ⟨⟨by omega, trivial⟩, rfl⟩)
       | (rw [w8_get t (show t < sK.length from (by omega : t < 64))]; exact ⟨⟨by omega, trivial⟩, rfl⟩)
       | (rw [over8_four (hV t)]; exact ⟨⟨by omega, trivial⟩, rfl⟩)
       | (refine ⟨⟨⟨⟨trivial, ?_⟩, trivial, trivial⟩, ?_⟩, fun y hy => ?_⟩
          · rw [List.length_map, hV t]; omega
          · rw [List.length_map, hV t]; omega
          · obtain ⟨c, _, rfl⟩ := List.mem_map.1 (List.mem_of_mem_drop (List.mem_of_mem_take hy)); rfl)
       | (have gi : ∀ k, k < 8 → (((srounds sK (sched bl 48) hs t).map wD).getD k .nilp).toInt = wI ((srounds sK (sched bl 48) hs t).getD k 0) := fun k hk => by rw [g t k hk]; rfl
          have gk : ((sK.map wD).getD t .nilp).toInt = wI (sK.getD t 0) := by rw [w8_get t (show t < sK.length from (by omega : t < 64))]; rfl
          have gw : (((sched bl 48).map wD).getD t .nilp).toInt = wI ((sched bl 48).getD t 0) := by rw [w8_get t (by rw [sched_length]; omega)]; rfl
          have go : ((over8 (srounds sK (sched bl 48) hs t)).getD 4 .nilp).toInt = wI ((srounds sK (sched bl 48) hs t).getD 3 0) := by rw [over8_four (hV t)]; rfl
          simp only [gi 0 (by omega), gi 1 (by omega), gi 2 (by omega), gi 4 (by omega), gi 5 (by omega), gi 6 (by omega), gi 7 (by omega), gk, gw, go, w_not, w_xor, w_and, w_add]
          exact congrArg (D.arr 8 1) (over8_set (hV t) _ _))
       | (have e : t = 64 := by omega
          subst e
          first
          | with_reducible rfl
          | (rw [addW_zero _ hh]; done))
       | skip)
    | with_reducible rfl
    | exact congrArg (D.arr 8 1) rfl
    | skip

end Go.Proofs.Ytdceegllpcepnaa

/-
Bytes taken in.
-/
set_option linter.unusedSimpArgs false
set_option linter.unusedVariables false
namespace Go.Proofs.Ytdceegllpcepnaa
open Go.Sym
set_option maxRecDepth 10000
set_option maxHeartbeats 8000000

/-- A block written over. -/
def blk (bl b : List UInt8) (hv n : Nat) : List UInt8 := bl.take hv ++ b.take n ++ bl.drop (hv + n)

theorem blk_length {bl b : List UInt8} {hv n : Nat} (hb : bl.length = 64) (hn : n ≤ b.length) (h : hv + n ≤ 64) : (blk bl b hv n).length = 64 := by
  unfold blk; simp; omega

theorem blk_over (bl b : List UInt8) (hv n : Nat) : overD (bl.map byteD) (b.map byteD) hv n = (blk bl b hv n).map byteD := by
  unfold overD blk
  simp only [List.map_append, List.map_take, List.map_drop]

theorem sstate_more {m c : List UInt8} (h : m.length % 64 + c.length < 64) : sstate (m ++ c) = sstate m := by
  unfold sstate
  have e : m ++ c = m.take (m.length / 64 * 64) ++ (srest m ++ c) := by
    rw [← List.append_assoc]; congr 1
    exact (List.take_append_drop _ _).symm
  have hl : (m.take (m.length / 64 * 64)).length = m.length / 64 * 64 := by rw [List.length_take]; omega
  rw [e, sblocks_append _ _ _ (by rw [hl]; omega), sblocks_small (m := srest m ++ c) (by rw [List.length_append, srest_length]; omega), sblocks_rest _ m]

theorem sstate_block {m c : List UInt8} (h : m.length % 64 + c.length = 64) : sstate (m ++ c) = sblock (sstate m) (srest m ++ c) := by
  have hr : (srest m ++ c).length = 64 := by rw [List.length_append, srest_length]; exact h
  unfold sstate
  have e : m ++ c = m.take (m.length / 64 * 64) ++ (srest m ++ c) := by
    rw [← List.append_assoc]; congr 1
    exact (List.take_append_drop _ _).symm
  have hl : (m.take (m.length / 64 * 64)).length = m.length / 64 * 64 := by rw [List.length_take]; omega
  have t : (srest m ++ c).take 64 = srest m ++ c := List.take_of_length_le (by omega)
  have d : (srest m ++ c).drop 64 = [] := List.drop_of_length_le (by omega)
  rw [e, sblocks_append _ _ _ (by rw [hl]; omega), sblocks_big (m := srest m ++ c) (by omega), t, d, sblocks_small (m := []) (by simp), ← sblocks_rest]

theorem srest_more {m c : List UInt8} (h : m.length % 64 + c.length < 64) : srest (m ++ c) = srest m ++ c := by
  unfold srest
  have e : (m ++ c).length / 64 * 64 = m.length / 64 * 64 := by rw [List.length_append]; omega
  rw [e, List.drop_append_of_le_length (by omega)]

theorem srest_block {m c : List UInt8} (h : m.length % 64 + c.length = 64) : srest (m ++ c) = [] := by
  apply List.eq_nil_of_length_eq_zero
  rw [srest_length, List.length_append]; omega

/-- The block behind all bytes. -/
def wrB (bl : List UInt8) (hv : Nat) (b : List UInt8) : List UInt8 :=
  if _h : b = [] ∨ 64 ≤ hv then bl else wrB (blk bl b hv (min b.length (64 - hv))) ((hv + min b.length (64 - hv)) % 64) (b.drop (min b.length (64 - hv)))
termination_by b.length
decreasing_by
  rw [List.length_drop]
  have h1 : 0 < b.length := List.length_pos_iff.2 (fun e => _h (.inl e))
  omega

theorem wrB_nil (bl : List UInt8) (hv : Nat) : wrB bl hv [] = bl := by rw [wrB, dif_pos (.inl rfl)]
theorem wrB_step {bl : List UInt8} {hv : Nat} {b : List UInt8} (h : 0 < b.length) (hh : hv < 64) : wrB bl hv b = wrB (blk bl b hv (min b.length (64 - hv))) ((hv + min b.length (64 - hv)) % 64) (b.drop (min b.length (64 - hv))) := by
  rw [wrB, dif_neg]
  rintro (rfl | h2)
  · simp at h
  · omega

structure WrI (M BL : List UInt8) (x : List UInt8 × List UInt8 × List UInt8) : Prop where
  e : wrB x.2.1 (x.1.length % 64) x.2.2 = BL
  m : x.1 ++ x.2.2 = M
  l : x.2.1.length = 64
  r : x.2.1.take (x.1.length % 64) = srest x.1

def wrN (x : List UInt8 × List UInt8 × List UInt8) : Nat := min x.2.2.length (64 - x.1.length % 64)
def wrX (x : List UInt8 × List UInt8 × List UInt8) : List UInt8 × List UInt8 × List UInt8 := (x.1 ++ x.2.2.take (wrN x), blk x.2.1 x.2.2 (x.1.length % 64) (wrN x), x.2.2.drop (wrN x))

theorem WrI.next {M BL : List UInt8} {x : List UInt8 × List UInt8 × List UInt8} (hI : WrI M BL x) (hb : 0 < x.2.2.length) : WrI M BL (wrX x) := by
  obtain ⟨m, bl, b⟩ := x
  obtain ⟨e, hm, l, r⟩ := hI
  simp only at e hm l r hb
  have hlt : m.length % 64 < 64 := Nat.mod_lt _ (by omega)
  have hn1 : min b.length (64 - m.length % 64) ≤ b.length := Nat.min_le_left _ _
  have hn2 : min b.length (64 - m.length % 64) ≤ 64 - m.length % 64 := Nat.min_le_right _ _
  have hl : (m ++ b.take (min b.length (64 - m.length % 64))).length % 64 = (m.length % 64 + min b.length (64 - m.length % 64)) % 64 := by
    rw [List.length_append, List.length_take]; omega
  refine ⟨?_, ?_, ?_, ?_⟩ <;> simp only [wrX, wrN]
  · rw [hl, ← wrB_step hb hlt]; exact e
  · rw [List.append_assoc, List.take_append_drop]; exact hm
  · exact blk_length l hn1 (by omega)
  · rw [hl]
    have hc : (b.take (min b.length (64 - m.length % 64))).length = min b.length (64 - m.length % 64) := by rw [List.length_take]; omega
    rcases Nat.lt_or_ge (m.length % 64 + min b.length (64 - m.length % 64)) 64 with h64 | h64
    · rw [Nat.mod_eq_of_lt h64, srest_more (by rw [hc]; exact h64), ← r]
      unfold blk
      rw [List.take_append_of_le_length (by rw [List.length_append, List.length_take, hc]; omega), List.take_of_length_le (by rw [List.length_append, List.length_take, hc]; omega)]
    · have h64 : m.length % 64 + min b.length (64 - m.length % 64) = 64 := by omega
      rw [h64, srest_block (by rw [hc]; exact h64)]; rfl

theorem WrI.mixes {M BL : List UInt8} {x : List UInt8 × List UInt8 × List UInt8} (hI : WrI M BL x) (h : x.1.length % 64 + wrN x = 64) : sblock (sstate x.1) (wrX x).2.1 = sstate (wrX x).1 ∧ (wrX x).1.length % 64 = 0 := by
  obtain ⟨m, bl, b⟩ := x
  obtain ⟨e, hm, l, r⟩ := hI
  simp only [wrN] at e hm l r h
  have hc : (b.take (min b.length (64 - m.length % 64))).length = min b.length (64 - m.length % 64) := by rw [List.length_take]; omega
  simp only [wrX, wrN]
  refine ⟨?_, by rw [List.length_append, hc]; omega⟩
  rw [sstate_block (by rw [hc]; exact h), ← r]
  unfold blk
  rw [h, List.drop_of_length_le (by omega), List.append_nil]

theorem WrI.stays {M BL : List UInt8} {x : List UInt8 × List UInt8 × List UInt8} (hI : WrI M BL x) (h : x.1.length % 64 + wrN x < 64) : sstate (wrX x).1 = sstate x.1 ∧ (wrX x).1.length % 64 = x.1.length % 64 + wrN x := by
  obtain ⟨m, bl, b⟩ := x
  simp only [wrN] at h
  have hc : (b.take (min b.length (64 - m.length % 64))).length = min b.length (64 - m.length % 64) := by rw [List.length_take]; omega
  simp only [wrX, wrN]
  exact ⟨sstate_more (by rw [hc]; exact h), by rw [List.length_append, hc]; omega⟩

/-- What is known of the block behind all bytes. -/
theorem wrB_ok : ∀ (k : Nat) (m bl b : List UInt8), b.length ≤ k → bl.length = 64 → bl.take (m.length % 64) = srest m → (wrB bl (m.length % 64) b).length = 64 ∧ (wrB bl (m.length % 64) b).take ((m ++ b).length % 64) = srest (m ++ b)
  | k, m, bl, [], _, l, r => by rw [wrB_nil, List.append_nil]; exact ⟨l, r⟩
  | 0, m, bl, c :: b, hk, _, _ => by simp at hk
  | k + 1, m, bl, c :: b, hk, l, r => by
    have hI : WrI (m ++ (c :: b)) (wrB bl (m.length % 64) (c :: b)) (m, bl, c :: b) := ⟨rfl, rfl, l, r⟩
    have hI2 := hI.next (by simp)
    have hlt : m.length % 64 < 64 := Nat.mod_lt _ (by omega)
    have hlen : ((c :: b).drop (wrN (m, bl, c :: b))).length ≤ k := by
      rw [List.length_drop]
      simp only [wrN, List.length_cons] at hk ⊢
      omega
    have := wrB_ok k (wrX (m, bl, c :: b)).1 (wrX (m, bl, c :: b)).2.1 (wrX (m, bl, c :: b)).2.2 hlen hI2.l hI2.r
    rw [hI2.e, hI2.m] at this
    exact this

/-- A hash to which a text was written. -/
def hst (m bl : List UInt8) : AObj := hsh (sstate m) bl (m.length % 64) m.length

theorem pos_map {l : List UInt8} (h : ((l.map byteD).length : Int) > 0) : 0 < l.length := by rw [List.length_map] at h; omega

theorem write_ok (m bl b : List UInt8) (l : bl.length = 64) (r : bl.take (m.length % 64) = srest m) (hl : m.length + b.length < 2 ^ 60) :
    LocalCall Try.prog 64 [.ptr 9 [], .d (.sl (b.map byteD))] [(9, hst m bl)] [] (one []) [(9, hst (m ++ b) (wrB bl (m.length % 64) b))] := by
  have w0 : IntKind.u64.wrap ((m.length : Int) + IntKind.u64.wrap ((b.map byteD).length : Int)) = (((m ++ b).length : Nat) : Int) := by
    rw [List.length_map, List.length_append, u64_wrap, u64_wrap]; omega
  refine vc_fn mixed Try.func64 rfl rfl [] (vc_chk rfl) ?_
  repeat' (first
      | ((with_reducible refine vc_chk ?_); first | decide +kernel | rfl)
      | (with_reducible refine vc_side0 ?_; rfl)
      | (with_reducible first
           | refine vc_true ?_ | refine vc_true2 ?_ | refine vc_side ?_ ?_ | refine vc_triv | refine vc_later ?_ | refine vc_caseT ?_ | refine vc_caseF ?_ | refine vc_cons ?_ | refine vc_nil ?_ ?_ | refine vc_seq ?_
              | refine vc_region ?_ | refine vc_cond ?_ | refine vc_block ?_ | refine vc_retc ?_ | refine vc_exit ?_ | refine vc_skip ?_ | refine vc_scope ?_ | refine vc_label ?_ | refine vc_goto ?_ | refine vc_wkSl0
              | refine vc_wkHp0 | refine vc_eqAVs0 | refine vc_preG0 | refine vc_wkSl ?_ ?_ | refine vc_wkHp ?_ ?_ | refine vc_eqAVs ?_ ?_ | refine vc_preG ?_ ?_ | refine vc_side0 ?_
              | refine vc_loopI 47 (fun (x : List UInt8 × List UInt8 × List UInt8) => [(0, .ptr 9 []), (1, .d (.sl (x.2.2.map byteD)))]) (fun x => [(9, hsh (sstate x.1) x.2.1 (x.1.length % 64) (m ++ b).length)]) (fun x => x.2.2.length) (WrI (m ++ b) (wrB bl (m.length % 64) b)) (m, bl, b) [] ?_ ?_ ?_ ?_ ?_ (fun x hI => ?_)
              | refine vc_call [] (mix_ok (sstate x.1) (wrX x).2.1 64 (m ++ b).length (sstate_length _) (hI.next (pos_map (by assumption))).l) ?_ | refine vc_nextI (wrX x) [] ?_ ?_ ?_ ?_ ?_ ?_ | refine vc_weakf [] ?_ ?_ ?_
              | refine vc_and ?_ ?_ | refine vc_ret [] [] ?_)
      | ((with_reducible first | refine vc_caseD (fun h => ?_) (fun h => ?_) | refine vc_caseN (fun h => ?_) (fun h => ?_)) <;> try (exfalso; omega))
      | ((with_reducible refine vc_case (fun h => ?_) (fun h => ?_)) <;> (try simp only [Bool.cond_true_left, Bool.cond_false_right, Bool.cond_true_right, Bool.cond_false_left, Bool.and_eq_true, Bool.or_eq_true, Bool.and_eq_false_iff, Bool.or_eq_false_iff, Bool.not_eq_true', Bool.not_eq_false', Bool.not_eq_true, Bool.not_eq_false, Bool.not_not, decide_eq_true_eq, decide_eq_false_iff_not, beq_iff_eq, beq_eq_false_iff_ne, bne_iff_ne, bne_eq_false_iff_eq, ne_eq, Classical.not_not, reduceCtorEq, false_or, or_false, true_and, and_true, Bool.false_eq_true, Bool.true_eq_false] at h) <;> try (exfalso; first | omega | (simp at h; done)))
      | (conv in Vc _ => arg 1; whnf
         first
          | (with_reducible refine vc_side0 ?_; rfl)
          | (with_reducible first
              | refine vc_true ?_ | refine vc_true2 ?_ | refine vc_side ?_ ?_ | refine vc_triv | refine vc_later ?_ | refine vc_caseT ?_ | refine vc_caseF ?_ | refine vc_cons ?_ | refine vc_nil ?_ ?_ | refine vc_seq ?_
                 | refine vc_region ?_ | refine vc_cond ?_ | refine vc_block ?_ | refine vc_retc ?_ | refine vc_exit ?_ | refine vc_skip ?_ | refine vc_scope ?_ | refine vc_label ?_ | refine vc_goto ?_ | refine vc_wkSl0
                 | refine vc_wkHp0 | refine vc_eqAVs0 | refine vc_preG0 | refine vc_wkSl ?_ ?_ | refine vc_wkHp ?_ ?_ | refine vc_eqAVs ?_ ?_ | refine vc_preG ?_ ?_ | refine vc_side0 ?_
                 | refine vc_loopI 47 (fun (x : List UInt8 × List UInt8 × List UInt8) => [(0, .ptr 9 []), (1, .d (.sl (x.2.2.map byteD)))]) (fun x => [(9, hsh (sstate x.1) x.2.1 (x.1.length % 64) (m ++ b).length)]) (fun x => x.2.2.length) (WrI (m ++ b) (wrB bl (m.length % 64) b)) (m, bl, b) [] ?_ ?_ ?_ ?_ ?_ (fun x hI => ?_)
                 | refine vc_call [] (mix_ok (sstate x.1) (wrX x).2.1 64 (m ++ b).length (sstate_length _) (hI.next (pos_map (by assumption))).l) ?_ | refine vc_nextI (wrX x) [] ?_ ?_ ?_ ?_ ?_ ?_ | refine vc_weakf [] ?_ ?_ ?_
                 | refine vc_and ?_ ?_ | refine vc_ret [] [] ?_)
          | ((with_reducible first | refine vc_caseD (fun h => ?_) (fun h => ?_) | refine vc_caseN (fun h => ?_) (fun h => ?_)) <;> try (exfalso; omega))
          | ((with_reducible refine vc_case (fun h => ?_) (fun h => ?_)) <;> (try simp only [Bool.cond_true_left, Bool.cond_false_right, Bool.cond_true_right, Bool.cond_false_left, Bool.and_eq_true, Bool.or_eq_true, Bool.and_eq_false_iff, Bool.or_eq_false_iff, Bool.not_eq_true', Bool.not_eq_false', Bool.not_eq_true, Bool.not_eq_false, Bool.not_not, decide_eq_true_eq, decide_eq_false_iff_not, beq_iff_eq, beq_eq_false_iff_ne, bne_iff_ne, bne_eq_false_iff_eq, ne_eq, Classical.not_not, reduceCtorEq, false_or, or_false, true_and, and_true, Bool.false_eq_true, Bool.true_eq_false] at h) <;> try (exfalso; first | omega | (simp at h; done)))))
  all_goals (try dsimp only)
  all_goals first
    | with_reducible rfl
    | exact ⟨rfl, rfl, l, r⟩
    | (rw [w0]; done)
    | skip
  all_goals (try simp only [Int.toNat_natCast, List.length_map, n8] at *)
  all_goals
    have hlt : x.1.length % 64 < 64 := Nat.mod_lt _ (by omega)
    have hnm : min x.2.2.length (64 - x.1.length % 64) = wrN x := rfl
    have hw : IntKind.i64.wrap (((x.1.length % 64 : Nat) : Int) + ((wrN x : Nat) : Int)) = ((x.1.length % 64 + wrN x : Nat) : Int) := by
      rw [wrap64_id (by omega) (by omega)]; rfl
    have hxl := hI.l
    have hn3 : wrN x ≤ x.2.2.length ∧ wrN x ≤ 64 - x.1.length % 64 ∧ (x.2.2.length ≤ wrN x ∨ 64 - x.1.length % 64 ≤ wrN x) := by
      unfold wrN; omega
    try simp only [hnm, hw] at h ⊢
  all_goals first
    | exact ⟨⟨by omega, by omega, by omega⟩, trivial⟩
    | (refine ⟨⟨⟨trivial, trivial, trivial⟩, by omega⟩, fun y hy => ?_⟩
       obtain ⟨c, _, rfl⟩ := List.mem_map.1 hy; rfl)
    | (refine ⟨⟨by omega, by omega, by omega⟩, fun y hy => ?_⟩
       obtain ⟨c, _, rfl⟩ := List.mem_map.1 hy; rfl)
    | exact hI.next (by omega)
    | (show (x.2.2.drop (wrN x)).length < _
       rw [List.length_drop]; omega)
    | (show D.sl _ = D.sl ((x.2.2.drop (wrN x)).map byteD)
       unfold cutD
       rw [Int.toNat_natCast, Int.toNat_natCast, List.take_of_length_le (by rw [List.length_map]; omega), List.map_drop]; done)
    | (obtain ⟨e1, e2⟩ := hI.mixes (by omega)
       rw [e1, e2]; done)
    | (obtain ⟨e1, e2⟩ := hI.stays (by omega)
       rw [e1, e2, blk_over]; rfl)
    | (rw [blk_over, h]; rfl)
    | (have hb : x.2.2 = [] := List.eq_nil_of_length_eq_zero (by omega)
       have e1 := hI.e
       have e2 := hI.m
       rw [hb, wrB_nil] at e1
       rw [hb, List.append_nil] at e2
       rw [← e1, ← e2])

end Go.Proofs.Ytdceegllpcepnaa

/-
Clones, and what stands behind a text.
-/
set_option linter.unusedSimpArgs false
set_option linter.unusedVariables false
namespace Go.Proofs.Ytdceegllpcepnaa
open Go.Sym
set_option maxRecDepth 10000
set_option maxHeartbeats 8000000

theorem clone_ok (h : List W32) (bl : List UInt8) (hv n : Nat) : LocalCall Try.prog 74 [.ptr 9 []] [(9, hsh h bl hv n)] [8] (one [.ptr 8 []]) [(8, hsh h bl hv n)] := by
  refine vc_fn mixed Try.func74 rfl rfl [] (vc_chk rfl) ?_
  repeat' (first
      | ((with_reducible refine vc_chk ?_); first | decide +kernel | rfl)
      | (with_reducible refine vc_side0 ?_; rfl)
      | (with_reducible first
           | refine vc_true ?_ | refine vc_true2 ?_ | refine vc_side ?_ ?_ | refine vc_triv | refine vc_later ?_ | refine vc_caseT ?_ | refine vc_caseF ?_ | refine vc_cons ?_ | refine vc_nil ?_ ?_ | refine vc_seq ?_
              | refine vc_region ?_ | refine vc_cond ?_ | refine vc_block ?_ | refine vc_retc ?_ | refine vc_exit ?_ | refine vc_skip ?_ | refine vc_scope ?_ | refine vc_label ?_ | refine vc_goto ?_ | refine vc_wkSl0
              | refine vc_wkHp0 | refine vc_eqAVs0 | refine vc_preG0 | refine vc_wkSl ?_ ?_ | refine vc_wkHp ?_ ?_ | refine vc_eqAVs ?_ ?_ | refine vc_preG ?_ ?_ | refine vc_side0 ?_ | refine vc_ret [] [(8, 2012)] ?_
              | refine vc_weakf [] ?_ ?_ ?_ | refine vc_and ?_ ?_ | refine vc_ret [] [] ?_)
      | ((with_reducible first | refine vc_caseD (fun h => ?_) (fun h => ?_) | refine vc_caseN (fun h => ?_) (fun h => ?_)) <;> try (exfalso; omega))
      | ((with_reducible refine vc_case (fun h => ?_) (fun h => ?_)) <;> (try simp only [Bool.cond_true_left, Bool.cond_false_right, Bool.cond_true_right, Bool.cond_false_left, Bool.and_eq_true, Bool.or_eq_true, Bool.and_eq_false_iff, Bool.or_eq_false_iff, Bool.not_eq_true', Bool.not_eq_false', Bool.not_eq_true, Bool.not_eq_false, Bool.not_not, decide_eq_true_eq, decide_eq_false_iff_not, beq_iff_eq, beq_eq_false_iff_ne, bne_iff_ne, bne_eq_false_iff_eq, ne_eq, Classical.not_not, reduceCtorEq, false_or, or_false, true_and, and_true, Bool.false_eq_true, Bool.true_eq_false] at h) <;> try (exfalso; first | omega | (simp at h; done)))
      | (conv in Vc _ => arg 1; whnf
         first
          | (with_reducible refine vc_side0 ?_; rfl)
          | (with_reducible first
              | refine vc_true ?_ | refine vc_true2 ?_ | refine vc_side ?_ ?_ | refine vc_triv | refine vc_later ?_ | refine vc_caseT ?_ | refine vc_caseF ?_ | refine vc_cons ?_ | refine vc_nil ?_ ?_ | refine vc_seq ?_
                 | refine vc_region ?_ | refine vc_cond ?_ | refine vc_block ?_ | refine vc_retc ?_ | refine vc_exit ?_ | refine vc_skip ?_ | refine vc_scope ?_ | refine vc_label ?_ | refine vc_goto ?_ | refine vc_wkSl0
                 | refine vc_wkHp0 | refine vc_eqAVs0 | refine vc_preG0 | refine vc_wkSl ?_ ?_ | refine vc_wkHp ?_ ?_ | refine vc_eqAVs ?_ ?_ | refine vc_preG ?_ ?_ | refine vc_side0 ?_ | refine vc_ret [] [(8, 2012)] ?_
                 | refine vc_weakf [] ?_ ?_ ?_ | refine vc_and ?_ ?_ | refine vc_ret [] [] ?_)
          | ((with_reducible first | refine vc_caseD (fun h => ?_) (fun h => ?_) | refine vc_caseN (fun h => ?_) (fun h => ?_)) <;> try (exfalso; omega))
          | ((with_reducible refine vc_case (fun h => ?_) (fun h => ?_)) <;> (try simp only [Bool.cond_true_left, Bool.cond_false_right, Bool.cond_true_right, Bool.cond_false_left, Bool.and_eq_true, Bool.or_eq_true, Bool.and_eq_false_iff, Bool.or_eq_false_iff, Bool.not_eq_true', Bool.not_eq_false', Bool.not_eq_true, Bool.not_eq_false, Bool.not_not, decide_eq_true_eq, decide_eq_false_iff_not, beq_iff_eq, beq_eq_false_iff_ne, bne_iff_ne, bne_eq_false_iff_eq, ne_eq, Classical.not_not, reduceCtorEq, false_or, or_false, true_and, and_true, Bool.false_eq_true, Bool.true_eq_false] at h) <;> try (exfalso; first | omega | (simp at h; done)))))
  all_goals rfl

theorem shl3 (n : Nat) : shlI .u64 (n : Int) 3 = ((n * 8 % 18446744073709551616 : Nat) : Int) := by
  have hm : min (3 : Int).toNat IntKind.u64.bits = 3 := by decide
  unfold shlI
  rw [hm, u64_wrap]
  omega

theorem mul8 (n : Nat) : IntKind.u64.wrap ((n : Int) * 8) = ((n * 8 % 18446744073709551616 : Nat) : Int) := by
  rw [u64_wrap]; omega

theorem shr_u64 (a k : Nat) (h : k ≤ 64) : shrI .u64 (a : Int) (k : Int) = ((a / 2 ^ k : Nat) : Int) := by
  have hm : min ((k : Nat) : Int).toNat IntKind.u64.bits = k := by
    show min k 64 = _
    omega
  unfold shrI
  rw [hm]
  have : (2 : Int) ^ k = ((2 ^ k : Nat) : Int) := by simp
  rw [this, Int.fdiv_eq_ediv_of_nonneg _ (Int.natCast_nonneg _)]; simp

theorem pad_byte (n i : Nat) (hi : i < 8) : IntKind.u8.wrap (shrI .u64 ((n * 8 % 18446744073709551616 : Nat) : Int) ((56 - 8 * i : Nat) : Int)) = ((n * 8 / 2 ^ (56 - 8 * i) % 256 : Nat) : Int) := by
  rw [shr_u64 _ _ (by omega), u8_wrap]
  have key : n * 8 % 18446744073709551616 / 2 ^ (56 - 8 * i) % 256 = n * 8 / 2 ^ (56 - 8 * i) % 256 := by
    match i, hi with
    | 0, _ => show n * 8 % 18446744073709551616 / 72057594037927936 % 256 = n * 8 / 72057594037927936 % 256; omega
    | 1, _ => show n * 8 % 18446744073709551616 / 281474976710656 % 256 = n * 8 / 281474976710656 % 256; omega
    | 2, _ => show n * 8 % 18446744073709551616 / 1099511627776 % 256 = n * 8 / 1099511627776 % 256; omega
    | 3, _ => show n * 8 % 18446744073709551616 / 4294967296 % 256 = n * 8 / 4294967296 % 256; omega
    | 4, _ => show n * 8 % 18446744073709551616 / 16777216 % 256 = n * 8 / 16777216 % 256; omega
    | 5, _ => show n * 8 % 18446744073709551616 / 65536 % 256 = n * 8 / 65536 % 256; omega
    | 6, _ => show n * 8 % 18446744073709551616 / 256 % 256 = n * 8 / 256 % 256; omega
    | 7, _ => show n * 8 % 18446744073709551616 / 1 % 256 = n * 8 / 1 % 256; omega
  rw [← key]; omega

/-- So many noughts, so many bytes of the length. -/
def padZ (i : Nat) : List UInt8 := 128 :: List.replicate i 0
def padL (n j : Nat) : List UInt8 := padZ ((119 - n % 64) % 64) ++ (List.range j).map fun i => UInt8.ofNat (n * 8 / 2 ^ (56 - 8 * i) % 256)

theorem padZ_app (i : Nat) : (padZ i).map byteD ++ [D.int .u8 0] = (padZ (i + 1)).map byteD := by
  have : [D.int .u8 0] = [(0 : UInt8)].map byteD := rfl
  rw [this, ← List.map_append]
  unfold padZ
  rw [List.cons_append, ← List.replicate_succ']

theorem padL_app (n j : Nat) : (padL n j).map byteD ++ [D.int .u8 ((n * 8 / 2 ^ (56 - 8 * j) % 256 : Nat) : Int)] = (padL n (j + 1)).map byteD := by
  have e : D.int .u8 ((n * 8 / 2 ^ (56 - 8 * j) % 256 : Nat) : Int) = byteD (UInt8.ofNat (n * 8 / 2 ^ (56 - 8 * j) % 256)) := by
    unfold byteD
    rw [UInt8.toNat_ofNat_of_lt' (show _ < 256 from Nat.mod_lt _ (by omega))]
  rw [e]
  unfold padL
  rw [List.range_succ]
  simp only [List.map_append, List.append_assoc, List.map_cons, List.map_nil]

theorem padZ_length (i : Nat) : (padZ i).length = i + 1 := by simp [padZ]
theorem padL_length (n j : Nat) : (padL n j).length = (119 - n % 64) % 64 + 1 + j := by simp [padL, padZ_length]

theorem padL_all (n : Nat) : padL n 8 = spad n := rfl

theorem room_small {k j : Nat} (hj : j = 1) (h : k ≤ 2 ^ 30) : Room k j := by subst hj; unfold Room; omega

theorem pad_cond (n i : Nat) (hn : n < 18446744073709551616) (hi : i ≤ 63) : (IntKind.u64.wrap ((n : Int) + IntKind.u64.wrap (((padZ i).map byteD).length : Int))).tmod 64 = (((n + i + 1) % 64 : Nat) : Int) := by
  rw [List.length_map, padZ_length, u64_wrap, u64_wrap, Int.tmod_eq_emod_of_nonneg (by omega)]
  omega

theorem w56 (j : Nat) (h : j < 8) : IntKind.i64.wrap (56 - IntKind.i64.wrap (8 * (j : Int))) = ((56 - 8 * j : Nat) : Int) := by
  rw [wrap64_id (n := 8 * (j : Int)) (by omega) (by omega), wrap64_id (by omega) (by omega)]; omega

theorem w56u (j : Nat) (h : j < 8) : IntKind.u64.wrap (IntKind.i64.wrap (56 - IntKind.i64.wrap (8 * (j : Int)))) = ((56 - 8 * j : Nat) : Int) := by
  rw [w56 j h, u64_wrap]; omega

theorem wrapU64n (n : Int) : 0 ≤ IntKind.u64.wrap n := by rw [u64_wrap]; omega

theorem pad_ok (n : Nat) (hn : n < 18446744073709551616) : LocalCall Try.prog 75 [.d (.int .u64 (n : Int))] [] [] (one [.d (.sl ((spad n).map byteD))]) [] := by
  refine vc_fn mixed Try.func75 rfl rfl [] (vc_chk rfl) ?_
  repeat' (first
      | ((with_reducible refine vc_chk ?_); first | decide +kernel | rfl)
      | (with_reducible refine vc_side0 ?_; rfl)
      | (with_reducible first
           | refine vc_true ?_ | refine vc_true2 ?_ | refine vc_side ?_ ?_ | refine vc_triv | refine vc_later ?_ | refine vc_caseT ?_ | refine vc_caseF ?_ | refine vc_cons ?_ | refine vc_nil ?_ ?_ | refine vc_seq ?_
              | refine vc_region ?_ | refine vc_cond ?_ | refine vc_block ?_ | refine vc_retc ?_ | refine vc_exit ?_ | refine vc_skip ?_ | refine vc_scope ?_ | refine vc_label ?_ | refine vc_goto ?_ | refine vc_wkSl0
              | refine vc_wkHp0 | refine vc_eqAVs0 | refine vc_preG0 | refine vc_wkSl ?_ ?_ | refine vc_wkHp ?_ ?_ | refine vc_eqAVs ?_ ?_ | refine vc_preG ?_ ?_ | refine vc_side0 ?_
              | refine vc_loopI (y := .seq (.seq (.region 2 _ _) _) _) 31 (fun (i : Nat) => [(0, .d (.int .u64 (n : Int))), (3, .sl 7 [] 1 0 ((padZ i).map byteD).length)]) (fun i => [(7, .row 1 ((padZ i).map byteD))]) (fun i => 64 - i) (fun i => i ≤ (119 - n % 64) % 64) 0 [(7, 2000)] ?_ ?_ ?_ ?_ ?_ (fun i hI => ?_)
              | refine vc_nextI (i + 1 : Nat) [(7, 4008)] ?_ ?_ ?_ ?_ ?_ ?_
              | refine vc_loopI (y := .seq (.region 5 _ _) _) 31 (fun (x : Nat × Unit) => [(0, .d (.int .u64 (n : Int))), (3, .sl 7 [] 1 0 ((padL n x.1).map byteD).length), (16, .d (.int .i64 (x.1 : Int)))]) (fun x => [(7, .row 1 ((padL n x.1).map byteD))]) (fun x => 8 - x.1) (fun x => x.1 ≤ 8) (0, ()) [] ?_ ?_ ?_ ?_ ?_ (fun x hM => ?_)
              | refine vc_nextI (x.1 + 1, ()) [(7, 8036)] ?_ ?_ ?_ ?_ ?_ ?_ | refine vc_ret [true] [] ?_ | refine vc_weakf [] ?_ ?_ ?_ | refine vc_and ?_ ?_ | refine vc_ret [] [] ?_)
      | ((with_reducible first | refine vc_caseD (fun h => ?_) (fun h => ?_) | refine vc_caseN (fun h => ?_) (fun h => ?_)) <;> try (exfalso; omega))
      | ((with_reducible refine vc_case (fun h => ?_) (fun h => ?_)) <;> (try simp only [Bool.cond_true_left, Bool.cond_false_right, Bool.cond_true_right, Bool.cond_false_left, Bool.and_eq_true, Bool.or_eq_true, Bool.and_eq_false_iff, Bool.or_eq_false_iff, Bool.not_eq_true', Bool.not_eq_false', Bool.not_eq_true, Bool.not_eq_false, Bool.not_not, decide_eq_true_eq, decide_eq_false_iff_not, beq_iff_eq, beq_eq_false_iff_ne, bne_iff_ne, bne_eq_false_iff_eq, ne_eq, Classical.not_not, reduceCtorEq, false_or, or_false, true_and, and_true, Bool.false_eq_true, Bool.true_eq_false] at h) <;> try (exfalso; first | omega | (simp at h; done)))
      | (conv in Vc _ => arg 1; whnf
         first
          | (with_reducible refine vc_side0 ?_; rfl)
          | (with_reducible first
              | refine vc_true ?_ | refine vc_true2 ?_ | refine vc_side ?_ ?_ | refine vc_triv | refine vc_later ?_ | refine vc_caseT ?_ | refine vc_caseF ?_ | refine vc_cons ?_ | refine vc_nil ?_ ?_ | refine vc_seq ?_
                 | refine vc_region ?_ | refine vc_cond ?_ | refine vc_block ?_ | refine vc_retc ?_ | refine vc_exit ?_ | refine vc_skip ?_ | refine vc_scope ?_ | refine vc_label ?_ | refine vc_goto ?_ | refine vc_wkSl0
                 | refine vc_wkHp0 | refine vc_eqAVs0 | refine vc_preG0 | refine vc_wkSl ?_ ?_ | refine vc_wkHp ?_ ?_ | refine vc_eqAVs ?_ ?_ | refine vc_preG ?_ ?_ | refine vc_side0 ?_
                 | refine vc_loopI (y := .seq (.seq (.region 2 _ _) _) _) 31 (fun (i : Nat) => [(0, .d (.int .u64 (n : Int))), (3, .sl 7 [] 1 0 ((padZ i).map byteD).length)]) (fun i => [(7, .row 1 ((padZ i).map byteD))]) (fun i => 64 - i) (fun i => i ≤ (119 - n % 64) % 64) 0 [(7, 2000)] ?_ ?_ ?_ ?_ ?_ (fun i hI => ?_)
                 | refine vc_nextI (i + 1 : Nat) [(7, 4008)] ?_ ?_ ?_ ?_ ?_ ?_
                 | refine vc_loopI (y := .seq (.region 5 _ _) _) 31 (fun (x : Nat × Unit) => [(0, .d (.int .u64 (n : Int))), (3, .sl 7 [] 1 0 ((padL n x.1).map byteD).length), (16, .d (.int .i64 (x.1 : Int)))]) (fun x => [(7, .row 1 ((padL n x.1).map byteD))]) (fun x => 8 - x.1) (fun x => x.1 ≤ 8) (0, ()) [] ?_ ?_ ?_ ?_ ?_ (fun x hM => ?_)
                 | refine vc_nextI (x.1 + 1, ()) [(7, 8036)] ?_ ?_ ?_ ?_ ?_ ?_ | refine vc_ret [true] [] ?_ | refine vc_weakf [] ?_ ?_ ?_ | refine vc_and ?_ ?_ | refine vc_ret [] [] ?_)
          | ((with_reducible first | refine vc_caseD (fun h => ?_) (fun h => ?_) | refine vc_caseN (fun h => ?_) (fun h => ?_)) <;> try (exfalso; omega))
          | ((with_reducible refine vc_case (fun h => ?_) (fun h => ?_)) <;> (try simp only [Bool.cond_true_left, Bool.cond_false_right, Bool.cond_true_right, Bool.cond_false_left, Bool.and_eq_true, Bool.or_eq_true, Bool.and_eq_false_iff, Bool.or_eq_false_iff, Bool.not_eq_true', Bool.not_eq_false', Bool.not_eq_true, Bool.not_eq_false, Bool.not_not, decide_eq_true_eq, decide_eq_false_iff_not, beq_iff_eq, beq_eq_false_iff_ne, bne_iff_ne, bne_eq_false_iff_eq, ne_eq, Classical.not_not, reduceCtorEq, false_or, or_false, true_and, and_true, Bool.false_eq_true, Bool.true_eq_false] at h) <;> try (exfalso; first | omega | (simp at h; done)))))
  all_goals (try dsimp only)
  all_goals (try simp only [List.drop_zero, List.take_length])
  all_goals first
    | with_reducible rfl
    | omega
    | decide
    | (rw [padZ_app]; done)
    | (show D.int .i64 _ = D.int .i64 _; first | rfl | (congr 1; rw [wrap64_id (by omega) (by omega)]; omega))
    | skip
  all_goals first
    | (have hm := hM
       first
       | (have hj : x.1 < 8 := by omega
          (try rw [w56 x.1 hj])
          (try rw [shl3, pad_byte n x.1 hj])
          first
          | omega
          | (rw [padL_app]; done)
          | (refine ⟨⟨by simp, by first | trivial | rfl, room_small rfl ?_⟩, fun y hy => ?_⟩
             · rw [List.length_append, List.length_map, padL_length]
               show _ + 1 ≤ _
               omega
             · simp only [List.mem_singleton] at hy; subst hy; rfl))
       | (have e : x.1 = 8 := by omega
          rw [e]
          first
          | exact ⟨Nat.le_of_eq (Nat.zero_add _), trivial⟩
          | rfl)
       | skip)
    | (have hi := hI
       rw [pad_cond n i hn (by omega)] at h
       first
       | omega
       | (refine ⟨⟨by simp, by first | trivial | rfl, room_small rfl ?_⟩, fun y hy => ?_⟩
          · rw [List.length_append, List.length_map, padZ_length]
            show _ + 1 ≤ _
            omega
          · simp only [List.mem_singleton] at hy; subst hy; rfl)
       | (have e : i = (119 - n % 64) % 64 := by omega
          rw [e]
          simp [padL]; done)
       | skip)
    | rfl
    | skip

theorem rPad_ok (n : Nat) (hn : n < 18446744073709551616) : LocalCall Try.prog 66 [.d (.int .u64 (n : Int))] [] [] (one [.d (.sl ((spad n).map byteD))]) [] := by
  refine vc_fn mixed Try.func66 rfl rfl [] (vc_chk rfl) ?_
  repeat' (first
      | ((with_reducible refine vc_chk ?_); first | decide +kernel | rfl)
      | (with_reducible refine vc_side0 ?_; rfl)
      | (with_reducible first
           | refine vc_true ?_ | refine vc_true2 ?_ | refine vc_side ?_ ?_ | refine vc_triv | refine vc_later ?_ | refine vc_caseT ?_ | refine vc_caseF ?_ | refine vc_cons ?_ | refine vc_nil ?_ ?_ | refine vc_seq ?_
              | refine vc_region ?_ | refine vc_cond ?_ | refine vc_block ?_ | refine vc_retc ?_ | refine vc_exit ?_ | refine vc_skip ?_ | refine vc_scope ?_ | refine vc_label ?_ | refine vc_goto ?_ | refine vc_wkSl0
              | refine vc_wkHp0 | refine vc_eqAVs0 | refine vc_preG0 | refine vc_wkSl ?_ ?_ | refine vc_wkHp ?_ ?_ | refine vc_eqAVs ?_ ?_ | refine vc_preG ?_ ?_ | refine vc_side0 ?_
              | refine vc_loopI (y := .seq (.seq (.region 3 _ _) _) _) 36 (fun (i : Nat) => [(0, .d (.int .u64 (n : Int))), (3, .sl 7 [] 1 0 ((padZ i).map byteD).length)]) (fun i => [(7, .row 1 ((padZ i).map byteD))]) (fun i => 64 - i) (fun i => i ≤ (119 - n % 64) % 64) 0 [(7, 3008)] ?_ ?_ ?_ ?_ ?_ (fun i hI => ?_)
              | refine vc_nextI (i + 1 : Nat) [(7, 5008)] ?_ ?_ ?_ ?_ ?_ ?_
              | refine vc_loopI (y := .seq (.seq (.region 7 _ _) _) _) 36 (fun (x : Nat × Unit) => [(3, .sl 7 [] 1 0 ((padL n x.1).map byteD).length), (4, .d (.int .u64 ((n * 8 % 18446744073709551616 : Nat) : Int))), (5, .d (.int .i64 (x.1 : Int)))]) (fun x => [(7, .row 1 ((padL n x.1).map byteD))]) (fun x => 8 - x.1) (fun x => x.1 ≤ 8) (0, ()) [] ?_ ?_ ?_ ?_ ?_ (fun x hM => ?_)
              | refine vc_nextI (x.1 + 1, ()) [(7, 10036)] ?_ ?_ ?_ ?_ ?_ ?_ | refine vc_ret [true] [] ?_ | refine vc_weakf [] ?_ ?_ ?_ | refine vc_and ?_ ?_ | refine vc_ret [] [] ?_)
      | ((with_reducible first | refine vc_caseD (fun h => ?_) (fun h => ?_) | refine vc_caseN (fun h => ?_) (fun h => ?_)) <;> try (exfalso; omega))
      | ((with_reducible refine vc_case (fun h => ?_) (fun h => ?_)) <;> (try simp only [Bool.cond_true_left, Bool.cond_false_right, Bool.cond_true_right, Bool.cond_false_left, Bool.and_eq_true, Bool.or_eq_true, Bool.and_eq_false_iff, Bool.or_eq_false_iff, Bool.not_eq_true', Bool.not_eq_false', Bool.not_eq_true, Bool.not_eq_false, Bool.not_not, decide_eq_true_eq, decide_eq_false_iff_not, beq_iff_eq, beq_eq_false_iff_ne, bne_iff_ne, bne_eq_false_iff_eq, ne_eq, Classical.not_not, reduceCtorEq, false_or, or_false, true_and, and_true, Bool.false_eq_true, Bool.true_eq_false] at h) <;> try (exfalso; first | omega | (simp at h; done)))
      | (conv in Vc _ => arg 1; whnf
         first
          | (with_reducible refine vc_side0 ?_; rfl)
          | (with_reducible first
              | refine vc_true ?_ | refine vc_true2 ?_ | refine vc_side ?_ ?_ | refine vc_triv | refine vc_later ?_ | refine vc_caseT ?_ | refine vc_caseF ?_ | refine vc_cons ?_ | refine vc_nil ?_ ?_ | refine vc_seq ?_
                 | refine vc_region ?_ | refine vc_cond ?_ | refine vc_block ?_ | refine vc_retc ?_ | refine vc_exit ?_ | refine vc_skip ?_ | refine vc_scope ?_ | refine vc_label ?_ | refine vc_goto ?_ | refine vc_wkSl0
                 | refine vc_wkHp0 | refine vc_eqAVs0 | refine vc_preG0 | refine vc_wkSl ?_ ?_ | refine vc_wkHp ?_ ?_ | refine vc_eqAVs ?_ ?_ | refine vc_preG ?_ ?_ | refine vc_side0 ?_
                 | refine vc_loopI (y := .seq (.seq (.region 3 _ _) _) _) 36 (fun (i : Nat) => [(0, .d (.int .u64 (n : Int))), (3, .sl 7 [] 1 0 ((padZ i).map byteD).length)]) (fun i => [(7, .row 1 ((padZ i).map byteD))]) (fun i => 64 - i) (fun i => i ≤ (119 - n % 64) % 64) 0 [(7, 3008)] ?_ ?_ ?_ ?_ ?_ (fun i hI => ?_)
                 | refine vc_nextI (i + 1 : Nat) [(7, 5008)] ?_ ?_ ?_ ?_ ?_ ?_
                 | refine vc_loopI (y := .seq (.seq (.region 7 _ _) _) _) 36 (fun (x : Nat × Unit) => [(3, .sl 7 [] 1 0 ((padL n x.1).map byteD).length), (4, .d (.int .u64 ((n * 8 % 18446744073709551616 : Nat) : Int))), (5, .d (.int .i64 (x.1 : Int)))]) (fun x => [(7, .row 1 ((padL n x.1).map byteD))]) (fun x => 8 - x.1) (fun x => x.1 ≤ 8) (0, ()) [] ?_ ?_ ?_ ?_ ?_ (fun x hM => ?_)
                 | refine vc_nextI (x.1 + 1, ()) [(7, 10036)] ?_ ?_ ?_ ?_ ?_ ?_ | refine vc_ret [true] [] ?_ | refine vc_weakf [] ?_ ?_ ?_ | refine vc_and ?_ ?_ | refine vc_ret [] [] ?_)
          | ((with_reducible first | refine vc_caseD (fun h => ?_) (fun h => ?_) | refine vc_caseN (fun h => ?_) (fun h => ?_)) <;> try (exfalso; omega))
          | ((with_reducible refine vc_case (fun h => ?_) (fun h => ?_)) <;> (try simp only [Bool.cond_true_left, Bool.cond_false_right, Bool.cond_true_right, Bool.cond_false_left, Bool.and_eq_true, Bool.or_eq_true, Bool.and_eq_false_iff, Bool.or_eq_false_iff, Bool.not_eq_true', Bool.not_eq_false', Bool.not_eq_true, Bool.not_eq_false, Bool.not_not, decide_eq_true_eq, decide_eq_false_iff_not, beq_iff_eq, beq_eq_false_iff_ne, bne_iff_ne, bne_eq_false_iff_eq, ne_eq, Classical.not_not, reduceCtorEq, false_or, or_false, true_and, and_true, Bool.false_eq_true, Bool.true_eq_false] at h) <;> try (exfalso; first | omega | (simp at h; done)))))
  all_goals (try dsimp only)
  all_goals (try simp only [List.drop_zero, List.take_length])
  all_goals first
    | with_reducible rfl
    | omega
    | decide
    | (rw [padZ_app]; done)
    | (rw [mul8]; done)
    | exact wrapU64n _
    | exact ⟨⟨by simp, room_small rfl (by simp)⟩, fun y hy => by simp only [List.mem_singleton] at hy; subst hy; rfl⟩
    | (show D.int .i64 _ = D.int .i64 _; first | rfl | (congr 1; rw [wrap64_id (by omega) (by omega)]; omega))
    | skip
  all_goals first
    | (have hm := hM
       first
       | (have hj : x.1 < 8 := by omega
          (try rw [w56u x.1 hj, pad_byte n x.1 hj])
          first
          | omega
          | (rw [padL_app]; done)
          | (refine ⟨⟨by simp, by first | trivial | rfl, room_small rfl ?_⟩, fun y hy => ?_⟩
             · rw [List.length_append, List.length_map, padL_length]
               show _ + 1 ≤ _
               omega
             · simp only [List.mem_singleton] at hy; subst hy; rfl))
       | (have e : x.1 = 8 := by omega
          rw [e]
          first
          | exact ⟨Nat.le_of_eq (Nat.zero_add _), trivial⟩
          | rfl)
       | skip)
    | (have hi := hI
       rw [pad_cond n i hn (by omega)] at h
       first
       | omega
       | (refine ⟨⟨by simp, by first | trivial | rfl, room_small rfl ?_⟩, fun y hy => ?_⟩
          · rw [List.length_append, List.length_map, padZ_length]
            show _ + 1 ≤ _
            omega
          · simp only [List.mem_singleton] at hy; subst hy; rfl)
       | (have e : i = (119 - n % 64) % 64 := by omega
          rw [e]
          simp [padL]; done)
       | skip)
    | rfl
    | skip

end Go.Proofs.Ytdceegllpcepnaa

/-
The digest of what was written.
-/
set_option linter.unusedSimpArgs false
set_option linter.unusedVariables false
namespace Go.Proofs.Ytdceegllpcepnaa
open Go.Sym
set_option maxRecDepth 10000
set_option maxHeartbeats 8000000

/-- A byte of words. -/
def wByte (h : List W32) (j : Nat) : UInt8 := UInt8.ofNat ((h.getD (j / 4) 0).toNat / 2 ^ (24 - 8 * (j % 4)) % 256)
/-- So many bytes of words, and noughts. -/
def dB (h : List W32) (q : Nat) : List UInt8 := (List.range 32).map fun j => bif decide (j < q) then wByte h j else 0

theorem dB_zero (h : List W32) : (dB h 0).map byteD = List.replicate 32 (.int .u8 0) := by
  unfold dB; rfl

theorem dB_all (h : List W32) : dB h 32 = wBytes h := by
  unfold dB wBytes
  apply List.map_congr_left
  intro j hj
  rw [decide_eq_true (List.mem_range.1 hj)]; rfl

theorem dB_set (h : List W32) {q : Nat} (hq : q < 32) : ((dB h q).map byteD).set q (byteD (wByte h q)) = (dB h (q + 1)).map byteD := by
  rw [← List.map_set]
  congr 1
  apply List.ext_getElem?
  intro k
  unfold dB
  rw [List.getElem?_set]
  by_cases hk : q = k
  · subst hk
    simp [hq]
  · rw [if_neg hk, List.getElem?_map, List.getElem?_map]
    by_cases h8 : k < 32
    · rw [List.getElem?_range h8]
      have : decide (k < q) = decide (k < q + 1) := by
        by_cases h1 : k < q
        · rw [decide_eq_true h1, decide_eq_true (show k < q + 1 by omega)]
        · rw [decide_eq_false h1, decide_eq_false (show ¬ k < q + 1 by omega)]
      simp [this]
    · rw [List.getElem?_eq_none (by simpa using h8)]; rfl

theorem wByte_eq (h : List W32) (j k : Nat) (hk : k = 24 - 8 * (j % 4)) : D.int .u8 (IntKind.u8.wrap (shrI .u32 (wI (h.getD (j / 4) 0)) (k : Int))) = byteD (wByte h j) := by
  rw [w_shr _ (by omega), u8_wrap]
  unfold wI wByte byteD
  rw [UInt8.toNat_ofNat_of_lt' (show _ < 256 from Nat.mod_lt _ (by omega)), BitVec.toNat_ushiftRight, Nat.shiftRight_eq_div_pow, hk]
  rfl

theorem dig_eq (m : List UInt8) (h : m.length < 2 ^ 60) : wBytes (sstate (m ++ spad m.length)) = shaB m := by
  unfold shaB sstate
  rw [Nat.mod_eq_of_lt (show m.length < 2 ^ 64 by omega)]

theorem shaDig_ok (m bl : List UInt8) (l : bl.length = 64) (r : bl.take (m.length % 64) = srest m) (hl : m.length < 2 ^ 59) :
    LocalCall Try.prog 65 [.ptr 9 []] [(9, hst m bl)] [] (one [.d (.arr 32 1 ((shaB m).map byteD))]) [] := by
  have hpl : (spad m.length).length ≤ 72 := by rw [spad_length]; omega
  have hw := local_ren [(9, 8)] [(8, 9)] (write_ok m bl (spad m.length) l r (by omega)) rfl
  have hS := sstate_length (m ++ spad m.length)
  have hg : ∀ i, i < 8 → ((sstate (m ++ spad m.length)).map wD).getD i .nilp = wD ((sstate (m ++ spad m.length)).getD i 0) := fun i hi => w8_get i (by rw [hS]; exact hi)
  have hd := dig_eq m (by omega)
  refine vc_fn mixed Try.func65 rfl rfl [] (vc_chk rfl) ?_
  repeat' (first
      | ((with_reducible refine vc_chk ?_); first | decide +kernel | rfl)
      | (with_reducible refine vc_side0 ?_; rfl)
      | (with_reducible first
           | refine vc_true ?_ | refine vc_true2 ?_ | refine vc_side ?_ ?_ | refine vc_triv | refine vc_later ?_ | refine vc_caseT ?_ | refine vc_caseF ?_ | refine vc_cons ?_ | refine vc_nil ?_ ?_ | refine vc_seq ?_
              | refine vc_region ?_ | refine vc_cond ?_ | refine vc_block ?_ | refine vc_retc ?_ | refine vc_exit ?_ | refine vc_skip ?_ | refine vc_scope ?_ | refine vc_label ?_ | refine vc_goto ?_ | refine vc_wkSl0
              | refine vc_wkHp0 | refine vc_eqAVs0 | refine vc_preG0 | refine vc_wkSl ?_ ?_ | refine vc_wkHp ?_ ?_ | refine vc_eqAVs ?_ ?_ | refine vc_preG ?_ ?_ | refine vc_side0 ?_
              | refine vc_call [] (clone_ok (sstate m) bl (m.length % 64) m.length) ?_ | refine vc_pure (pad_ok m.length (by omega)) ?_ ?_ ?_ | refine vc_call [] hw ?_
              | refine vc_loopI (y := .seq (.region 5 _ _) _) 42 (fun (i : Nat) => [(2, .ptr 1000 []), (4, .ptr 4000 []), (20, .d (.arr 8 1 ((sstate (m ++ spad m.length)).map wD))), (21, .d (.int .i64 (i : Int)))]) (fun i => [(9, hst m bl), (1000, .var (.d (.arr 32 1 (List.replicate 32 (.int .u8 0))))), (4000, .var (.d (.arr 32 1 ((dB (sstate (m ++ spad m.length)) (4 * i)).map byteD))))]) (fun i => 8 - i) (fun i => i ≤ 8) 0 [] ?_ ?_ ?_ ?_ ?_ (fun i hI => ?_)
              | refine vc_loopI (y := .seq (.region 8 _ _) _) 42 (fun (x : Nat × Unit) => [(2, .ptr 1000 []), (4, .ptr 4000 []), (5, .d (.int .i64 (i : Int))), (6, .d (.int .u32 (wI ((sstate (m ++ spad m.length)).getD i 0)))), (20, .d (.arr 8 1 ((sstate (m ++ spad m.length)).map wD))), (21, .d (.int .i64 (i : Int))), (25, .d (.int .i64 (x.1 : Int)))]) (fun x => [(9, hst m bl), (1000, .var (.d (.arr 32 1 (List.replicate 32 (.int .u8 0))))), (4000, .var (.d (.arr 32 1 ((dB (sstate (m ++ spad m.length)) (4 * i + x.1)).map byteD))))]) (fun x => 4 - x.1) (fun x => x.1 ≤ 4) (0, ()) [] ?_ ?_ ?_ ?_ ?_ (fun x hM => ?_)
              | refine vc_nextI (i + 1 : Nat) [] ?_ ?_ ?_ ?_ ?_ ?_ | refine vc_nextI (x.1 + 1, ()) [] ?_ ?_ ?_ ?_ ?_ ?_ | refine vc_weakf [] ?_ ?_ ?_ | refine vc_and ?_ ?_ | refine vc_ret [] [] ?_)
      | ((with_reducible first | refine vc_caseD (fun h => ?_) (fun h => ?_) | refine vc_caseN (fun h => ?_) (fun h => ?_)) <;> try (exfalso; omega))
      | ((with_reducible refine vc_case (fun h => ?_) (fun h => ?_)) <;> (try simp only [Bool.cond_true_left, Bool.cond_false_right, Bool.cond_true_right, Bool.cond_false_left, Bool.and_eq_true, Bool.or_eq_true, Bool.and_eq_false_iff, Bool.or_eq_false_iff, Bool.not_eq_true', Bool.not_eq_false', Bool.not_eq_true, Bool.not_eq_false, Bool.not_not, decide_eq_true_eq, decide_eq_false_iff_not, beq_iff_eq, beq_eq_false_iff_ne, bne_iff_ne, bne_eq_false_iff_eq, ne_eq, Classical.not_not, reduceCtorEq, false_or, or_false, true_and, and_true, Bool.false_eq_true, Bool.true_eq_false] at h) <;> try (exfalso; first | omega | (simp at h; done)))
      | (conv in Vc _ => arg 1; whnf
         first
          | (with_reducible refine vc_side0 ?_; rfl)
          | (with_reducible first
              | refine vc_true ?_ | refine vc_true2 ?_ | refine vc_side ?_ ?_ | refine vc_triv | refine vc_later ?_ | refine vc_caseT ?_ | refine vc_caseF ?_ | refine vc_cons ?_ | refine vc_nil ?_ ?_ | refine vc_seq ?_
                 | refine vc_region ?_ | refine vc_cond ?_ | refine vc_block ?_ | refine vc_retc ?_ | refine vc_exit ?_ | refine vc_skip ?_ | refine vc_scope ?_ | refine vc_label ?_ | refine vc_goto ?_ | refine vc_wkSl0
                 | refine vc_wkHp0 | refine vc_eqAVs0 | refine vc_preG0 | refine vc_wkSl ?_ ?_ | refine vc_wkHp ?_ ?_ | refine vc_eqAVs ?_ ?_ | refine vc_preG ?_ ?_ | refine vc_side0 ?_
                 | refine vc_call [] (clone_ok (sstate m) bl (m.length % 64) m.length) ?_ | refine vc_pure (pad_ok m.length (by omega)) ?_ ?_ ?_ | refine vc_call [] hw ?_
                 | refine vc_loopI (y := .seq (.region 5 _ _) _) 42 (fun (i : Nat) => [(2, .ptr 1000 []), (4, .ptr 4000 []), (20, .d (.arr 8 1 ((sstate (m ++ spad m.length)).map wD))), (21, .d (.int .i64 (i : Int)))]) (fun i => [(9, hst m bl), (1000, .var (.d (.arr 32 1 (List.replicate 32 (.int .u8 0))))), (4000, .var (.d (.arr 32 1 ((dB (sstate (m ++ spad m.length)) (4 * i)).map byteD))))]) (fun i => 8 - i) (fun i => i ≤ 8) 0 [] ?_ ?_ ?_ ?_ ?_ (fun i hI => ?_)
                 | refine vc_loopI (y := .seq (.region 8 _ _) _) 42 (fun (x : Nat × Unit) => [(2, .ptr 1000 []), (4, .ptr 4000 []), (5, .d (.int .i64 (i : Int))), (6, .d (.int .u32 (wI ((sstate (m ++ spad m.length)).getD i 0)))), (20, .d (.arr 8 1 ((sstate (m ++ spad m.length)).map wD))), (21, .d (.int .i64 (i : Int))), (25, .d (.int .i64 (x.1 : Int)))]) (fun x => [(9, hst m bl), (1000, .var (.d (.arr 32 1 (List.replicate 32 (.int .u8 0))))), (4000, .var (.d (.arr 32 1 ((dB (sstate (m ++ spad m.length)) (4 * i + x.1)).map byteD))))]) (fun x => 4 - x.1) (fun x => x.1 ≤ 4) (0, ()) [] ?_ ?_ ?_ ?_ ?_ (fun x hM => ?_)
                 | refine vc_nextI (i + 1 : Nat) [] ?_ ?_ ?_ ?_ ?_ ?_ | refine vc_nextI (x.1 + 1, ()) [] ?_ ?_ ?_ ?_ ?_ ?_ | refine vc_weakf [] ?_ ?_ ?_ | refine vc_and ?_ ?_ | refine vc_ret [] [] ?_)
          | ((with_reducible first | refine vc_caseD (fun h => ?_) (fun h => ?_) | refine vc_caseN (fun h => ?_) (fun h => ?_)) <;> try (exfalso; omega))
          | ((with_reducible refine vc_case (fun h => ?_) (fun h => ?_)) <;> (try simp only [Bool.cond_true_left, Bool.cond_false_right, Bool.cond_true_right, Bool.cond_false_left, Bool.and_eq_true, Bool.or_eq_true, Bool.and_eq_false_iff, Bool.or_eq_false_iff, Bool.not_eq_true', Bool.not_eq_false', Bool.not_eq_true, Bool.not_eq_false, Bool.not_not, decide_eq_true_eq, decide_eq_false_iff_not, beq_iff_eq, beq_eq_false_iff_ne, bne_iff_ne, bne_eq_false_iff_eq, ne_eq, Classical.not_not, reduceCtorEq, false_or, or_false, true_and, and_true, Bool.false_eq_true, Bool.true_eq_false] at h) <;> try (exfalso; first | omega | (simp at h; done)))))
  all_goals (try dsimp only)
  all_goals first
    | with_reducible rfl
    | omega
    | skip
  all_goals first
    | (have hm := hM
       have w1 : x.1 < 4 → IntKind.i64.wrap (24 - IntKind.i64.wrap (8 * (x.1 : Int))) = ((24 - 8 * x.1 : Nat) : Int) := fun hx => by
         rw [wrap64_id (n := 8 * (x.1 : Int)) (by omega) (by omega), wrap64_id (by omega) (by omega)]; omega
       have w2 : IntKind.i64.wrap (IntKind.i64.wrap (4 * (i : Int)) + (x.1 : Int)) = ((4 * i + x.1 : Nat) : Int) := by
         rw [wrap64_id (n := 4 * (i : Int)) (by omega) (by omega), wrap64_id (by omega) (by omega)]; omega
       first
       | (rw [w1 (by omega)]; omega)
       | (rw [w2]; omega)
       | (rw [w2]; exact ⟨by omega, by omega⟩)
       | (show D.int .i64 _ = D.int .i64 _; congr 1; rw [wrap64_id (by omega) (by omega)]; omega)
       | (have e := wByte_eq (sstate (m ++ spad m.length)) (4 * i + x.1) (24 - 8 * x.1) (by omega)
          rw [show (4 * i + x.1) / 4 = i by omega] at e
          rw [w1 (by omega), w2, e, Int.toNat_natCast]
          exact congrArg (D.arr 32 1) (dB_set _ (by omega)))
       | (have e : x.1 = 4 := by omega
          rw [e]; rfl))
    | (have hi := hI
       first
       | rfl
       | (rw [Int.toNat_natCast, hg i (by omega)]; first | exact ⟨⟨by omega, by omega⟩, rfl⟩ | rfl)
       | (have e : i = 8 := by omega
          rw [e, dB_all, hd]; done))
    | rfl
    | exact congrArg (D.arr 32 1) (dB_zero _).symm

theorem sstate_nil : sstate [] = sFirst := by unfold sstate; rw [sblocks_small (by simp)]

theorem sum_ok (b : List UInt8) (hl : b.length < 2 ^ 58) : LocalCall Try.prog 48 [.d (.sl (b.map byteD))] [] [] (one [.d (.arr 32 1 ((shaB b).map byteD))]) [] := by
  have h0 : zero64.take (([] : List UInt8).length % 64) = srest [] := rfl
  have hw := write_ok [] zero64 b rfl h0 (by simp; omega)
  obtain ⟨k1, k2⟩ := wrB_ok b.length [] zero64 b (Nat.le_refl _) rfl h0
  have hd := shaDig_ok ([] ++ b) (wrB zero64 (([] : List UInt8).length % 64) b) k1 k2 (by simp; omega)
  rw [List.nil_append] at hw hd
  refine vc_fn mixed Try.func48 rfl rfl [] (vc_chk rfl) ?_
  repeat' (first
      | ((with_reducible refine vc_chk ?_); first | decide +kernel | rfl)
      | (with_reducible refine vc_side0 ?_; rfl)
      | (with_reducible first
           | refine vc_true ?_ | refine vc_true2 ?_ | refine vc_side ?_ ?_ | refine vc_triv | refine vc_later ?_ | refine vc_caseT ?_ | refine vc_caseF ?_ | refine vc_cons ?_ | refine vc_nil ?_ ?_ | refine vc_seq ?_
              | refine vc_region ?_ | refine vc_cond ?_ | refine vc_block ?_ | refine vc_retc ?_ | refine vc_exit ?_ | refine vc_skip ?_ | refine vc_scope ?_ | refine vc_label ?_ | refine vc_goto ?_ | refine vc_wkSl0
              | refine vc_wkHp0 | refine vc_eqAVs0 | refine vc_preG0 | refine vc_wkSl ?_ ?_ | refine vc_wkHp ?_ ?_ | refine vc_eqAVs ?_ ?_ | refine vc_preG ?_ ?_ | refine vc_side0 ?_ | refine vc_call [] new_ok ?_
              | refine vc_call [] hw ?_ | refine vc_call [] hd ?_ | refine vc_weakf [] ?_ ?_ ?_ | refine vc_and ?_ ?_ | refine vc_ret [] [] ?_)
      | ((with_reducible first | refine vc_caseD (fun h => ?_) (fun h => ?_) | refine vc_caseN (fun h => ?_) (fun h => ?_)) <;> try (exfalso; omega))
      | ((with_reducible refine vc_case (fun h => ?_) (fun h => ?_)) <;> (try simp only [Bool.cond_true_left, Bool.cond_false_right, Bool.cond_true_right, Bool.cond_false_left, Bool.and_eq_true, Bool.or_eq_true, Bool.and_eq_false_iff, Bool.or_eq_false_iff, Bool.not_eq_true', Bool.not_eq_false', Bool.not_eq_true, Bool.not_eq_false, Bool.not_not, decide_eq_true_eq, decide_eq_false_iff_not, beq_iff_eq, beq_eq_false_iff_ne, bne_iff_ne, bne_eq_false_iff_eq, ne_eq, Classical.not_not, reduceCtorEq, false_or, or_false, true_and, and_true, Bool.false_eq_true, Bool.true_eq_false] at h) <;> try (exfalso; first | omega | (simp at h; done)))
      | (conv in Vc _ => arg 1; whnf
         first
          | (with_reducible refine vc_side0 ?_; rfl)
          | (with_reducible first
              | refine vc_true ?_ | refine vc_true2 ?_ | refine vc_side ?_ ?_ | refine vc_triv | refine vc_later ?_ | refine vc_caseT ?_ | refine vc_caseF ?_ | refine vc_cons ?_ | refine vc_nil ?_ ?_ | refine vc_seq ?_
                 | refine vc_region ?_ | refine vc_cond ?_ | refine vc_block ?_ | refine vc_retc ?_ | refine vc_exit ?_ | refine vc_skip ?_ | refine vc_scope ?_ | refine vc_label ?_ | refine vc_goto ?_ | refine vc_wkSl0
                 | refine vc_wkHp0 | refine vc_eqAVs0 | refine vc_preG0 | refine vc_wkSl ?_ ?_ | refine vc_wkHp ?_ ?_ | refine vc_eqAVs ?_ ?_ | refine vc_preG ?_ ?_ | refine vc_side0 ?_ | refine vc_call [] new_ok ?_
                 | refine vc_call [] hw ?_ | refine vc_call [] hd ?_ | refine vc_weakf [] ?_ ?_ ?_ | refine vc_and ?_ ?_ | refine vc_ret [] [] ?_)
          | ((with_reducible first | refine vc_caseD (fun h => ?_) (fun h => ?_) | refine vc_caseN (fun h => ?_) (fun h => ?_)) <;> try (exfalso; omega))
          | ((with_reducible refine vc_case (fun h => ?_) (fun h => ?_)) <;> (try simp only [Bool.cond_true_left, Bool.cond_false_right, Bool.cond_true_right, Bool.cond_false_left, Bool.and_eq_true, Bool.or_eq_true, Bool.and_eq_false_iff, Bool.or_eq_false_iff, Bool.not_eq_true', Bool.not_eq_false', Bool.not_eq_true, Bool.not_eq_false, Bool.not_not, decide_eq_true_eq, decide_eq_false_iff_not, beq_iff_eq, beq_eq_false_iff_ne, bne_iff_ne, bne_eq_false_iff_eq, ne_eq, Classical.not_not, reduceCtorEq, false_or, or_false, true_and, and_true, Bool.false_eq_true, Bool.true_eq_false] at h) <;> try (exfalso; first | omega | (simp at h; done)))))
  all_goals first
    | with_reducible rfl
    | (rw [sstate_nil]; rfl)
    | skip

end Go.Proofs.Ytdceegllpcepnaa

/-
The reference's words of a block.
-/
set_option linter.unusedSimpArgs false
set_option linter.unusedVariables false
namespace Go.Proofs.Ytdceegllpcepnaa
open Go.Sym
set_option maxRecDepth 10000
set_option maxHeartbeats 8000000

/-- A word of which so many bytes were read. -/
def wacc (bl : List UInt8) (q : Nat) : Nat → W32
  | 0 => BitVec.ofNat 32 0
  | c + 1 => wacc bl q c * c256 + bW (bl.getD (4 * q + c) 0)

def wP (bl : List UInt8) (i : Nat) : List W32 := (List.range 64).map fun q => wacc bl q (min 4 (i - 4 * q))

theorem wP_length (bl : List UInt8) (i : Nat) : (wP bl i).length = 64 := by simp [wP]

theorem wP_get (bl : List UInt8) (i : Nat) {q : Nat} (hq : q < 64) : (wP bl i).getD q 0 = wacc bl q (min 4 (i - 4 * q)) := by
  unfold wP
  rw [List.getD_eq_getElem?_getD, List.getElem?_map, List.getElem?_range hq]; rfl

theorem wP_set (bl : List UInt8) {i : Nat} (hi : i < 64) : ((wP bl i).map wD).set (i / 4) (wD (wacc bl (i / 4) (i % 4) * c256 + bW (bl.getD i 0))) = (wP bl (i + 1)).map wD := by
  rw [← List.map_set]
  congr 1
  apply List.ext_getElem?
  intro k
  unfold wP
  rw [List.getElem?_set]
  by_cases hk : i / 4 = k
  · subst hk
    rw [if_pos rfl, List.length_map, List.length_range, if_pos (by omega), List.getElem?_map, List.getElem?_range (by omega)]
    have e : min 4 (i + 1 - 4 * (i / 4)) = i % 4 + 1 := by omega
    have e2 : 4 * (i / 4) + i % 4 = i := by omega
    simp only [Option.map_some, e, wacc, e2]
  · rw [if_neg hk, List.getElem?_map, List.getElem?_map]
    by_cases h8 : k < 64
    · rw [List.getElem?_range h8]
      have : min 4 (i - 4 * k) = min 4 (i + 1 - 4 * k) := by omega
      simp [this]
    · rw [List.getElem?_eq_none (by simpa using h8)]; rfl

theorem wP_zero (bl : List UInt8) : (wP bl 0).map wD = List.replicate 64 (.int .u32 0) := by
  have : wP bl 0 = List.replicate 64 (BitVec.ofNat 32 0) := by
    unfold wP
    have e : ∀ q : Nat, min 4 (0 - 4 * q) = 0 := fun q => by omega
    simp only [e, wacc, List.map_const', List.length_range]
  rw [this, List.map_replicate]; rfl

theorem wP_all (bl : List UInt8) : (wP bl 64).map wD = padW (sched bl 0) := by
  have e : wP bl 64 = sched bl 0 ++ List.replicate 48 (BitVec.ofNat 32 0) := by
    apply List.ext_getElem?
    intro k
    unfold wP sched
    by_cases hk : k < 16
    · rw [List.getElem?_append_left (by simpa using hk), List.getElem?_map, List.getElem?_map, List.getElem?_range hk, List.getElem?_range (show k < 64 by omega)]
      have : min 4 (64 - 4 * k) = 4 := by omega
      simp only [Option.map_some, this]; rfl
    · rw [List.getElem?_append_right (by simpa using hk)]
      by_cases h64 : k < 64
      · rw [List.getElem?_map, List.getElem?_range h64, List.getElem?_replicate, if_pos (by simp; omega)]
        have : min 4 (64 - 4 * k) = 0 := by omega
        simp only [Option.map_some, this]; rfl
      · rw [List.getElem?_eq_none (by simpa using h64), List.getElem?_eq_none (by simp; omega)]
  rw [e]
  unfold padW
  rw [List.map_append, List.map_replicate, sched_length]; rfl

theorem words_ok (bl : List UInt8) (hb : bl.length = 64) :
    LocalCall Try.prog 76 [.d (.sl (bl.map byteD))] [] [] (one [.d (.arr 64 1 ((sched bl 48).map wD))]) [] := by
  have lb : (bl.map byteD).length = 64 := by rw [List.length_map]; exact hb
  have r0 : ∀ (m k : Nat), k < 16 + m → (padW (sched bl m)).getD k .nilp = wD ((sched bl m).getD k 0) := fun m k hk => padW_get (by rw [sched_length]; exact hk)
  have r1 : ∀ m : Nat, m < 48 → IntKind.i64.wrap (((16 + m : Nat) : Int) - 15) = ((m + 1 : Nat) : Int) := fun m hm => by rw [wrap64_id (by omega) (by omega)]; omega
  have r2 : ∀ m : Nat, m < 48 → IntKind.i64.wrap (((16 + m : Nat) : Int) - 2) = ((m + 14 : Nat) : Int) := fun m hm => by rw [wrap64_id (by omega) (by omega)]; omega
  have r3 : ∀ m : Nat, m < 48 → IntKind.i64.wrap (((16 + m : Nat) : Int) - 16) = ((m : Nat) : Int) := fun m hm => by rw [wrap64_id (by omega) (by omega)]; omega
  have r4 : ∀ m : Nat, m < 48 → IntKind.i64.wrap (((16 + m : Nat) : Int) - 7) = ((m + 9 : Nat) : Int) := fun m hm => by rw [wrap64_id (by omega) (by omega)]; omega
  have ga : ∀ m : Nat, m < 48 → ((padW (sched bl m)).getD (IntKind.i64.wrap (((16 + m : Nat) : Int) - 15)).toNat .nilp).toInt = wI ((sched bl m).getD (m + 1) 0) := fun m hm => by rw [r1 m hm, Int.toNat_natCast, r0 m _ (by omega)]; rfl
  have gb : ∀ m : Nat, m < 48 → ((padW (sched bl m)).getD (IntKind.i64.wrap (((16 + m : Nat) : Int) - 2)).toNat .nilp).toInt = wI ((sched bl m).getD (m + 14) 0) := fun m hm => by rw [r2 m hm, Int.toNat_natCast, r0 m _ (by omega)]; rfl
  have gc : ∀ m : Nat, m < 48 → ((padW (sched bl m)).getD (IntKind.i64.wrap (((16 + m : Nat) : Int) - 16)).toNat .nilp).toInt = wI ((sched bl m).getD m 0) := fun m hm => by rw [r3 m hm, Int.toNat_natCast, r0 m _ (by omega)]; rfl
  have gd : ∀ m : Nat, m < 48 → ((padW (sched bl m)).getD (IntKind.i64.wrap (((16 + m : Nat) : Int) - 7)).toNat .nilp).toInt = wI ((sched bl m).getD (m + 9) 0) := fun m hm => by rw [r4 m hm, Int.toNat_natCast, r0 m _ (by omega)]; rfl
  have r7 : ∀ m : Nat, m < 48 → (padW (sched bl m)).set (16 + m) (D.int .u32 (wI ((sched bl m).getD m 0 + (rotr ((sched bl m).getD (m + 1) 0) 7 ^^^ rotr ((sched bl m).getD (m + 1) 0) 18 ^^^ (sched bl m).getD (m + 1) 0 >>> 3) + (sched bl m).getD (m + 9) 0 + (rotr ((sched bl m).getD (m + 14) 0) 17 ^^^ rotr ((sched bl m).getD (m + 14) 0) 19 ^^^ (sched bl m).getD (m + 14) 0 >>> 10)))) = padW (sched bl (m + 1)) := fun m hm => by
    have := padW_set (ws := sched bl m) (by rw [sched_length]; omega) ((sched bl m).getD m 0 + low3 ((sched bl m).getD (m + 1) 0) + (sched bl m).getD (m + 9) 0 + high3 ((sched bl m).getD (m + 14) 0))
    rw [sched_length] at this
    exact this
  refine vc_fn mixed Try.func76 rfl rfl [] (vc_chk rfl) ?_
  repeat' (first
      | ((with_reducible refine vc_chk ?_); first | decide +kernel | rfl)
      | (with_reducible refine vc_side0 ?_; rfl)
      | (with_reducible first
           | refine vc_true ?_ | refine vc_true2 ?_ | refine vc_side ?_ ?_ | refine vc_triv | refine vc_later ?_ | refine vc_caseT ?_ | refine vc_caseF ?_ | refine vc_cons ?_ | refine vc_nil ?_ ?_ | refine vc_seq ?_
              | refine vc_region ?_ | refine vc_cond ?_ | refine vc_block ?_ | refine vc_retc ?_ | refine vc_exit ?_ | refine vc_skip ?_ | refine vc_scope ?_ | refine vc_label ?_ | refine vc_goto ?_ | refine vc_wkSl0
              | refine vc_wkHp0 | refine vc_eqAVs0 | refine vc_preG0 | refine vc_wkSl ?_ ?_ | refine vc_wkHp ?_ ?_ | refine vc_eqAVs ?_ ?_ | refine vc_preG ?_ ?_ | refine vc_side0 ?_
              | refine vc_loopI (y := .seq (.seq (.region 3 _ _) _) _) 80 (fun (i : Nat) => [(0, .d (.sl (bl.map byteD))), (2, .ptr 1000 []), (3, .ptr 2000 []), (4, .d (.int .i64 (i : Int)))]) (fun i => [(1000, .var (.d (.arr 64 1 (List.replicate 64 (.int .u32 0))))), (2000, .var (.d (.arr 64 1 ((wP bl i).map wD))))]) (fun i => 64 - i) (fun i => i ≤ 64) 0 [] ?_ ?_ ?_ ?_ ?_ (fun i hI => ?_)
              | refine vc_loopI (y := .seq (.seq (.region 7 _ _) _) _) 80 (fun (x : Nat × Unit) => [(2, .ptr 1000 []), (3, .ptr 2000 []), (5, .d (.int .i64 ((16 + x.1 : Nat) : Int)))]) (fun x => [(1000, .var (.d (.arr 64 1 (List.replicate 64 (.int .u32 0))))), (2000, .var (.d (.arr 64 1 (padW (sched bl x.1)))))]) (fun x => 48 - x.1) (fun x => x.1 ≤ 48) (0, ()) [] ?_ ?_ ?_ ?_ ?_ (fun x hM => ?_)
              | refine vc_nextI (x.1 + 1, ()) [] ?_ ?_ ?_ ?_ ?_ ?_ | refine vc_nextI (i + 1 : Nat) [] ?_ ?_ ?_ ?_ ?_ ?_ | refine vc_pure (turn_ok (ga x.1 (by omega)) 7 (by decide)) ?_ ?_ ?_
              | refine vc_pure (turn_ok (ga x.1 (by omega)) 18 (by decide)) ?_ ?_ ?_ | refine vc_pure (turn_ok (gb x.1 (by omega)) 17 (by decide)) ?_ ?_ ?_ | refine vc_pure (turn_ok (gb x.1 (by omega)) 19 (by decide)) ?_ ?_ ?_
              | refine vc_weakf [] ?_ ?_ ?_ | refine vc_and ?_ ?_ | refine vc_ret [] [] ?_)
      | ((with_reducible first | refine vc_caseD (fun h => ?_) (fun h => ?_) | refine vc_caseN (fun h => ?_) (fun h => ?_)) <;> try (exfalso; omega))
      | ((with_reducible refine vc_case (fun h => ?_) (fun h => ?_)) <;> (try simp only [Bool.cond_true_left, Bool.cond_false_right, Bool.cond_true_right, Bool.cond_false_left, Bool.and_eq_true, Bool.or_eq_true, Bool.and_eq_false_iff, Bool.or_eq_false_iff, Bool.not_eq_true', Bool.not_eq_false', Bool.not_eq_true, Bool.not_eq_false, Bool.not_not, decide_eq_true_eq, decide_eq_false_iff_not, beq_iff_eq, beq_eq_false_iff_ne, bne_iff_ne, bne_eq_false_iff_eq, ne_eq, Classical.not_not, reduceCtorEq, false_or, or_false, true_and, and_true, Bool.false_eq_true, Bool.true_eq_false] at h) <;> try (exfalso; first | omega | (simp at h; done)))
      | (conv in Vc _ => arg 1; whnf
         first
          | (with_reducible refine vc_side0 ?_; rfl)
          | (with_reducible first
              | refine vc_true ?_ | refine vc_true2 ?_ | refine vc_side ?_ ?_ | refine vc_triv | refine vc_later ?_ | refine vc_caseT ?_ | refine vc_caseF ?_ | refine vc_cons ?_ | refine vc_nil ?_ ?_ | refine vc_seq ?_
                 | refine vc_region ?_ | refine vc_cond ?_ | refine vc_block ?_ | refine vc_retc ?_ | refine vc_exit ?_ | refine vc_skip ?_ | refine vc_scope ?_ | refine vc_label ?_ | refine vc_goto ?_ | refine vc_wkSl0
                 | refine vc_wkHp0 | refine vc_eqAVs0 | refine vc_preG0 | refine vc_wkSl ?_ ?_ | refine vc_wkHp ?_ ?_ | refine vc_eqAVs ?_ ?_ | refine vc_preG ?_ ?_ | refine vc_side0 ?_
                 | refine vc_loopI (y := .seq (.seq (.region 3 _ _) _) _) 80 (fun (i : Nat) => [(0, .d (.sl (bl.map byteD))), (2, .ptr 1000 []), (3, .ptr 2000 []), (4, .d (.int .i64 (i : Int)))]) (fun i => [(1000, .var (.d (.arr 64 1 (List.replicate 64 (.int .u32 0))))), (2000, .var (.d (.arr 64 1 ((wP bl i).map wD))))]) (fun i => 64 - i) (fun i => i ≤ 64) 0 [] ?_ ?_ ?_ ?_ ?_ (fun i hI => ?_)
                 | refine vc_loopI (y := .seq (.seq (.region 7 _ _) _) _) 80 (fun (x : Nat × Unit) => [(2, .ptr 1000 []), (3, .ptr 2000 []), (5, .d (.int .i64 ((16 + x.1 : Nat) : Int)))]) (fun x => [(1000, .var (.d (.arr 64 1 (List.replicate 64 (.int .u32 0))))), (2000, .var (.d (.arr 64 1 (padW (sched bl x.1)))))]) (fun x => 48 - x.1) (fun x => x.1 ≤ 48) (0, ()) [] ?_ ?_ ?_ ?_ ?_ (fun x hM => ?_)
                 | refine vc_nextI (x.1 + 1, ()) [] ?_ ?_ ?_ ?_ ?_ ?_ | refine vc_nextI (i + 1 : Nat) [] ?_ ?_ ?_ ?_ ?_ ?_ | refine vc_pure (turn_ok (ga x.1 (by omega)) 7 (by decide)) ?_ ?_ ?_
                 | refine vc_pure (turn_ok (ga x.1 (by omega)) 18 (by decide)) ?_ ?_ ?_ | refine vc_pure (turn_ok (gb x.1 (by omega)) 17 (by decide)) ?_ ?_ ?_ | refine vc_pure (turn_ok (gb x.1 (by omega)) 19 (by decide)) ?_ ?_ ?_
                 | refine vc_weakf [] ?_ ?_ ?_ | refine vc_and ?_ ?_ | refine vc_ret [] [] ?_)
          | ((with_reducible first | refine vc_caseD (fun h => ?_) (fun h => ?_) | refine vc_caseN (fun h => ?_) (fun h => ?_)) <;> try (exfalso; omega))
          | ((with_reducible refine vc_case (fun h => ?_) (fun h => ?_)) <;> (try simp only [Bool.cond_true_left, Bool.cond_false_right, Bool.cond_true_right, Bool.cond_false_left, Bool.and_eq_true, Bool.or_eq_true, Bool.and_eq_false_iff, Bool.or_eq_false_iff, Bool.not_eq_true', Bool.not_eq_false', Bool.not_eq_true, Bool.not_eq_false, Bool.not_not, decide_eq_true_eq, decide_eq_false_iff_not, beq_iff_eq, beq_eq_false_iff_ne, bne_iff_ne, bne_eq_false_iff_eq, ne_eq, Classical.not_not, reduceCtorEq, false_or, or_false, true_and, and_true, Bool.false_eq_true, Bool.true_eq_false] at h) <;> try (exfalso; first | omega | (simp at h; done)))))
  all_goals (try dsimp only)
  all_goals first
    | with_reducible rfl
    | omega
    | (show (0 : Int) ≤ _; decide)
    | exact ⟨by omega, by omega⟩
    | (show D.int .i64 _ = D.int .i64 _; first | rfl | (congr 1; rw [wrap64_id (by omega) (by omega)]; omega))
    | skip
  all_goals first
    | (have hm := hM
       first
       | (have e : x.1 = 48 := by omega
          rw [e, padW_full (sched_length bl 48)]; done)
       | (have hx : x.1 < 48 := by omega
          simp only [r1 x.1 hx, r2 x.1 hx, r3 x.1 hx, r4 x.1 hx, Int.toNat_natCast]
          first
          | exact ⟨by omega, by omega⟩
          | (rw [r0 x.1 _ (by omega)]; exact ⟨⟨by omega, trivial⟩, rfl⟩))
       | (have hx : x.1 < 48 := by omega
          rw [ga x.1 hx, gb x.1 hx, gc x.1 hx, gd x.1 hx]
          have s1 : ∀ x : W32, shrI .u32 (wI x) 3 = wI (x >>> 3) := fun x => w_shr x (k := 3) (by omega)
          have s2 : ∀ x : W32, shrI .u32 (wI x) 10 = wI (x >>> 10) := fun x => w_shr x (k := 10) (by omega)
          simp only [s1, s2, w_xor, w_add, Int.toNat_natCast]
          exact congrArg (D.arr 64 1) (r7 x.1 hx)))
    | (have hi := hI
       have q1 : IntKind.i64.wrap ((i : Int).tdiv 4) = ((i / 4 : Nat) : Int) := by
         rw [Int.tdiv_eq_ediv_of_nonneg (by omega), wrap64_id (by omega) (by omega)]; omega
       first
       | (have e : i = 64 := by omega
          rw [e, wP_all]; done)
       | (rw [q1]; exact ⟨by omega, by omega⟩)
       | (rw [q1]; omega)
       | (have hlt : i / 4 < (wP bl i).length := by rw [wP_length]; omega
          have a1 := w8_get (v := wP bl i) (i / 4) hlt
          rw [q1, Int.toNat_natCast, a1]; exact ⟨⟨by omega, trivial⟩, rfl⟩)
       | (rw [Int.toNat_natCast, getD_byte (by omega)]; exact ⟨⟨by omega, by omega⟩, rfl⟩)
       | (have hlt : i / 4 < (wP bl i).length := by rw [wP_length]; omega
          have a1 := w8_get (v := wP bl i) (i / 4) hlt
          have a2 : (bl.map byteD).getD i .nilp = byteD (bl.getD i 0) := getD_byte (by omega)
          have a3 := wP_get bl i (show i / 4 < 64 by omega)
          rw [show min 4 (i - 4 * (i / 4)) = i % 4 by omega] at a3
          have a4 : (byteD (bl.getD i 0)).toInt = ((bl.getD i 0).toNat : Int) := rfl
          have a5 : (wD ((wP bl i).getD (i / 4) 0)).toInt = wI (wacc bl (i / 4) (i % 4)) := by rw [a3]; rfl
          have a6 : (256 : Int) = wI c256 := rfl
          rw [q1, Int.toNat_natCast, Int.toNat_natCast, a1, a2, a4, a5, bW_wrap, a6, w_mul, w_add]
          exact congrArg (D.arr 64 1) (wP_set bl (by omega))))
    | rfl
    | exact congrArg (D.arr 64 1) (wP_zero bl).symm

end Go.Proofs.Ytdceegllpcepnaa

/-
The reference's blocks and sums.
-/
set_option linter.unusedSimpArgs false
set_option linter.unusedVariables false
namespace Go.Proofs.Ytdceegllpcepnaa
open Go.Sym
set_option maxRecDepth 10000
set_option maxHeartbeats 8000000

theorem sround_ref (v : List W32) (k w : W32) : (sround v k w).map wD = [D.int .u32 (wI (v.getD 7 0 + (rotr (v.getD 4 0) 6 ^^^ rotr (v.getD 4 0) 11 ^^^ rotr (v.getD 4 0) 25) + (v.getD 4 0 &&& v.getD 5 0 ^^^ ~~~ v.getD 4 0 &&& v.getD 6 0) + k + w + (rotr (v.getD 0 0) 2 ^^^ rotr (v.getD 0 0) 13 ^^^ rotr (v.getD 0 0) 22) + (v.getD 0 0 &&& v.getD 1 0 ^^^ v.getD 0 0 &&& v.getD 2 0 ^^^ v.getD 1 0 &&& v.getD 2 0))),
    D.int .u32 (wI (v.getD 0 0)), D.int .u32 (wI (v.getD 1 0)), D.int .u32 (wI (v.getD 2 0)), D.int .u32 (wI (v.getD 3 0 + (v.getD 7 0 + (rotr (v.getD 4 0) 6 ^^^ rotr (v.getD 4 0) 11 ^^^ rotr (v.getD 4 0) 25) + (v.getD 4 0 &&& v.getD 5 0 ^^^ ~~~ v.getD 4 0 &&& v.getD 6 0) + k + w))), D.int .u32 (wI (v.getD 4 0)), D.int .u32 (wI (v.getD 5 0)), D.int .u32 (wI (v.getD 6 0))] := by
  rw [BitVec.add_assoc (_ + w)]
  rfl

theorem block_ok (hs : List W32) (bl : List UInt8) (hh : hs.length = 8) (hb : bl.length = 64) :
    LocalCall Try.prog 68 [.d (.arr 8 1 (hs.map wD)), .d (.sl (bl.map byteD))] [] [] (one [.d (.arr 8 1 ((sblock hs bl).map wD))]) [] := by
  have hV : ∀ t, (srounds sK (sched bl 48) hs t).length = 8 := srounds_length _ _ hh
  have g : ∀ t k, k < 8 → ((srounds sK (sched bl 48) hs t).map wD).getD k .nilp = wD ((srounds sK (sched bl 48) hs t).getD k 0) := fun t k hk => w8_get k (by rw [hV]; exact hk)
  have g0 : ∀ t, (((srounds sK (sched bl 48) hs t).map wD).getD (Int.toNat 0) .nilp).toInt = wI ((srounds sK (sched bl 48) hs t).getD 0 0) := fun t => by rw [show Int.toNat 0 = 0 from rfl, g t 0 (by omega)]; rfl
  have g4 : ∀ t, (((srounds sK (sched bl 48) hs t).map wD).getD (Int.toNat 4) .nilp).toInt = wI ((srounds sK (sched bl 48) hs t).getD 4 0) := fun t => by rw [show Int.toNat 4 = 4 from rfl, g t 4 (by omega)]; rfl
  refine vc_fn mixed Try.func68 rfl rfl [] (vc_chk rfl) ?_
  repeat' (first
      | ((with_reducible refine vc_chk ?_); first | decide +kernel | rfl)
      | (with_reducible refine vc_side0 ?_; rfl)
      | (with_reducible first
           | refine vc_true ?_ | refine vc_true2 ?_ | refine vc_side ?_ ?_ | refine vc_triv | refine vc_later ?_ | refine vc_caseT ?_ | refine vc_caseF ?_ | refine vc_cons ?_ | refine vc_nil ?_ ?_ | refine vc_seq ?_
              | refine vc_region ?_ | refine vc_cond ?_ | refine vc_block ?_ | refine vc_retc ?_ | refine vc_exit ?_ | refine vc_skip ?_ | refine vc_scope ?_ | refine vc_label ?_ | refine vc_goto ?_ | refine vc_wkSl0
              | refine vc_wkHp0 | refine vc_eqAVs0 | refine vc_preG0 | refine vc_wkSl ?_ ?_ | refine vc_wkHp ?_ ?_ | refine vc_eqAVs ?_ ?_ | refine vc_preG ?_ ?_ | refine vc_side0 ?_ | refine vc_pure (words_ok bl hb) ?_ ?_ ?_
              | refine vc_pure round_ok ?_ ?_ ?_
              | refine vc_loopI (y := .seq (.seq (.region 5 _ _) _) _) 124 (fun (t : Nat) => [(2, .ptr 1000 []), (4, .ptr 1004 []), (5, .ptr 2008 []), (6, .ptr 3004 []), (7, .ptr 4004 []), (8, .d (.int .i64 (t : Int)))]) (fun t => [(1000, .var (.d (.arr 8 1 (hs.map wD)))), (1004, .var (.d (.arr 8 1 (List.replicate 8 (.int .u32 0))))), (2008, .var (.d (.arr 64 1 ((sched bl 48).map wD)))), (3004, .var (.d (.arr 64 1 (sK.map wD)))), (4004, .var (.d (.arr 8 1 ((srounds sK (sched bl 48) hs t).map wD))))]) (fun t => 64 - t) (fun t => t ≤ 64) 0 [] ?_ ?_ ?_ ?_ ?_ (fun t hI => ?_)
              | refine vc_loopI (y := .seq (.seq (.region 14 _ _) _) _) 124 (fun (x : Nat × Unit) => [(2, .ptr 1000 []), (4, .ptr 1004 []), (7, .ptr 4004 []), (14, .d (.int .i64 (x.1 : Int)))]) (fun x => [(1000, .var (.d (.arr 8 1 ((addW hs (srounds sK (sched bl 48) hs 64) x.1).map wD)))), (1004, .var (.d (.arr 8 1 (List.replicate 8 (.int .u32 0))))), (4004, .var (.d (.arr 8 1 ((srounds sK (sched bl 48) hs 64).map wD))))]) (fun x => 8 - x.1) (fun x => x.1 ≤ 8) (0, ()) [] ?_ ?_ ?_ ?_ ?_ (fun x hM => ?_)
              | refine vc_nextI (t + 1 : Nat) [] ?_ ?_ ?_ ?_ ?_ ?_ | refine vc_nextI (x.1 + 1, ()) [] ?_ ?_ ?_ ?_ ?_ ?_ | refine vc_pure (turn_ok (g0 t) 2 (by decide)) ?_ ?_ ?_
              | refine vc_pure (turn_ok (g0 t) 13 (by decide)) ?_ ?_ ?_ | refine vc_pure (turn_ok (g0 t) 22 (by decide)) ?_ ?_ ?_ | refine vc_pure (turn_ok (g4 t) 6 (by decide)) ?_ ?_ ?_
              | refine vc_pure (turn_ok (g4 t) 11 (by decide)) ?_ ?_ ?_ | refine vc_pure (turn_ok (g4 t) 25 (by decide)) ?_ ?_ ?_ | refine vc_weakf [] ?_ ?_ ?_ | refine vc_and ?_ ?_ | refine vc_ret [] [] ?_)
      | ((with_reducible first | refine vc_caseD (fun h => ?_) (fun h => ?_) | refine vc_caseN (fun h => ?_) (fun h => ?_)) <;> try (exfalso; omega))
      | ((with_reducible refine vc_case (fun h => ?_) (fun h => ?_)) <;> (try simp only [Bool.cond_true_left, Bool.cond_false_right, Bool.cond_true_right, Bool.cond_false_left, Bool.and_eq_true, Bool.or_eq_true, Bool.and_eq_false_iff, Bool.or_eq_false_iff, Bool.not_eq_true', Bool.not_eq_false', Bool.not_eq_true, Bool.not_eq_false, Bool.not_not, decide_eq_true_eq, decide_eq_false_iff_not, beq_iff_eq, beq_eq_false_iff_ne, bne_iff_ne, bne_eq_false_iff_eq, ne_eq, Classical.not_not, reduceCtorEq, false_or, or_false, true_and, and_true, Bool.false_eq_true, Bool.true_eq_false] at h) <;> try (exfalso; first | omega | (simp at h; done)))
      | (conv in Vc _ => arg 1; whnf
         first
          | (with_reducible refine vc_side0 ?_; rfl)
          | (with_reducible first
              | refine vc_true ?_ | refine vc_true2 ?_ | refine vc_side ?_ ?_ | refine vc_triv | refine vc_later ?_ | refine vc_caseT ?_ | refine vc_caseF ?_ | refine vc_cons ?_ | refine vc_nil ?_ ?_ | refine vc_seq ?_
                 | refine vc_region ?_ | refine vc_cond ?_ | refine vc_block ?_ | refine vc_retc ?_ | refine vc_exit ?_ | refine vc_skip ?_ | refine vc_scope ?_ | refine vc_label ?_ | refine vc_goto ?_ | refine vc_wkSl0
                 | refine vc_wkHp0 | refine vc_eqAVs0 | refine vc_preG0 | refine vc_wkSl ?_ ?_ | refine vc_wkHp ?_ ?_ | refine vc_eqAVs ?_ ?_ | refine vc_preG ?_ ?_ | refine vc_side0 ?_ | refine vc_pure (words_ok bl hb) ?_ ?_ ?_
                 | refine vc_pure round_ok ?_ ?_ ?_
                 | refine vc_loopI (y := .seq (.seq (.region 5 _ _) _) _) 124 (fun (t : Nat) => [(2, .ptr 1000 []), (4, .ptr 1004 []), (5, .ptr 2008 []), (6, .ptr 3004 []), (7, .ptr 4004 []), (8, .d (.int .i64 (t : Int)))]) (fun t => [(1000, .var (.d (.arr 8 1 (hs.map wD)))), (1004, .var (.d (.arr 8 1 (List.replicate 8 (.int .u32 0))))), (2008, .var (.d (.arr 64 1 ((sched bl 48).map wD)))), (3004, .var (.d (.arr 64 1 (sK.map wD)))), (4004, .var (.d (.arr 8 1 ((srounds sK (sched bl 48) hs t).map wD))))]) (fun t => 64 - t) (fun t => t ≤ 64) 0 [] ?_ ?_ ?_ ?_ ?_ (fun t hI => ?_)
                 | refine vc_loopI (y := .seq (.seq (.region 14 _ _) _) _) 124 (fun (x : Nat × Unit) => [(2, .ptr 1000 []), (4, .ptr 1004 []), (7, .ptr 4004 []), (14, .d (.int .i64 (x.1 : Int)))]) (fun x => [(1000, .var (.d (.arr 8 1 ((addW hs (srounds sK (sched bl 48) hs 64) x.1).map wD)))), (1004, .var (.d (.arr 8 1 (List.replicate 8 (.int .u32 0))))), (4004, .var (.d (.arr 8 1 ((srounds sK (sched bl 48) hs 64).map wD))))]) (fun x => 8 - x.1) (fun x => x.1 ≤ 8) (0, ()) [] ?_ ?_ ?_ ?_ ?_ (fun x hM => ?_)
                 | refine vc_nextI (t + 1 : Nat) [] ?_ ?_ ?_ ?_ ?_ ?_ | refine vc_nextI (x.1 + 1, ()) [] ?_ ?_ ?_ ?_ ?_ ?_ | refine vc_pure (turn_ok (g0 t) 2 (by decide)) ?_ ?_ ?_
                 | refine vc_pure (turn_ok (g0 t) 13 (by decide)) ?_ ?_ ?_ | refine vc_pure (turn_ok (g0 t) 22 (by decide)) ?_ ?_ ?_ | refine vc_pure (turn_ok (g4 t) 6 (by decide)) ?_ ?_ ?_
                 | refine vc_pure (turn_ok (g4 t) 11 (by decide)) ?_ ?_ ?_ | refine vc_pure (turn_ok (g4 t) 25 (by decide)) ?_ ?_ ?_ | refine vc_weakf [] ?_ ?_ ?_ | refine vc_and ?_ ?_ | refine vc_ret [] [] ?_)
          | ((with_reducible first | refine vc_caseD (fun h => ?_) (fun h => ?_) | refine vc_caseN (fun h => ?_) (fun h => ?_)) <;> try (exfalso; omega))
          | ((with_reducible refine vc_case (fun h => ?_) (fun h => ?_)) <;> (try simp only [Bool.cond_true_left, Bool.cond_false_right, Bool.cond_true_right, Bool.cond_false_left, Bool.and_eq_true, Bool.or_eq_true, Bool.and_eq_false_iff, Bool.or_eq_false_iff, Bool.not_eq_true', Bool.not_eq_false', Bool.not_eq_true, Bool.not_eq_false, Bool.not_not, decide_eq_true_eq, decide_eq_false_iff_not, beq_iff_eq, beq_eq_false_iff_ne, bne_iff_ne, bne_eq_false_iff_eq, ne_eq, Classical.not_not, reduceCtorEq, false_or, or_false, true_and, and_true, Bool.false_eq_true, Bool.true_eq_false] at h) <;> try (exfalso; first | omega | (simp at h; done)))))
  all_goals (try dsimp only)
  all_goals first
    | with_reducible rfl
    | omega
    | exact ⟨by omega, by omega⟩
    | (show D.int .i64 _ = D.int .i64 _; first | rfl | (congr 1; rw [wrap64_id (by omega) (by omega)]; omega))
    | ((repeat' apply And.intro) <;> first | trivial | decide)
    | skip
  all_goals first
    | (have hm := hM
       have hW : (srounds sK (sched bl 48) hs 64).length = 8 := hV 64
       first
       | (have ht : x.1 < 8 := by omega
          have a1 := w8_get (v := srounds sK (sched bl 48) hs 64) x.1 (by rw [hV]; exact ht)
          rw [Int.toNat_natCast, a1]
          exact ⟨⟨by omega, trivial⟩, rfl⟩)
       | (have ht : x.1 < 8 := by omega
          have a2 := w8_get (v := addW hs (srounds sK (sched bl 48) hs 64) x.1) x.1 (by rw [addW_length]; exact ht)
          rw [Int.toNat_natCast, a2]
          exact ⟨⟨by omega, trivial⟩, rfl⟩)
       | (have ht : x.1 < 8 := by omega
          have a1 := w8_get (v := srounds sK (sched bl 48) hs 64) x.1 (by rw [hV]; exact ht)
          have a2 := w8_get (v := addW hs (srounds sK (sched bl 48) hs 64) x.1) x.1 (by rw [addW_length]; exact ht)
          rw [Int.toNat_natCast, a1, a2, addW_get _ _ ht]
          have e1 : (wD (hs.getD x.1 0)).toInt = wI (hs.getD x.1 0) := rfl
          have e2 : (wD ((srounds sK (sched bl 48) hs 64).getD x.1 0)).toInt = wI ((srounds sK (sched bl 48) hs 64).getD x.1 0) := rfl
          rw [e1, e2, w_add]
          exact congrArg (D.arr 8 1) (addW_set hs (srounds sK (sched bl 48) hs 64) ht))
       | (have e : x.1 = 8 := by omega
          rw [e]
          rfl)
       | skip)
    | (have ht := hI
       (try simp only [n0, n1, n2, n3, n4, n5, n6, n7, n8, Int.toNat_natCast])
       first
       | (rw [g t _ (by omega)]; exact ⟨⟨by omega, trivial⟩, rfl⟩)
       | (rw [w8_get t (by rw [sched_length]; omega)]; exact ⟨⟨by omega, trivial⟩, rfl⟩)
       | (rw [w8_get t (show t < sK.length from (by omega : t < 64))]; exact ⟨⟨by omega, trivial⟩, rfl⟩)
       | (have gi : ∀ k, k < 8 → (((srounds sK (sched bl 48) hs t).map wD).getD k .nilp).toInt = wI ((srounds sK (sched bl 48) hs t).getD k 0) := fun k hk => by rw [g t k hk]; rfl
          have gk : ((sK.map wD).getD t .nilp).toInt = wI (sK.getD t 0) := by rw [w8_get t (show t < sK.length from (by omega : t < 64))]; rfl
          have gw : (((sched bl 48).map wD).getD t .nilp).toInt = wI ((sched bl 48).getD t 0) := by rw [w8_get t (by rw [sched_length]; omega)]; rfl
          simp only [gi 0 (by omega), gi 1 (by omega), gi 2 (by omega), gi 3 (by omega), gi 4 (by omega), gi 5 (by omega), gi 6 (by omega), gi 7 (by omega), gk, gw, w_not2, w_xor, w_and, w_add]
          exact congrArg (D.arr 8 1) (sround_ref _ _ _).symm)
       | (have e : t = 64 := by omega
          subst e
          first
          | with_reducible rfl
          | (rw [addW_zero _ hh]; done))
       | skip)
    | with_reducible rfl
    | exact congrArg (D.arr 8 1) rfl
    | skip

end Go.Proofs.Ytdceegllpcepnaa

/-
The reference's sum.
-/
set_option linter.unusedSimpArgs false
set_option linter.unusedVariables false
namespace Go.Proofs.Ytdceegllpcepnaa
open Go.Sym
set_option maxRecDepth 10000
set_option maxHeartbeats 8000000

/-- The state behind so many blocks. -/
def sAt (a : List UInt8) (j : Nat) : List W32 := sblocks sFirst (a.take (64 * j))

theorem sAt_zero (a : List UInt8) : sAt a 0 = sFirst := by
  unfold sAt
  rw [sblocks_small (by simp)]

theorem sAt_length (a : List UInt8) (j : Nat) : (sAt a j).length = 8 := sblocks_length rfl

theorem sAt_next {a : List UInt8} {j : Nat} (h : 64 * j + 64 ≤ a.length) : sblock (sAt a j) ((a.drop (64 * j)).take 64) = sAt a (j + 1) := by
  unfold sAt
  have e : a.take (64 * (j + 1)) = a.take (64 * j) ++ (a.drop (64 * j)).take 64 := by
    rw [show 64 * (j + 1) = 64 * j + 64 by omega, List.take_add]
  have hl : ((a.drop (64 * j)).take 64).length = 64 := by rw [List.length_take, List.length_drop]; omega
  have t : ((a.drop (64 * j)).take 64).take 64 = (a.drop (64 * j)).take 64 := List.take_of_length_le (by omega)
  have d : ((a.drop (64 * j)).take 64).drop 64 = [] := List.drop_of_length_le (by omega)
  rw [e, sblocks_append _ _ _ (by rw [List.length_take]; omega), sblocks_big (m := (a.drop (64 * j)).take 64) (by omega), t, d, sblocks_small (m := []) (by simp)]

theorem sAt_all {a : List UInt8} {j : Nat} (h : a.length < 64 * j + 64) (h2 : 64 * j ≤ a.length) : sAt a j = sblocks sFirst a := by
  unfold sAt
  rw [sblocks_rest sFirst a]
  congr 2; omega

theorem shaB_of (b : List UInt8) (h : b.length < 2 ^ 60) : wBytes (sblocks sFirst (b ++ spad b.length)) = shaB b := by
  unfold shaB
  rw [Nat.mod_eq_of_lt (show b.length < 2 ^ 64 by omega)]

theorem rSum_ok (b : List UInt8) (hl : b.length < 2 ^ 28) : LocalCall Try.prog 49 [.d (.sl (b.map byteD))] [] [] (one [.d (.arr 32 1 ((shaB b).map byteD))]) [] := by
  have hpl : (spad b.length).length ≤ 72 := by rw [spad_length]; omega
  have hA : (b ++ spad b.length).length = b.length + (spad b.length).length := List.length_append
  have hu : IntKind.u64.wrap ((b.map byteD).length : Int) = (b.length : Int) := by rw [List.length_map, u64_wrap]; omega
  have hp : LocalCall Try.prog 66 [.d (.int .u64 (IntKind.u64.wrap ((b.map byteD).length : Int)))] [] [] (one [.d (.sl ((spad b.length).map byteD))]) [] := by rw [hu]; exact rPad_ok b.length (by omega)
  generalize hAe : b ++ spad b.length = A at *
  have lA : (A.map byteD).length = A.length := List.length_map _
  have hbl : ∀ j, 64 * j + 64 ≤ A.length → ((A.drop (64 * j)).take 64).length = 64 := fun j h => by rw [List.length_take, List.length_drop]; omega
  have w64 : ∀ j, 64 * j ≤ A.length → IntKind.i64.wrap (((64 * j : Nat) : Int) + 64) = ((64 * j + 64 : Nat) : Int) := fun j h => by rw [wrap64_id (by omega) (by omega)]; rfl
  have hb2 : ∀ j, 64 * j ≤ A.length → IntKind.i64.wrap (((64 * j : Nat) : Int) + 64) ≤ ((A.map byteD).length : Int) → ((A.drop (64 * j)).take 64).length = 64 := fun j h1 h2 => hbl j (by rw [w64 j h1, lA] at h2; omega)
  have hS := sblocks_length (m := A) (h := sFirst) rfl
  have hd : wBytes (sblocks sFirst A) = shaB b := by rw [← hAe]; exact shaB_of b (by omega)
  refine vc_fn mixed Try.func49 rfl rfl [(5, [3])] (vc_chk rfl) ?_
  repeat' (first
      | ((with_reducible refine vc_chk ?_); first | decide +kernel | rfl)
      | (with_reducible refine vc_side0 ?_; rfl)
      | (with_reducible first
           | refine vc_true ?_ | refine vc_true2 ?_ | refine vc_side ?_ ?_ | refine vc_triv | refine vc_later ?_ | refine vc_caseT ?_ | refine vc_caseF ?_ | refine vc_cons ?_ | refine vc_nil ?_ ?_ | refine vc_seq ?_
              | refine vc_region ?_ | refine vc_cond ?_ | refine vc_block ?_ | refine vc_retc ?_ | refine vc_exit ?_ | refine vc_skip ?_ | refine vc_scope ?_ | refine vc_label ?_ | refine vc_goto ?_ | refine vc_wkSl0
              | refine vc_wkHp0 | refine vc_eqAVs0 | refine vc_preG0 | refine vc_wkSl ?_ ?_ | refine vc_wkHp ?_ ?_ | refine vc_eqAVs ?_ ?_ | refine vc_preG ?_ ?_ | refine vc_side0 ?_ | refine vc_pure hp ?_ ?_ ?_
              | refine vc_pure first_ok ?_ ?_ ?_
              | refine vc_loopI (y := .seq (.seq (.region 6 _ _) _) _) 50 (fun (j : Nat) => [(2, .ptr 1000 []), (3, .d (.sl (A.map byteD))), (4, .ptr 5004 []), (5, .d (.int .i64 ((64 * j : Nat) : Int)))]) (fun j => [(1000, .var (.d (.arr 32 1 (List.replicate 32 (.int .u8 0))))), (5004, .var (.d (.arr 8 1 ((sAt A j).map wD))))]) (fun j => A.length - 64 * j) (fun j => 64 * j ≤ A.length) 0 [] ?_ ?_ ?_ ?_ ?_ (fun j hI => ?_)
              | refine vc_call [] (block_ok (sAt A j) ((A.drop (64 * j)).take 64) (sAt_length _ _) (hb2 j hI h)) ?_
              | refine vc_loopI (y := .seq (.seq (.region 11 _ _) _) _) 50 (fun (x : Nat × Unit) => [(2, .ptr 1000 []), (4, .ptr 5004 []), (6, .ptr 10000 []), (7, .d (.int .i64 (x.1 : Int)))]) (fun x => [(1000, .var (.d (.arr 32 1 (List.replicate 32 (.int .u8 0))))), (5004, .var (.d (.arr 8 1 ((sblocks sFirst A).map wD)))), (10000, .var (.d (.arr 32 1 ((dB (sblocks sFirst A) x.1).map byteD))))]) (fun x => 32 - x.1) (fun x => x.1 ≤ 32) (0, ()) [] ?_ ?_ ?_ ?_ ?_ (fun x hM => ?_)
              | refine vc_nextI (j + 1 : Nat) [] ?_ ?_ ?_ ?_ ?_ ?_ | refine vc_nextI (x.1 + 1, ()) [] ?_ ?_ ?_ ?_ ?_ ?_ | refine vc_weakf [] ?_ ?_ ?_ | refine vc_and ?_ ?_ | refine vc_ret [] [] ?_)
      | ((with_reducible first | refine vc_caseD (fun h => ?_) (fun h => ?_) | refine vc_caseN (fun h => ?_) (fun h => ?_)) <;> try (exfalso; omega))
      | ((with_reducible refine vc_case (fun h => ?_) (fun h => ?_)) <;> (try simp only [Bool.cond_true_left, Bool.cond_false_right, Bool.cond_true_right, Bool.cond_false_left, Bool.and_eq_true, Bool.or_eq_true, Bool.and_eq_false_iff, Bool.or_eq_false_iff, Bool.not_eq_true', Bool.not_eq_false', Bool.not_eq_true, Bool.not_eq_false, Bool.not_not, decide_eq_true_eq, decide_eq_false_iff_not, beq_iff_eq, beq_eq_false_iff_ne, bne_iff_ne, bne_eq_false_iff_eq, ne_eq, Classical.not_not, reduceCtorEq, false_or, or_false, true_and, and_true, Bool.false_eq_true, Bool.true_eq_false] at h) <;> try (exfalso; first | omega | (simp at h; done)))
      | (conv in Vc _ => arg 1; whnf
         first
          | (with_reducible refine vc_side0 ?_; rfl)
          | (with_reducible first
              | refine vc_true ?_ | refine vc_true2 ?_ | refine vc_side ?_ ?_ | refine vc_triv | refine vc_later ?_ | refine vc_caseT ?_ | refine vc_caseF ?_ | refine vc_cons ?_ | refine vc_nil ?_ ?_ | refine vc_seq ?_
                 | refine vc_region ?_ | refine vc_cond ?_ | refine vc_block ?_ | refine vc_retc ?_ | refine vc_exit ?_ | refine vc_skip ?_ | refine vc_scope ?_ | refine vc_label ?_ | refine vc_goto ?_ | refine vc_wkSl0
                 | refine vc_wkHp0 | refine vc_eqAVs0 | refine vc_preG0 | refine vc_wkSl ?_ ?_ | refine vc_wkHp ?_ ?_ | refine vc_eqAVs ?_ ?_ | refine vc_preG ?_ ?_ | refine vc_side0 ?_ | refine vc_pure hp ?_ ?_ ?_
                 | refine vc_pure first_ok ?_ ?_ ?_
                 | refine vc_loopI (y := .seq (.seq (.region 6 _ _) _) _) 50 (fun (j : Nat) => [(2, .ptr 1000 []), (3, .d (.sl (A.map byteD))), (4, .ptr 5004 []), (5, .d (.int .i64 ((64 * j : Nat) : Int)))]) (fun j => [(1000, .var (.d (.arr 32 1 (List.replicate 32 (.int .u8 0))))), (5004, .var (.d (.arr 8 1 ((sAt A j).map wD))))]) (fun j => A.length - 64 * j) (fun j => 64 * j ≤ A.length) 0 [] ?_ ?_ ?_ ?_ ?_ (fun j hI => ?_)
                 | refine vc_call [] (block_ok (sAt A j) ((A.drop (64 * j)).take 64) (sAt_length _ _) (hb2 j hI h)) ?_
                 | refine vc_loopI (y := .seq (.seq (.region 11 _ _) _) _) 50 (fun (x : Nat × Unit) => [(2, .ptr 1000 []), (4, .ptr 5004 []), (6, .ptr 10000 []), (7, .d (.int .i64 (x.1 : Int)))]) (fun x => [(1000, .var (.d (.arr 32 1 (List.replicate 32 (.int .u8 0))))), (5004, .var (.d (.arr 8 1 ((sblocks sFirst A).map wD)))), (10000, .var (.d (.arr 32 1 ((dB (sblocks sFirst A) x.1).map byteD))))]) (fun x => 32 - x.1) (fun x => x.1 ≤ 32) (0, ()) [] ?_ ?_ ?_ ?_ ?_ (fun x hM => ?_)
                 | refine vc_nextI (j + 1 : Nat) [] ?_ ?_ ?_ ?_ ?_ ?_ | refine vc_nextI (x.1 + 1, ()) [] ?_ ?_ ?_ ?_ ?_ ?_ | refine vc_weakf [] ?_ ?_ ?_ | refine vc_and ?_ ?_ | refine vc_ret [] [] ?_)
          | ((with_reducible first | refine vc_caseD (fun h => ?_) (fun h => ?_) | refine vc_caseN (fun h => ?_) (fun h => ?_)) <;> try (exfalso; omega))
          | ((with_reducible refine vc_case (fun h => ?_) (fun h => ?_)) <;> (try simp only [Bool.cond_true_left, Bool.cond_false_right, Bool.cond_true_right, Bool.cond_false_left, Bool.and_eq_true, Bool.or_eq_true, Bool.and_eq_false_iff, Bool.or_eq_false_iff, Bool.not_eq_true', Bool.not_eq_false', Bool.not_eq_true, Bool.not_eq_false, Bool.not_not, decide_eq_true_eq, decide_eq_false_iff_not, beq_iff_eq, beq_eq_false_iff_ne, bne_iff_ne, bne_eq_false_iff_eq, ne_eq, Classical.not_not, reduceCtorEq, false_or, or_false, true_and, and_true, Bool.false_eq_true, Bool.true_eq_false] at h) <;> try (exfalso; first | omega | (simp at h; done)))))
  all_goals (try dsimp only)
  all_goals first
    | with_reducible rfl
    | omega
    | skip
  all_goals first
    | (have hm := hM
       first
       | (show D.int .i64 _ = D.int .i64 _; congr 1; rw [wrap64_id (by omega) (by omega)]; omega)
       | (have e : x.1 = 32 := by omega
          rw [e, dB_all, hd]; done)
       | (have q1 : IntKind.i64.wrap ((x.1 : Int).tdiv 4) = ((x.1 / 4 : Nat) : Int) := by
            rw [Int.tdiv_eq_ediv_of_nonneg (by omega), wrap64_id (by omega) (by omega)]; omega
          have q2 : (x.1 : Int).tmod 4 = ((x.1 % 4 : Nat) : Int) := by
            rw [Int.tmod_eq_emod_of_nonneg (by omega)]; omega
          have q3 : IntKind.u64.wrap (IntKind.i64.wrap (24 - IntKind.i64.wrap (8 * ((x.1 % 4 : Nat) : Int)))) = ((24 - 8 * (x.1 % 4) : Nat) : Int) := by
            rw [wrap64_id (n := 8 * ((x.1 % 4 : Nat) : Int)) (by omega) (by omega), wrap64_id (by omega) (by omega), u64_wrap]; omega
          have a1 := w8_get (v := sblocks sFirst A) (x.1 / 4) (by rw [hS]; omega)
          have a2 : (wD ((sblocks sFirst A).getD (x.1 / 4) 0)).toInt = wI ((sblocks sFirst A).getD (x.1 / 4) 0) := rfl
          have e := wByte_eq (sblocks sFirst A) x.1 (24 - 8 * (x.1 % 4)) rfl
          simp only [q1, q2, q3, Int.toNat_natCast, a1]
          first
          | exact ⟨by omega, by omega⟩
          | omega
          | exact ⟨⟨by omega, trivial⟩, rfl⟩
          | (rw [a2, e]
             exact congrArg (D.arr 32 1) (dB_set _ (by omega)))))
    | (have hi := hI
       (try rw [w64 j hI] at h)
       (try rw [w64 j hI])
       first
       | omega
       | exact ⟨⟨by omega, by omega, by omega⟩, fun y hy => by obtain ⟨c, _, rfl⟩ := List.mem_map.1 hy; rfl⟩
       | (show D.sl _ = D.sl _
          unfold cutD
          rw [Int.toNat_natCast, Int.toNat_natCast, ← List.map_take, ← List.map_drop, List.drop_take, show 64 * j + 64 - 64 * j = 64 by omega]; done)
       | (rw [sAt_next (by omega)]; done)
       | (rw [sAt_all (by omega) (by omega)]; done)
       | rfl
       | exact congrArg (D.arr 32 1) (dB_zero _).symm)
    | exact ⟨⟨trivial, room_small rfl (by rw [List.length_map]; omega)⟩, fun y hy => by obtain ⟨c, _, rfl⟩ := List.mem_map.1 hy; rfl⟩
    | exact ⟨⟨trivial, rfl, room_small rfl (by rw [List.length_append, List.length_map, List.length_map]; omega)⟩, fun y hy => by obtain ⟨c, _, rfl⟩ := List.mem_map.1 hy; rfl⟩
    | (rw [List.drop_zero, List.take_length, ← List.map_append, hAe]; done)
    | (rw [sAt_zero]; done)
    | (rw [sAt_zero]; rfl)
    | rfl

end Go.Proofs.Ytdceegllpcepnaa
