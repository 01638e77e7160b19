import Derived.Test.YtjgkngjeniameaaJ2
import Derived.Test.YtjgkngjeniameaaJ3
import Derived.Test.YtjgkngjeniameaaProg
import Derived.KernelRfl
import Derived.ProofKit
import Derived.Test.YtjgkngjeniameaaRows
import Derived.Tactics
import Derived.Tactics2
import Derived.Defers
import Derived.Recover
import Derived.Laws.Pointers
import Derived.TacticsInMore
import Derived.RegionIn
import Derived.LoopNIn
import Derived.RecoverIn
set_option linter.unusedSimpArgs false
set_option linter.unusedVariables false
namespace Go.Proofs.Ytjgkngjeniameaa
open Go.Sym
set_option maxRecDepth 100000
theorem len2 {α : Type} : ∀ {l : List α}, l.length = 2 → ∃ a b, l = [a, b]
  | [_, _], _ => ⟨_, _, rfl⟩
theorem len3 {α : Type} : ∀ {l : List α}, l.length = 3 → ∃ a b c, l = [a, b, c]
  | [_, _, _], _ => ⟨_, _, _, rfl⟩
theorem okAll2 {p : TypeId → D → Prop} {t0 t1 : TypeId} : ∀ {xs : List D}, okAll p [t0, t1] xs → ∃ a b, xs = [a, b] ∧ p t0 a ∧ p t1 b
  | [_, _], ⟨h0, h1, _⟩ => ⟨_, _, rfl, h0, h1⟩
theorem okAll3 {p : TypeId → D → Prop} {t0 t1 t2 : TypeId} : ∀ {xs : List D}, okAll p [t0, t1, t2] xs → ∃ a b c, xs = [a, b, c] ∧ p t0 a ∧ p t1 b ∧ p t2 c
  | [_, _, _], ⟨h0, h1, h2, _⟩ => ⟨_, _, _, rfl, h0, h1, h2⟩
theorem okAll4 {p : TypeId → D → Prop} {t0 t1 t2 t3 : TypeId} : ∀ {xs : List D}, okAll p [t0, t1, t2, t3] xs → ∃ a b c d, xs = [a, b, c, d] ∧ p t0 a ∧ p t1 b ∧ p t2 c ∧ p t3 d
  | [_, _, _, _], ⟨h0, h1, h2, h3, _⟩ => ⟨_, _, _, _, rfl, h0, h1, h2, h3⟩
theorem byte_of {n : Nat} {y : D} (h : okD Try.prog (n + 1) 5 y) : ∃ c : UInt8, y = byteD c := by
  have hu : Try.prog.underlying 5 = some (.int .u8) := rfl
  simp only [okD, hu] at h
  obtain ⟨m, rfl, hw⟩ := h
  have h2 : 0 ≤ m ∧ m < 256 := by
    simp only [Lit.wf, Bool.and_eq_true, decide_eq_true_eq] at hw
    rw [show IntKind.u8.min = 0 from rfl, show IntKind.u8.max = 255 from rfl] at hw
    omega
  have e : ((UInt8.ofNat m.toNat).toNat : Int) = m := by
    rw [UInt8.toNat_ofNat_of_lt' (show m.toNat < 256 by omega)]; omega
  exact ⟨UInt8.ofNat m.toNat, by simp only [byteD, e]⟩
theorem bytes_of {n : Nat} : ∀ (xs : List D), (∀ y, y ∈ xs → okD Try.prog (n + 1) 5 y) → ∃ bs : List UInt8, xs = bs.map byteD
  | [], _ => ⟨[], rfl⟩
  | x :: xs, h => by
    obtain ⟨c, rfl⟩ := byte_of (h x (by simp))
    obtain ⟨bs, rfl⟩ := bytes_of xs fun y hy => h y (by simp [hy])
    exact ⟨c :: bs, rfl⟩
theorem dig_of {n : Nat} {x : D} (h : okD Try.prog (n + 2) 23 x) : ∃ bs : List UInt8, bs.length = 32 ∧ x = .arr 32 1 (bs.map byteD) := by
  have hu : Try.prog.underlying 23 = some (.array 32 5) := rfl
  have hc : Try.prog.cellsOf 5 = 1 := rfl
  rw [show n + 2 = (n + 1) + 1 from rfl, okD, hu] at h
  obtain ⟨xs, rfl, hl, hx⟩ := h
  obtain ⟨bs, rfl⟩ := bytes_of (n := n) xs hx
  exact ⟨bs, by simpa using hl, by rw [hc]⟩
theorem int_of {n : Nat} {x : D} (h : okD Try.prog (n + 1) 3 x) : ∃ m : Int, x = .int .i64 m ∧ -9223372036854775808 ≤ m ∧ m ≤ 9223372036854775807 := by
  have hu : Try.prog.underlying 3 = some (.int .i64) := rfl
  simp only [okD, hu] at h
  obtain ⟨m, rfl, hw⟩ := h
  refine ⟨m, rfl, ?_⟩
  simp only [Lit.wf, Bool.and_eq_true, decide_eq_true_eq] at hw
  rw [show IntKind.i64.min = -9223372036854775808 from rfl, show IntKind.i64.max = 9223372036854775807 from rfl] at hw
  exact hw
theorem bool_of {n : Nat} {x : D} (h : okD Try.prog (n + 1) 4 x) : ∃ b : Bool, x = .bool b := by
  have hu : Try.prog.underlying 4 = some .bool := rfl
  simp only [okD, hu] at h
  exact h
end Go.Proofs.Ytjgkngjeniameaa

namespace Go.Proofs.Ytjgkngjeniameaa
open Go.Sym
set_option maxRecDepth 100000
theorem uptoAll_append {H : Type} (l r : List (DataW H)) : Rows.uptoBulkAll (l ++ r) = Rows.uptoBulkAll l + Rows.uptoBulkAll r := by
  induction l with
  | nil => simp [Rows.uptoBulkAll]
  | cons x l ih => simp only [List.cons_append, Rows.uptoBulkAll, ih]; omega
mutual
theorem bulk_le {H : Type} : ∀ {x : D} {d : DataW H}, RelD x d → x.bulk ≤ Rows.uptoBulk d
  | _, _, .int _ _ => by simp [D.bulk, Rows.uptoBulk]
  | _, _, .bool _ => by simp [D.bulk, Rows.uptoBulk]
  | _, _, .str s => by simp [D.bulk, Rows.uptoBulk]
  | _, _, .st h => by have := bulks_le h; simp only [D.bulk, Rows.uptoBulk]; omega
  | _, _, .arr h => by have := bulks_le h; simp only [D.bulk, Rows.uptoBulk]; omega
  | _, _, .slnil => by simp [D.bulk, D.bulks, Rows.uptoBulk]
  | _, _, .sl h => by have := bulks_le h; simp only [D.bulk, Rows.uptoBulk]; omega
theorem bulks_le {H : Type} : ∀ {xs : List D} {ds : List (DataW H)}, RelL xs ds → D.bulks xs ≤ Rows.uptoBulkAll ds
  | _, _, .nil => by simp [D.bulks]
  | _, _, .cons h hs => by have := bulk_le h; have := bulks_le hs; simp only [D.bulks, Rows.uptoBulkAll]; omega
end
theorem bulk_pos (x : D) : 1 ≤ x.bulk := by cases x <;> simp [D.bulk]
theorem bulks_len : ∀ xs : List D, xs.length ≤ D.bulks xs
  | [] => by simp [D.bulks]
  | x :: xs => by have := bulk_pos x; have := bulks_len xs; simp only [D.bulks, List.length_cons]; omega
theorem bulk_of {H : Type} {xs : List D} {ds gs : List (DataW H)} (hr : RelL xs ds) (hk : Rows.uptoSmall H (ds ++ gs) = true) : D.bulks xs ≤ 1048576 := by
  have h1 := of_decide_eq_true hk
  rw [uptoAll_append] at h1
  have := bulks_le hr
  omega
theorem u64_of {n : Nat} {x : D} (h : okD Try.prog (n + 1) 25 x) : ∃ m : Nat, x = .int .u64 (m : Int) ∧ m < 2 ^ 64 := by
  have hu : Try.prog.underlying 25 = some (.int .u64) := rfl
  simp only [okD, hu] at h
  obtain ⟨m, rfl, hw⟩ := h
  simp only [Lit.wf, Bool.and_eq_true, decide_eq_true_eq] at hw
  rw [show IntKind.u64.min = 0 from rfl, show IntKind.u64.max = 18446744073709551615 from rfl] at hw
  exact ⟨m.toNat, by rw [Int.toNat_of_nonneg hw.1], by omega⟩
theorem sl_of {n : Nat} {x : D} (h : okD Try.prog (n + 2) 28 x) : ∃ bs : List UInt8, x = .sl (bs.map byteD) := by
  have hu : Try.prog.underlying 28 = some (.slice 5) := rfl
  rw [show n + 2 = (n + 1) + 1 from rfl, okD, hu] at h
  obtain ⟨xs, rfl, _, hx⟩ := h
  obtain ⟨bs, rfl⟩ := bytes_of (n := n) xs hx
  exact ⟨bs, rfl⟩
end Go.Proofs.Ytjgkngjeniameaa

namespace Go.Proofs.Ytjgkngjeniameaa
open Go.Sym
set_option maxRecDepth 10000
set_option maxHeartbeats 4000000
theorem mixed : Try.prog.follows .mixedOrders = true := by decide
theorem room_le {a b k : Nat} (h : Room b 1) (hk : k = 1) (hab : a ≤ b) : Room a k := by
  subst hk
  unfold Room at *
  exact Nat.le_trans (Nat.mul_le_mul_right _ (by omega)) h
theorem beq_ne {a b : Nat} (h : a ≠ b) : a.beq b = false := by
  cases hb : a.beq b with
  | true => exact absurd (Nat.eq_of_beq_eq_true hb) h
  | false => rfl
theorem ren_two {A B : Nat} (h : A ≠ B) {args : List AV} {xs ys : List D} {r : AV} (ha : ∀ n, n ∈ AV.namesL args → n = 1) (hr : ∀ n, n ∈ r.names → n = 1 ∨ n = 2) :
    renOK [(1, A), (2, B)] [(A, 1), (B, 2)] args [(1, .row 1 xs)] [2] r [(2, .row 1 ys), (1, .dead)] = true := by
  have h2 := beq_ne h
  simp only [renOK, Bool.and_eq_true, List.all_eq_true]
  refine ⟨⟨⟨⟨?_, fun n hn => ?_⟩, ?_⟩, fun n hn => ?_⟩, ?_⟩
  · intro n hn
    simp at hn
    rcases hn with rfl | rfl
    · show (renN [(A, 1), (B, 2)] A).beq 1 = true
      simp [renN, lkp]
    · show (renN [(A, 1), (B, 2)] B).beq 2 = true
      simp [renN, lkp, h2]
  · rw [ha n hn]; rfl
  · intro p hp; simp at hp; subst hp; intro n hn; cases hn
  · rcases hr n hn with rfl | rfl <;> rfl
  · intro p hp
    simp at hp
    rcases hp with rfl | rfl <;> exact ⟨rfl, fun n hn => by cases hn⟩
theorem wrapU64_id {n : Int} (h0 : 0 ≤ n) (h1 : n < 18446744073709551616) : IntKind.u64.wrap n = n := by
  have e : IntKind.u64.wrap n = n % 18446744073709551616 := by simp [IntKind.wrap, IntKind.signed, IntKind.bits]
  rw [e]; omega
theorem room_lt {n : Nat} (h : Room n 1) : n < 2 ^ 48 := by unfold Room at h; omega
theorem str_eq (a b : List UInt8) : D.bool ((⟨a.toArray⟩ : ByteArray).toList == (⟨b.toArray⟩ : ByteArray).toList) = D.bool (decide (a = b)) := by
  rw [ByteArray.toList_eq, ByteArray.toList_eq]
  congr 1
  rw [Bool.eq_iff_iff]; simp
theorem size_bytes (l : List UInt8) : ∀ y, y ∈ l.map byteD → y.size = 1 := fun y hy => by
  obtain ⟨c, _, rfl⟩ := List.mem_map.1 hy; rfl
def tD (v : List UInt8) : D := .sl (v.map byteD)
theorem map_at {α : Type} {f : α → D} {xs : List α} {i : Nat} {d : α} (hi : i < xs.length) : (xs.map f).getD i .nilp = f (xs.getD i d) ∧ (Option.map f xs[i]?).getD .nilp = f (xs.getD i d) := by
  rw [List.getD_eq_getElem?_getD, List.getElem?_map, List.getD_eq_getElem?_getD, List.getElem?_eq_getElem hi]; exact ⟨rfl, rfl⟩
theorem bool_no {p : Prop} [Decidable p] (h : ¬ p) : D.bool false = D.bool (decide p) := by rw [decide_eq_false h]
end Go.Proofs.Ytjgkngjeniameaa

namespace Go.Proofs.Ytjgkngjeniameaa
open Go.Sym
set_option maxRecDepth 10000
set_option maxHeartbeats 1000000
def numB (n : Nat) : List UInt8 := if n < 128 then [UInt8.ofNat n] else UInt8.ofNat (n % 128 + 128) :: numB (n / 128)
termination_by n
decreasing_by omega
theorem numB_small {n : Nat} (h : n < 128) : numB n = [UInt8.ofNat n] := by rw [numB, if_pos h]
theorem numB_big {n : Nat} (h : ¬ n < 128) : numB n = UInt8.ofNat (n % 128 + 128) :: numB (n / 128) := by rw [numB, if_neg h]
theorem numB_len_le : ∀ (k n : Nat), n < 2 ^ (7 * k) → 0 < k → (numB n).length ≤ k
  | 0, n, h, hk => by omega
  | k + 1, n, h, _ => by
    by_cases hn : n < 128
    · rw [numB_small hn]; simp
    · rw [numB_big hn]
      have hk : 0 < k := by
        rcases Nat.eq_zero_or_pos k with rfl | hk
        · omega
        · exact hk
      have := numB_len_le k (n / 128) (by rw [show 7 * (k + 1) = 7 * k + 7 by omega, Nat.pow_add] at h; omega) hk
      simp; omega
theorem numB_pos (n : Nat) : 0 < (numB n).length := by
  by_cases hn : n < 128
  · rw [numB_small hn]; simp
  · rw [numB_big hn]; simp
theorem numB_le10 {n : Nat} (h : n < 2 ^ 64) : (numB n).length ≤ 10 := numB_len_le 10 n (by omega) (by omega)
theorem wrap8 (m : Nat) : IntKind.u8.wrap (m : Int) = ((m % 256 : Nat) : Int) := by
  have : IntKind.u8.wrap (m : Int) = (m : Int) % 256 := by simp [IntKind.wrap, IntKind.signed, IntKind.bits]
  rw [this]; omega
theorem byteD_of {k : Nat} (h : k < 256) : byteD (UInt8.ofNat k) = .int .u8 (k : Int) := by
  unfold byteD
  rw [UInt8.toNat_ofNat_of_lt' (show k < 256 by omega)]
theorem or128 (m : Nat) : D.int .u8 (aBits .or .u8 (IntKind.u8.wrap (m : Int)) 128) = byteD (UInt8.ofNat (m % 128 + 128)) := by
  rw [byteD_of (by omega), wrap8]
  have key : ∀ k : Fin 256, aBits .or .u8 ((k.val : Nat) : Int) 128 = ((k.val % 128 + 128 : Nat) : Int) := by decide +kernel
  rw [key ⟨m % 256, by omega⟩]
  congr 2
  show m % 256 % 128 + 128 = _
  omega
theorem low8 {m : Nat} (h : m < 128) : D.int .u8 (IntKind.u8.wrap (m : Int)) = byteD (UInt8.ofNat m) := by
  rw [byteD_of (by omega), wrap8]
  congr 2
  omega
theorem shr7 (m : Nat) : shrI .u64 (m : Int) 7 = ((m / 128 : Nat) : Int) := by
  have hb : IntKind.u64.bits = 64 := rfl
  unfold shrI
  rw [hb, Int.fdiv_eq_ediv_of_nonneg _ (by decide)]
  rfl
theorem numB_step {xs acc : List D} {n m : Nat} (h : ¬ m < 128) (hI : acc ++ (numB m).map byteD = xs ++ (numB n).map byteD) :
    (acc ++ [byteD (UInt8.ofNat (m % 128 + 128))]) ++ (numB (m / 128)).map byteD = xs ++ (numB n).map byteD := by
  rw [numB_big h] at hI
  rw [← hI]; simp
theorem num_ok (xs : List D) (n : Nat) (hn : n < 2 ^ 64) (hroom : Room (xs ++ (numB n).map byteD).length 1) :
    LocalCall Try.prog 64 [.sl 1 [] 1 0 xs.length, .d (.int .u64 (n : Int))] [(1, .row 1 xs)] [2] (one [.sl 2 [] 1 0 (xs ++ (numB n).map byteD).length]) [(2, .row 1 (xs ++ (numB n).map byteD)), (1, .dead)] := by
  refine vc_fn mixed Try.func64 rfl rfl [(0, [7001000])] (vzH rfl) ?_
  repeat' (first | ((with_reducible refine vzH ?_); first | decide +kernel | rfl) | (with_reducible refine vzC ?_; rfl) | (with_reducible first | (refine vzZ ?_; constructor) | refine vzC ?_ | refine vc_loopI 20 (fun (x : List D × Nat) => [(0, .sl 7 [] 1 0 x.1.length), (1, .d (.int .u64 (x.2 : Int)))]) (fun x => [(1, .dead), (7, .row 1 x.1)]) (fun x => x.2) (fun x => x.1 ++ (numB x.2).map byteD = xs ++ (numB n).map byteD ∧ x.2 < 2 ^ 64) (xs, n) [] ?_ ?_ ?_ ?_ ?_ (fun x hI => ?_) | refine vc_nextI (x.1 ++ [byteD (UInt8.ofNat (x.2 % 128 + 128))], x.2 / 128) [(7, 3020)] ?_ ?_ ?_ ?_ ?_ ?_ | refine vc_ret [] [(2, 5016)] ?_ | refine vzB [] ?_ ?_ ?_ | refine vzD ?_ ?_ | refine vc_ret [] [] ?_) | ((with_reducible first | refine vzE (fun h => ?_) (fun h => ?_) | refine vzF (fun h => ?_) (fun h => ?_)) <;> try (exfalso; omega)) | ((with_reducible refine vzG (fun h => ?_) (fun h => ?_)) <;> (try simp at h) <;> try (exfalso; omega)) | ((conv in Vc _ => arg 1; whnf); first | (with_reducible refine vzC ?_; rfl) | (with_reducible first | (refine vzZ ?_; constructor) | refine vzC ?_ | refine vc_loopI 20 (fun (x : List D × Nat) => [(0, .sl 7 [] 1 0 x.1.length), (1, .d (.int .u64 (x.2 : Int)))]) (fun x => [(1, .dead), (7, .row 1 x.1)]) (fun x => x.2) (fun x => x.1 ++ (numB x.2).map byteD = xs ++ (numB n).map byteD ∧ x.2 < 2 ^ 64) (xs, n) [] ?_ ?_ ?_ ?_ ?_ (fun x hI => ?_) | refine vc_nextI (x.1 ++ [byteD (UInt8.ofNat (x.2 % 128 + 128))], x.2 / 128) [(7, 3020)] ?_ ?_ ?_ ?_ ?_ ?_ | refine vc_ret [] [(2, 5016)] ?_ | refine vzB [] ?_ ?_ ?_ | refine vzD ?_ ?_ | refine vc_ret [] [] ?_) | ((with_reducible first | refine vzE (fun h => ?_) (fun h => ?_) | refine vzF (fun h => ?_) (fun h => ?_)) <;> try (exfalso; omega)) | ((with_reducible refine vzG (fun h => ?_) (fun h => ?_)) <;> (try simp at h) <;> try (exfalso; omega))))
  all_goals (try simp only [List.drop_zero, List.take_length, or128, shr7])
  all_goals first
    | rfl
    | exact ⟨trivial, hn⟩
    | omega
    | skip
  all_goals
    obtain ⟨acc, m⟩ := x
    obtain ⟨h1, h2⟩ := hI
    simp only at h1 h2 h ⊢
    rcases Nat.lt_or_ge m 128 with hm | hm
    rotate_left
    · have hm : ¬ m < 128 := by omega
      first
      | (exfalso; omega)
      | exact ⟨numB_step hm h1, by omega⟩
      | refine ⟨⟨by simp, trivial, room_le hroom rfl ?_⟩, fun y hy => ?_⟩
        · rw [← numB_step hm h1]; simp only [List.length_append]; omega
        · simp only [List.mem_singleton] at hy; subst hy; rfl
    · rw [numB_small hm] at h1
      first
      | (exfalso; omega)
      | (rw [low8 hm]; exact h1)
      | (rw [low8 hm]; exact congrArg List.length h1)
      | (rw [low8 hm]; refine ⟨⟨by simp, trivial, room_le hroom rfl (Nat.le_of_eq (congrArg List.length h1))⟩, fun y hy => ?_⟩
         simp only [List.mem_singleton] at hy; subst hy; rfl)
end Go.Proofs.Ytjgkngjeniameaa

namespace Go.Proofs.Ytjgkngjeniameaa
open Go.Sym
set_option maxRecDepth 10000
set_option maxHeartbeats 4000000
theorem same_ok (xs ys : List D) (a b : List UInt8) (hx : xs = a.map byteD) (hy : ys = b.map byteD) : LocalCall Try.prog 19 [.d (.sl xs), .d (.sl ys)] [] [] (one [.d (.bool (decide (a = b)))]) [] := by
  refine vc_fn mixed Try.func19 rfl rfl [] (vzH rfl) ?_
  subst hx hy
  repeat' (first | ((with_reducible refine vzH ?_); first | decide +kernel | rfl) | (with_reducible refine vzC ?_; rfl) | (with_reducible first | (refine vzZ ?_; constructor) | refine vzC ?_ | refine vzB [] ?_ ?_ ?_ | refine vzD ?_ ?_ | refine vc_ret [] [] ?_) | ((with_reducible first | refine vzE (fun h => ?_) (fun h => ?_) | refine vzF (fun h => ?_) (fun h => ?_)) <;> try (exfalso; omega)) | ((with_reducible refine vzG (fun h => ?_) (fun h => ?_)) <;> (try simp at h) <;> try (exfalso; omega)) | ((conv in Vc _ => arg 1; whnf); first | (with_reducible refine vzC ?_; rfl) | (with_reducible first | (refine vzZ ?_; constructor) | refine vzC ?_ | refine vzB [] ?_ ?_ ?_ | refine vzD ?_ ?_ | refine vc_ret [] [] ?_) | ((with_reducible first | refine vzE (fun h => ?_) (fun h => ?_) | refine vzF (fun h => ?_) (fun h => ?_)) <;> try (exfalso; omega)) | ((with_reducible refine vzG (fun h => ?_) (fun h => ?_)) <;> (try simp at h) <;> try (exfalso; omega))))
  all_goals simp only [bytesOf_map]
  all_goals first
    | exact ⟨trivial, trivial⟩
    | (rw [str_eq])
def joinD (ls : List D) : List D := ls.flatMap D.els
theorem joinD_take (ls : List D) {i : Nat} (h : i < ls.length) : joinD (ls.take i) ++ (ls.getD i .nilp).els = joinD (ls.take (i + 1)) := by
  unfold joinD
  rw [List.take_succ_eq_append_getElem h, List.flatMap_append, List.getD_eq_getElem?_getD, List.getElem?_eq_getElem h]
  simp
theorem joinD_sub (ls : List D) (i : Nat) : (joinD (ls.take i)).length ≤ (joinD ls).length := by
  have : joinD ls = joinD (ls.take i) ++ joinD (ls.drop i) := by
    unfold joinD
    rw [← List.flatMap_append, List.take_append_drop]
  rw [this]; simp
theorem join_ok (ls : List D) (hs : ∀ y, y ∈ ls → ∃ l, y = .sl l) (hl : ls.length < 2 ^ 62) (h1 : ∀ y, y ∈ joinD ls → y.size = 1) (hroom : Room (joinD ls).length 1) : LocalCall Try.prog 57 [.d (.sl ls)] [] [] (one [.d (.sl (joinD ls))]) [] := by
  refine vc_fn mixed Try.func57 rfl rfl [(500001, [7001003])] (vzH rfl) ?_
  repeat' (first | ((with_reducible refine vzH ?_); first | decide +kernel | rfl) | (with_reducible refine vzC ?_; rfl) | (with_reducible first | (refine vzZ ?_; constructor) | refine vzC ?_ | refine vc_loopI 18 (fun (i : Nat) => [(0, .d (.sl ls)), (3, .sl 7 [] 1 0 (joinD (ls.take i)).length), (4, .d (.int .i64 (i : Int)))]) (fun i => [(7, .row 1 (joinD (ls.take i)))]) (fun i => ls.length - i) (fun i => i ≤ ls.length) 0 [] ?_ ?_ ?_ ?_ ?_ (fun i hI => ?_) | refine vc_nextI (i + 1) [(7, 6020)] ?_ ?_ ?_ ?_ ?_ ?_ | refine vc_ret [true] [] ?_ | refine vzB [] ?_ ?_ ?_ | refine vzD ?_ ?_ | refine vc_ret [] [] ?_) | ((with_reducible first | refine vzE (fun h => ?_) (fun h => ?_) | refine vzF (fun h => ?_) (fun h => ?_)) <;> try (exfalso; omega)) | ((with_reducible refine vzG (fun h => ?_) (fun h => ?_)) <;> (try simp at h) <;> try (exfalso; omega)) | ((conv in Vc _ => arg 1; whnf); first | (with_reducible refine vzC ?_; rfl) | (with_reducible first | (refine vzZ ?_; constructor) | refine vzC ?_ | refine vc_loopI 18 (fun (i : Nat) => [(0, .d (.sl ls)), (3, .sl 7 [] 1 0 (joinD (ls.take i)).length), (4, .d (.int .i64 (i : Int)))]) (fun i => [(7, .row 1 (joinD (ls.take i)))]) (fun i => ls.length - i) (fun i => i ≤ ls.length) 0 [] ?_ ?_ ?_ ?_ ?_ (fun i hI => ?_) | refine vc_nextI (i + 1) [(7, 6020)] ?_ ?_ ?_ ?_ ?_ ?_ | refine vc_ret [true] [] ?_ | refine vzB [] ?_ ?_ ?_ | refine vzD ?_ ?_ | refine vc_ret [] [] ?_) | ((with_reducible first | refine vzE (fun h => ?_) (fun h => ?_) | refine vzF (fun h => ?_) (fun h => ?_)) <;> try (exfalso; omega)) | ((with_reducible refine vzG (fun h => ?_) (fun h => ?_)) <;> (try simp at h) <;> try (exfalso; omega))))
  all_goals (try simp only [Int.toNat_natCast])
  all_goals first
    | rfl
    | omega
    | (rw [joinD_take ls (by omega)]; done)
    | (congr 1; rw [wrap64_id (by omega) (by omega)]; omega)
    | (refine ⟨⟨by omega, by omega⟩, ?_⟩
       obtain ⟨l, e⟩ := hs (ls.getD i .nilp) (by rw [List.getD_eq_getElem?_getD, List.getElem?_eq_getElem (by omega)]; simp)
       rw [e]; rfl)
    | (refine ⟨⟨trivial, by first | trivial | rfl, room_le hroom rfl ?_⟩, fun y hy => h1 y ?_⟩
       · rw [joinD_take ls (by omega)]; exact joinD_sub ls _
       · unfold joinD
         refine List.mem_flatMap.2 ⟨ls.getD i .nilp, ?_, hy⟩
         rw [List.getD_eq_getElem?_getD, List.getElem?_eq_getElem (by omega)]; simp)
    | (obtain rfl : i = ls.length := by omega
       rw [List.take_length]; done)
    | (obtain rfl : i = ls.length := by omega
       rw [List.take_length]; rw [List.drop_zero, List.take_length]; done)
    | (obtain rfl : i = ls.length := by omega
       rw [List.take_length]; exact ⟨Nat.le_of_eq (Nat.zero_add _), trivial⟩)
    | (obtain rfl : i = ls.length := by omega
       exact ⟨Nat.le_of_eq (Nat.zero_add _), trivial⟩)
theorem pair_join (a b : List D) : joinD [.sl a, .sl b] = a ++ b := by simp [joinD, D.els]
theorem same_b (a b : List UInt8) : LocalCall Try.prog 19 [.d (.sl (a.map byteD)), .d (.sl (b.map byteD))] [] [] (one [.d (.bool (decide (a = b)))]) [] := same_ok _ _ a b rfl rfl
theorem joinD_texts : ∀ ts : List (List UInt8), joinD (ts.map tD) = ts.flatten.map byteD
  | [] => rfl
  | t :: ts => by
    have := joinD_texts ts
    simp only [joinD, List.map_cons, List.flatMap_cons, List.flatten_cons, List.map_append] at this ⊢
    rw [this]; rfl
theorem join_b (ts : List (List UInt8)) (hl : ts.length < 2 ^ 62) (hroom : Room ts.flatten.length 1) : LocalCall Try.prog 57 [.d (.sl (ts.map tD))] [] [] (one [.d (.sl (ts.flatten.map byteD))]) [] := by
  have := join_ok (ts.map tD) (fun y hy => by obtain ⟨t, _, rfl⟩ := List.mem_map.1 hy; exact ⟨_, rfl⟩) (by rw [List.length_map]; exact hl) (by rw [joinD_texts]; exact size_bytes _) (by rw [joinD_texts, List.length_map]; exact hroom)
  rw [joinD_texts] at this
  exact this
theorem same_yes (a : List UInt8) : LocalCall Try.prog 19 [.d (.sl (a.map byteD)), .d (.sl (a.map byteD))] [] [] (one [.d (.bool true)]) [] := by
  have := same_b a a
  rwa [decide_eq_true rfl] at this
end Go.Proofs.Ytjgkngjeniameaa

namespace Go.Proofs.Ytjgkngjeniameaa
open Go.Sym
set_option maxRecDepth 10000
set_option maxHeartbeats 1000000
theorem num_at {A B : Nat} (h : A ≠ B) (xs : List D) (i : Int) (n : Nat) (hi : i = n) (hn : n < 2 ^ 64) (hroom : Room (xs ++ (numB n).map byteD).length 1) :
    LocalCall Try.prog 64 [.sl A [] 1 0 xs.length, .d (.int .u64 i)] [(A, .row 1 xs)] [B] (one [.sl B [] 1 0 (xs ++ (numB n).map byteD).length]) [(B, .row 1 (xs ++ (numB n).map byteD)), (A, .dead)] := by
  subst hi
  exact local_ren [(1, A), (2, B)] [(A, 1), (B, 2)] (num_ok xs n hn hroom) (ren_two h (by simp [AV.namesL, AV.names]) (by simp [one, AV.names]))
theorem num_nil {A B : Nat} (h : A ≠ B) (i : Int) (n : Nat) (hi : i = n) (hn : n < 2 ^ 64) :
    LocalCall Try.prog 64 [.d .nils, .d (.int .u64 i)] [] [A, B] (one [.sl B [] 1 0 ((numB n).map byteD).length]) [(B, .row 1 ((numB n).map byteD)), (A, .dead)] := by
  have := numB_le10 hn
  exact local_nil A 1 (num_at h [] i n hi hn (by unfold Room; simp; omega)) (by simp [hasKey, lkp, beq_ne h.symm]) rfl (by simp [beq_ne h.symm])
theorem text_ok (xs ts : List D) (hts : ∀ y, y ∈ ts → y.size = 1) (hroom : Room (xs ++ (numB ts.length).map byteD ++ ts).length 1) :
    LocalCall Try.prog 66 [.sl 1 [] 1 0 xs.length, .d (.sl ts)] [(1, .row 1 xs)] [2] (one [.sl 2 [] 1 0 (xs ++ (numB ts.length).map byteD ++ ts).length]) [(2, .row 1 (xs ++ (numB ts.length).map byteD ++ ts)), (1, .dead)] := by
  have hl := room_lt hroom
  simp only [List.length_append] at hl
  refine vc_fn mixed Try.func66 rfl rfl [] (vzH rfl) ?_
  have hr1 : Room (xs ++ (numB ts.length).map byteD).length 1 := room_le hroom rfl (by simp only [List.length_append]; omega)
  repeat' (first | ((with_reducible refine vzH ?_); first | decide +kernel | rfl) | (with_reducible refine vzC ?_; rfl) | (with_reducible first | (refine vzZ ?_; constructor) | refine vzC ?_ | refine vc_callU (num_at (A := 1) (B := 3) (by decide) xs _ ts.length (wrapU64_id (by omega) (by omega)) (by omega) hr1) ?_ ?_ | refine vc_ret [] [(2, 2024)] ?_ | refine vzB [] ?_ ?_ ?_ | refine vzD ?_ ?_ | refine vc_ret [] [] ?_) | ((with_reducible first | refine vzE (fun h => ?_) (fun h => ?_) | refine vzF (fun h => ?_) (fun h => ?_)) <;> try (exfalso; omega)) | ((with_reducible refine vzG (fun h => ?_) (fun h => ?_)) <;> (try simp at h) <;> try (exfalso; omega)) | ((conv in Vc _ => arg 1; whnf); first | (with_reducible refine vzC ?_; rfl) | (with_reducible first | (refine vzZ ?_; constructor) | refine vzC ?_ | refine vc_callU (num_at (A := 1) (B := 3) (by decide) xs _ ts.length (wrapU64_id (by omega) (by omega)) (by omega) hr1) ?_ ?_ | refine vc_ret [] [(2, 2024)] ?_ | refine vzB [] ?_ ?_ ?_ | refine vzD ?_ ?_ | refine vc_ret [] [] ?_) | ((with_reducible first | refine vzE (fun h => ?_) (fun h => ?_) | refine vzF (fun h => ?_) (fun h => ?_)) <;> try (exfalso; omega)) | ((with_reducible refine vzG (fun h => ?_) (fun h => ?_)) <;> (try simp at h) <;> try (exfalso; omega))))
  all_goals first | rfl | exact ⟨⟨trivial, trivial, hroom⟩, hts⟩ | exact ⟨⟨trivial, rfl, hroom⟩, hts⟩
theorem text_at {A B : Nat} (h : A ≠ B) (xs ts : List D) (hts : ∀ y, y ∈ ts → y.size = 1) (hroom : Room (xs ++ (numB ts.length).map byteD ++ ts).length 1) :
    LocalCall Try.prog 66 [.sl A [] 1 0 xs.length, .d (.sl ts)] [(A, .row 1 xs)] [B] (one [.sl B [] 1 0 (xs ++ (numB ts.length).map byteD ++ ts).length]) [(B, .row 1 (xs ++ (numB ts.length).map byteD ++ ts)), (A, .dead)] :=
  local_ren [(1, A), (2, B)] [(A, 1), (B, 2)] (text_ok xs ts hts hroom) (ren_two h (by simp [AV.namesL, AV.names]) (by simp [one, AV.names]))
theorem digest_ok (xs ds : List D) (hd : ds.length = 32) (hts : ∀ y, y ∈ ds → y.size = 1) (hroom : Room (xs ++ ds).length 1) :
    LocalCall Try.prog 65 [.sl 1 [] 1 0 xs.length, .d (.arr 32 1 ds)] [(1, .row 1 xs)] [2] (one [.sl 2 [] 1 0 (xs ++ ds).length]) [(2, .row 1 (xs ++ ds)), (1, .dead)] := by
  refine vc_fn mixed Try.func65 rfl rfl [] (vzH rfl) ?_
  repeat' (first | ((with_reducible refine vzH ?_); first | decide +kernel | rfl) | (with_reducible refine vzC ?_; rfl) | (with_reducible first | (refine vzZ ?_; constructor) | refine vzC ?_ | refine vc_ret [] [(2, 2008)] ?_ | refine vzB [] ?_ ?_ ?_ | refine vzD ?_ ?_ | refine vc_ret [] [] ?_) | ((with_reducible first | refine vzE (fun h => ?_) (fun h => ?_) | refine vzF (fun h => ?_) (fun h => ?_)) <;> try (exfalso; omega)) | ((with_reducible refine vzG (fun h => ?_) (fun h => ?_)) <;> (try simp at h) <;> try (exfalso; omega)) | ((conv in Vc _ => arg 1; whnf); first | (with_reducible refine vzC ?_; rfl) | (with_reducible first | (refine vzZ ?_; constructor) | refine vzC ?_ | refine vc_ret [] [(2, 2008)] ?_ | refine vzB [] ?_ ?_ ?_ | refine vzD ?_ ?_ | refine vc_ret [] [] ?_) | ((with_reducible first | refine vzE (fun h => ?_) (fun h => ?_) | refine vzF (fun h => ?_) (fun h => ?_)) <;> try (exfalso; omega)) | ((with_reducible refine vzG (fun h => ?_) (fun h => ?_)) <;> (try simp at h) <;> try (exfalso; omega))))
  all_goals
    have e : List.take (((32 : Nat) : Int).toNat - Int.toNat 0) (List.drop (Int.toNat 0) ds) = ds := by
      show List.take 32 (List.drop 0 ds) = ds
      rw [List.drop_zero, List.take_of_length_le (by omega)]
    simp only [e]
  all_goals first
    | rfl
    | exact ⟨⟨by decide, by decide, by decide⟩, trivial⟩
    | exact ⟨⟨⟨trivial, Nat.le_of_eq hd.symm⟩, trivial, hroom⟩, hts⟩
    | exact ⟨⟨⟨trivial, Nat.le_of_eq hd.symm⟩, rfl, hroom⟩, hts⟩
theorem rstep (m : Nat) : D.int .u8 (IntKind.u8.wrap (IntKind.u64.wrap (128 + (m : Int).tmod 128))) = byteD (UInt8.ofNat (m % 128 + 128)) := by
  have e : (128 + (m : Int).tmod 128) = ((m % 128 + 128 : Nat) : Int) := by
    rw [Int.tmod_eq_emod_of_nonneg (by omega)]; omega
  rw [e, wrapU64_id (by omega) (by omega), wrap8, byteD_of (by omega)]
  congr 2
  omega
theorem rdiv {m : Nat} (h : m < 2 ^ 64) : IntKind.u64.wrap ((m : Int).tdiv 128) = ((m / 128 : Nat) : Int) := by
  have e : (m : Int).tdiv 128 = ((m / 128 : Nat) : Int) := by
    rw [Int.tdiv_eq_ediv_of_nonneg (by omega)]; omega
  rw [e, wrapU64_id (by omega) (by omega)]
theorem rNum_ok (i : Int) (n : Nat) (hi : i = n) (hn : n < 2 ^ 64) : LocalCall Try.prog 58 [.d (.int .u64 i)] [] [] (one [.d (.sl ((numB n).map byteD))]) [] := by
  subst hi
  have h10 := numB_le10 hn
  refine vc_fn mixed Try.func58 rfl rfl [(500001, [7001003])] (vzH rfl) ?_
  repeat' (first | ((with_reducible refine vzH ?_); first | decide +kernel | rfl) | (with_reducible refine vzC ?_; rfl) | (with_reducible first | (refine vzZ ?_; constructor) | refine vzC ?_ | refine vc_loopI 20 (fun (x : List D × Nat) => [(3, .sl 7 [] 1 0 x.1.length), (0, .d (.int .u64 (x.2 : Int)))]) (fun x => [(7, .row 1 x.1)]) (fun x => x.2) (fun x => x.1 ++ (numB x.2).map byteD = (numB n).map byteD ∧ x.2 < 2 ^ 64) ([], n) [] ?_ ?_ ?_ ?_ ?_ (fun x hI => ?_) | refine vc_nextI (x.1 ++ [byteD (UInt8.ofNat (x.2 % 128 + 128))], x.2 / 128) [(7, 4024)] ?_ ?_ ?_ ?_ ?_ ?_ | refine vc_ret [true] [] ?_ | refine vzB [] ?_ ?_ ?_ | refine vzD ?_ ?_ | refine vc_ret [] [] ?_) | ((with_reducible first | refine vzE (fun h => ?_) (fun h => ?_) | refine vzF (fun h => ?_) (fun h => ?_)) <;> try (exfalso; omega)) | ((with_reducible refine vzG (fun h => ?_) (fun h => ?_)) <;> (try simp at h) <;> try (exfalso; omega)) | ((conv in Vc _ => arg 1; whnf); first | (with_reducible refine vzC ?_; rfl) | (with_reducible first | (refine vzZ ?_; constructor) | refine vzC ?_ | refine vc_loopI 20 (fun (x : List D × Nat) => [(3, .sl 7 [] 1 0 x.1.length), (0, .d (.int .u64 (x.2 : Int)))]) (fun x => [(7, .row 1 x.1)]) (fun x => x.2) (fun x => x.1 ++ (numB x.2).map byteD = (numB n).map byteD ∧ x.2 < 2 ^ 64) ([], n) [] ?_ ?_ ?_ ?_ ?_ (fun x hI => ?_) | refine vc_nextI (x.1 ++ [byteD (UInt8.ofNat (x.2 % 128 + 128))], x.2 / 128) [(7, 4024)] ?_ ?_ ?_ ?_ ?_ ?_ | refine vc_ret [true] [] ?_ | refine vzB [] ?_ ?_ ?_ | refine vzD ?_ ?_ | refine vc_ret [] [] ?_) | ((with_reducible first | refine vzE (fun h => ?_) (fun h => ?_) | refine vzF (fun h => ?_) (fun h => ?_)) <;> try (exfalso; omega)) | ((with_reducible refine vzG (fun h => ?_) (fun h => ?_)) <;> (try simp at h) <;> try (exfalso; omega))))
  all_goals (try simp only [List.drop_zero, List.take_length, rstep])
  all_goals (try rw [rdiv (by omega)])
  all_goals first
    | rfl
    | exact ⟨rfl, hn⟩
    | omega
    | decide
    | exact fun h => by cases h
    | skip
  all_goals
    obtain ⟨acc, m⟩ := x
    obtain ⟨h1, h2⟩ := hI
    simp only at h1 h2 h ⊢
    have hroom : Room (numB n).length 1 := by unfold Room; omega
    have hlen := congrArg List.length h1
    simp only [List.length_append, List.length_map] at hlen
    rcases Nat.lt_or_ge m 128 with hm | hm
    rotate_left
    · have hm : ¬ m < 128 := by omega
      have hns := numB_step (xs := []) hm h1
      have hlen2 := congrArg List.length hns
      simp only [List.length_append, List.length_map, List.length_nil] at hlen2
      first
      | (exfalso; omega)
      | exact ⟨hns, by omega⟩
      | refine ⟨⟨by simp, trivial, room_le hroom rfl ?_⟩, fun y hy => ?_⟩
        · simp only [List.length_append]; omega
        · simp only [List.mem_singleton] at hy; subst hy; rfl
    · rw [numB_small hm] at h1
      first
      | (exfalso; omega)
      | (rw [low8 hm]; exact h1)
      | (rw [low8 hm]; exact congrArg List.length h1)
      | exact ⟨Nat.le_of_eq (Nat.zero_add _), trivial⟩
      | (rw [low8 hm]; exact congrArg D.sl h1)
      | (rw [low8 hm]; refine ⟨⟨by simp, trivial, room_le hroom rfl (Nat.le_of_eq ((congrArg List.length h1).trans (List.length_map _)))⟩, fun y hy => ?_⟩
         simp only [List.mem_singleton] at hy; subst hy; rfl)
end Go.Proofs.Ytjgkngjeniameaa

namespace Go.Proofs.Ytjgkngjeniameaa
open Go.Sym
set_option maxRecDepth 10000
set_option maxHeartbeats 1000000
theorem rText_ok (ts : List D) (hts : ∀ y, y ∈ ts → y.size = 1) (hroom : Room ((numB ts.length).map byteD ++ ts).length 1) : LocalCall Try.prog 59 [.d (.sl ts)] [] [] (one [.d (.sl ((numB ts.length).map byteD ++ ts))]) [] := by
  have hl := room_lt hroom
  simp only [List.length_append] at hl
  refine vc_fn mixed Try.func59 rfl rfl [] (vzH rfl) ?_
  repeat' (first | ((with_reducible refine vzH ?_); first | decide +kernel | rfl) | (with_reducible refine vzC ?_; rfl) | (with_reducible first | (refine vzZ ?_; constructor) | refine vzC ?_ | refine vc_pure (rNum_ok _ ts.length (wrapU64_id (by omega) (by omega)) (by omega)) ?_ ?_ ?_ | refine vc_call [true] (join_ok [.sl ((numB ts.length).map byteD), .sl ts] ?_ ?_ ?_ ?_) ?_ | refine vzB [] ?_ ?_ ?_ | refine vzD ?_ ?_ | refine vc_ret [] [] ?_) | ((with_reducible first | refine vzE (fun h => ?_) (fun h => ?_) | refine vzF (fun h => ?_) (fun h => ?_)) <;> try (exfalso; omega)) | ((with_reducible refine vzG (fun h => ?_) (fun h => ?_)) <;> (try simp at h) <;> try (exfalso; omega)) | ((conv in Vc _ => arg 1; whnf); first | (with_reducible refine vzC ?_; rfl) | (with_reducible first | (refine vzZ ?_; constructor) | refine vzC ?_ | refine vc_pure (rNum_ok _ ts.length (wrapU64_id (by omega) (by omega)) (by omega)) ?_ ?_ ?_ | refine vc_call [true] (join_ok [.sl ((numB ts.length).map byteD), .sl ts] ?_ ?_ ?_ ?_) ?_ | refine vzB [] ?_ ?_ ?_ | refine vzD ?_ ?_ | refine vc_ret [] [] ?_) | ((with_reducible first | refine vzE (fun h => ?_) (fun h => ?_) | refine vzF (fun h => ?_) (fun h => ?_)) <;> try (exfalso; omega)) | ((with_reducible refine vzG (fun h => ?_) (fun h => ?_)) <;> (try simp at h) <;> try (exfalso; omega))))
  all_goals first
    | (rw [pair_join]; done)
    | (rw [pair_join]; exact hroom)
    | exact ⟨Nat.le_of_eq (Nat.zero_add _), trivial⟩
    | rfl
    | (rw [pair_join]
       intro y hy
       rcases List.mem_append.1 hy with hy | hy
       · obtain ⟨c, _, rfl⟩ := List.mem_map.1 hy; rfl
       · exact hts y hy)
    | (intro y hy
       simp only [List.mem_cons, List.not_mem_nil, or_false] at hy
       rcases hy with rfl | rfl <;> exact ⟨_, rfl⟩)
    | (show 2 < 2 ^ 62; omega)
end Go.Proofs.Ytjgkngjeniameaa

namespace Go.Proofs.Ytjgkngjeniameaa
open Go.Sym
set_option maxRecDepth 10000
set_option maxHeartbeats 1000000
def fault : Value := .iface 115 (.agg #[])
theorem not_nil (w : World) : (binOp .eql 20 fault .nilIface).run Try.prog w = .ok (.bool false) w := by kernel_rfl
theorem guard_nil (w : World) : (eqGuard .eql 20 (.tmp 4) (.const .nilIface) fault .nilIface).run Try.prog w = .ok () w := by kernel_rfl
theorem is_nil (w : World) : (binOp .eql 20 .nilIface .nilIface).run Try.prog w = .ok (.bool true) w := by kernel_rfl
theorem is_fault (w : World) : (Instr.typeAssert fault 20 115 true).run Try.prog w = .ok (.tuple #[.agg #[], .bool true]) w := by kernel_rfl
theorem FR_round (ro : Option Nat) : (FR ro).round = ro := rfl
theorem FR_fn (ro : Option Nat) (f : FuncId) : (FR ro).fn f = True := rfl
theorem FR_depth (ro : Option Nat) : (FR ro).depth = none := rfl
theorem tmpsC (p : Addr) (v : Value) : (#[Value.pointer (some p)] ++ (Array.replicate 9 undef).setIfInBounds 3 v) = #[.pointer (some p), undef, undef, undef, v, undef, undef, undef, undef, undef] := rfl
theorem catch_idle (p : Addr) (w : World) :
    CallsDIn (FR none) 0 Try.prog 91 #[.pointer (some p)] .returning w fun e u' w' => e = .returned (.tuple #[]) ∧ u' = .returning ∧ w' = w := by
  refine callsDIn_of_wpSIn Try.func91 rfl trivial fun c₀ cs hu => ?_
  have h0 := is_nil w
  have q1 := FR_round none
  have q2 := FR_fn none
  have q3 := FR_depth none
  apply wpSIn_seq
  apply wpSIn_region
  simp [wpOpsSIn, go_sem, recoverD, hu, Exit.thenS]
  rw [tmpsC]
  refine wpSIn_of_wpIn rfl ?_
  gi_wp2
  cases c₀
  simp_all [bodyPostS, results]
theorem catch_pan (p : Addr) (w : World) (k : IntKind) (x : Int) (hc : (w.alloc (.cells #[] 115)).cell? p = some (.int k x)) (hz : (w.alloc (.cells #[] 115)).frozen? p = false) :
    CallsDIn (FR none) 0 Try.prog 91 #[.pointer (some p)] (.panicking [{ v := fault, recovered := false }]) w fun e u' w' =>
      e = .returned (.tuple #[]) ∧ u' = .panicking [{ v := fault, recovered := true }] ∧ w' = (w.alloc (.cells #[] 115)).setCell p (.int .i64 3) := by
  refine callsDIn_of_wpSIn Try.func91 rfl trivial fun c₀ cs hu => ?_
  have h0 := not_nil w
  have hg := guard_nil w
  have q1 := FR_round none
  have q2 := FR_fn none
  have q3 := FR_depth none
  have h1 := is_fault w
  apply wpSIn_seq
  apply wpSIn_region
  simp [wpOpsSIn, go_sem, recoverD, hu, Exit.thenS]
  rw [tmpsC]
  refine wpSIn_of_wpIn rfl ?_
  gi_wp2
  all_goals simp [bodyPostS, results]
end Go.Proofs.Ytjgkngjeniameaa

namespace Go.Proofs.Ytjgkngjeniameaa
open Go.Sym
set_option maxRecDepth 10000
set_option maxHeartbeats 1000000
def rd (B : List D) (k : Nat) : AObj := .var (.d (.st [.sl B, .int .i64 (k : Int)]))
def rdN (bs : List UInt8) : Nat → Nat → Nat → Nat → Option (Nat × Nat)
  | 0, _, _, _ => none
  | f + 1, at_, n, k => bif decide (at_ < bs.length) then
      bif (decide (k = 9) && decide (1 < (bs.getD at_ 0).toNat)) || (decide (0 < k) && decide ((bs.getD at_ 0).toNat = 0)) then none
      else bif decide ((bs.getD at_ 0).toNat < 128) then some (n + (bs.getD at_ 0).toNat % 128 * 2 ^ (7 * k), at_ + 1)
      else rdN bs f (at_ + 1) (n + (bs.getD at_ 0).toNat % 128 * 2 ^ (7 * k)) (k + 1)
    else none
theorem fail_pan (B : List D) (k : Nat) : LocalPan Try.prog 92 [.ptr 9 []] [(9, rd B k)] [] fault [(9, .dead)] := by
  refine vc_fnPan mixed Try.func92 rfl rfl [] (vzH rfl) ?_
  repeat' (first | ((with_reducible refine vzH ?_); first | decide +kernel | rfl) | (with_reducible refine vzC ?_; rfl) | (with_reducible first | (refine vzZ ?_; constructor) | refine vzC ?_ | refine vc_panc [] [9] ?_ ?_ | refine vzB [] ?_ ?_ ?_ | refine vzD ?_ ?_ | refine vc_ret [] [] ?_) | ((with_reducible first | refine vzE (fun h => ?_) (fun h => ?_) | refine vzF (fun h => ?_) (fun h => ?_)) <;> try (exfalso; omega)) | ((with_reducible refine vzG (fun h => ?_) (fun h => ?_)) <;> (try simp at h) <;> try (exfalso; omega)) | ((conv in Vc _ => arg 1; whnf); first | (with_reducible refine vzC ?_; rfl) | (with_reducible first | (refine vzZ ?_; constructor) | refine vzC ?_ | refine vc_panc [] [9] ?_ ?_ | refine vzB [] ?_ ?_ ?_ | refine vzD ?_ ?_ | refine vc_ret [] [] ?_) | ((with_reducible first | refine vzE (fun h => ?_) (fun h => ?_) | refine vzF (fun h => ?_) (fun h => ?_)) <;> try (exfalso; omega)) | ((with_reducible refine vzG (fun h => ?_) (fun h => ?_)) <;> (try simp at h) <;> try (exfalso; omega))))
  all_goals rfl
theorem byte_ok (B : List D) (bs : List UInt8) (hB : B = bs.map byteD) (k : Nat) (hk : k < bs.length) (hl : bs.length < 2 ^ 63) (c : UInt8) (hc : bs.getD k 0 = c) : LocalCall Try.prog 94 [.ptr 9 []] [(9, rd B k)] [] (one [.d (.int .u8 (c.toNat : Int))]) [(9, rd B (k + 1))] := by
  have hlen : B.length = bs.length := by rw [hB]; simp
  refine vc_fn mixed Try.func94 rfl rfl [] (vzH rfl) ?_
  have e1 : IntKind.i64.wrap ((k : Int) + 1) = ((k + 1 : Nat) : Int) := by rw [wrap64_id (by omega) (by omega)]; rfl
  have e2 : IntKind.i64.wrap (((k + 1 : Nat) : Int) - 1) = (k : Int) := by rw [wrap64_id (by omega) (by omega)]; omega
  have e3 : B.getD k .nilp = .int .u8 (c.toNat : Int) := by rw [hB, getD_byte hk, hc]; rfl
  repeat' (first | ((with_reducible refine vzH ?_); first | decide +kernel | rfl) | (with_reducible refine vzC ?_; rfl) | (with_reducible first | (refine vzZ ?_; constructor) | refine vzC ?_ | refine vzB [] ?_ ?_ ?_ | refine vzD ?_ ?_ | refine vc_ret [] [] ?_) | ((with_reducible first | refine vzE (fun h => ?_) (fun h => ?_) | refine vzF (fun h => ?_) (fun h => ?_)) <;> try (exfalso; omega)) | ((with_reducible refine vzG (fun h => ?_) (fun h => ?_)) <;> (try simp at h) <;> try (exfalso; omega)) | ((conv in Vc _ => arg 1; whnf); first | (with_reducible refine vzC ?_; rfl) | (with_reducible first | (refine vzZ ?_; constructor) | refine vzC ?_ | refine vzB [] ?_ ?_ ?_ | refine vzD ?_ ?_ | refine vc_ret [] [] ?_) | ((with_reducible first | refine vzE (fun h => ?_) (fun h => ?_) | refine vzF (fun h => ?_) (fun h => ?_)) <;> try (exfalso; omega)) | ((with_reducible refine vzG (fun h => ?_) (fun h => ?_)) <;> (try simp at h) <;> try (exfalso; omega))))
  all_goals simp only [e1, e2, e3, Int.toNat_natCast]
  all_goals first
    | rfl
    | exact ⟨⟨by omega, by omega⟩, rfl⟩
theorem byte_pan (B : List D) (bs : List UInt8) (hB : B = bs.map byteD) (k : Nat) (hk : ¬ k < bs.length) : LocalPan Try.prog 94 [.ptr 9 []] [(9, rd B k)] [] fault [(9, .dead)] := by
  have hlen : B.length = bs.length := by rw [hB]; simp
  refine vc_fnPan mixed Try.func94 rfl rfl [] (vzH rfl) ?_
  repeat' (first | ((with_reducible refine vzH ?_); first | decide +kernel | rfl) | (with_reducible refine vzC ?_; rfl) | (with_reducible first | (refine vzZ ?_; constructor) | refine vzC ?_ | refine vc_pan [] (fail_pan B k) ?_ | refine vc_panc [] [] ?_ ?_ | refine vzB [] ?_ ?_ ?_ | refine vzD ?_ ?_ | refine vc_ret [] [] ?_) | ((with_reducible first | refine vzE (fun h => ?_) (fun h => ?_) | refine vzF (fun h => ?_) (fun h => ?_)) <;> try (exfalso; omega)) | ((with_reducible refine vzG (fun h => ?_) (fun h => ?_)) <;> (try simp at h) <;> try (exfalso; omega)) | ((conv in Vc _ => arg 1; whnf); first | (with_reducible refine vzC ?_; rfl) | (with_reducible first | (refine vzZ ?_; constructor) | refine vzC ?_ | refine vc_pan [] (fail_pan B k) ?_ | refine vc_panc [] [] ?_ ?_ | refine vzB [] ?_ ?_ ?_ | refine vzD ?_ ?_ | refine vc_ret [] [] ?_) | ((with_reducible first | refine vzE (fun h => ?_) (fun h => ?_) | refine vzF (fun h => ?_) (fun h => ?_)) <;> try (exfalso; omega)) | ((with_reducible refine vzG (fun h => ?_) (fun h => ?_)) <;> (try simp at h) <;> try (exfalso; omega))))
  all_goals rfl
theorem vc_by (p : Prop) [Decidable p] {q : Prop} (h1 : p → Vc q) (h2 : ¬ p → Vc q) : Vc q := if h : p then h1 h else h2 h
theorem rdN_step (bs : List UInt8) {k : Nat} (hk : k ≤ 9) (i n : Nat) : rdN bs (10 - k) i n k = bif decide (i < bs.length) then
      bif (decide (k = 9) && decide (1 < (bs.getD i 0).toNat)) || (decide (0 < k) && decide ((bs.getD i 0).toNat = 0)) then none
      else bif decide ((bs.getD i 0).toNat < 128) then some (n + (bs.getD i 0).toNat % 128 * 2 ^ (7 * k), i + 1)
      else rdN bs (10 - (k + 1)) (i + 1) (n + (bs.getD i 0).toNat % 128 * 2 ^ (7 * k)) (k + 1)
    else none := by
  obtain ⟨f, hf⟩ : ∃ f, 10 - k = f + 1 := ⟨9 - k, by omega⟩
  rw [hf, rdN, show f = 10 - (k + 1) by omega]
structure RdI (bs : List UInt8) (R : Option (Nat × Nat)) (x : Nat × Nat × Nat) : Prop where
  h : rdN bs (10 - x.2.1) x.2.2 x.1 x.2.1 = R
  lt : x.1 < 2 ^ (7 * x.2.1)
  le : x.2.1 ≤ 9
theorem RdI.cases {bs : List UInt8} {R : Option (Nat × Nat)} {n k i : Nat} (hI : RdI bs R (n, k, i)) : n < 2 ^ (7 * k) ∧ k ≤ 9 ∧ ((¬ i < bs.length ∧ R = none) ∨ (i < bs.length ∧ ∃ c, bs.getD i 0 = c ∧
    ((((7 * k = 63 ∧ 1 < c.toNat) ∨ (0 < k ∧ c.toNat = 0)) ∧ R = none) ∨
     (¬ (7 * k = 63 ∧ 1 < c.toNat) ∧ ¬ (0 < k ∧ c.toNat = 0) ∧ c.toNat < 128 ∧ R = some (n + c.toNat % 128 * 2 ^ (7 * k), i + 1)) ∨
     (¬ (7 * k = 63 ∧ 1 < c.toNat) ∧ ¬ (0 < k ∧ c.toNat = 0) ∧ ¬ c.toNat < 128 ∧ RdI bs R (n + c.toNat % 128 * 2 ^ (7 * k), k + 1, i + 1))))) := by
  obtain ⟨h, lt, le⟩ := hI
  simp only at h lt le
  refine ⟨lt, le, ?_⟩
  rw [rdN_step bs le] at h
  by_cases hi : i < bs.length
  · refine .inr ⟨hi, _, rfl, ?_⟩
    generalize bs.getD i 0 = c at h
    simp only [hi, decide_true, cond_true] at h
    by_cases hb : (7 * k = 63 ∧ 1 < c.toNat) ∨ (0 < k ∧ c.toNat = 0)
    · have e : ((decide (k = 9) && decide (1 < c.toNat)) || (decide (0 < k) && decide (c.toNat = 0))) = true := by
        simp only [Bool.or_eq_true, Bool.and_eq_true, decide_eq_true_eq]
        exact hb.imp (fun h => ⟨by omega, h.2⟩) id
      rw [e] at h
      exact .inl ⟨hb, h.symm⟩
    · have e : ((decide (k = 9) && decide (1 < c.toNat)) || (decide (0 < k) && decide (c.toNat = 0))) = false := by
        rw [Bool.eq_false_iff]
        simp only [ne_eq, Bool.or_eq_true, Bool.and_eq_true, decide_eq_true_eq]
        exact fun hq => hb (hq.imp (fun h => ⟨by omega, h.2⟩) id)
      rw [e] at h
      have hb1 := fun hq => hb (.inl hq)
      have hb2 := fun hq => hb (.inr hq)
      by_cases hc : c.toNat < 128
      · simp only [hc, decide_true, cond_true, cond_false] at h
        exact .inr (.inl ⟨hb1, hb2, hc, h.symm⟩)
      · simp only [hc, decide_false, cond_false] at h
        refine .inr (.inr ⟨hb1, hb2, hc, h, ?_, ?_⟩)
        · have := Nat.mod_lt c.toNat (show 0 < 128 by omega)
          simp only
          rw [show 7 * (k + 1) = 7 * k + 7 by omega, Nat.pow_add]
          generalize c.toNat % 128 = d at this
          have : (d + 1) * 2 ^ (7 * k) ≤ 128 * 2 ^ (7 * k) := Nat.mul_le_mul_right _ (by omega)
          rw [Nat.add_mul] at this
          omega
        · have hlt := c.toNat_lt
          simp only
          omega
  · refine .inl ⟨hi, ?_⟩
    simp only [hi, decide_false, cond_false] at h
    exact h.symm
theorem RdI.ok {bs : List UInt8} {v e : Nat} {x : Nat × Nat × Nat} (hI : RdI bs (some (v, e)) x) {q : Prop} (h : ∀ c : UInt8, bs.getD x.2.2 0 = c → x.2.2 < bs.length → x.1 < 2 ^ (7 * x.2.1) → x.2.1 ≤ 9 → ¬ (7 * x.2.1 = 63 ∧ 1 < c.toNat) → ¬ (0 < x.2.1 ∧ c.toNat = 0) →
    (c.toNat < 128 → v = x.1 + c.toNat % 128 * 2 ^ (7 * x.2.1) ∧ e = x.2.2 + 1) → (¬ c.toNat < 128 → RdI bs (some (v, e)) (x.1 + c.toNat % 128 * 2 ^ (7 * x.2.1), x.2.1 + 1, x.2.2 + 1)) → Vc q) : Vc q := by
  obtain ⟨n, k, i⟩ := x
  obtain ⟨lt, le, ⟨_, h1⟩ | ⟨hi, c, hc, ⟨_, h1⟩ | ⟨h1, h2, h3, h4⟩ | ⟨h1, h2, h3, h4⟩⟩⟩ := hI.cases
  · cases h1
  · cases h1
  · cases h4; exact h c hc hi lt le h1 h2 (fun _ => ⟨rfl, rfl⟩) (fun h => absurd h3 h)
  · exact h c hc hi lt le h1 h2 (fun h => absurd h h3) (fun _ => h4)
theorem RdI.no {bs : List UInt8} {x : Nat × Nat × Nat} (hI : RdI bs none x) {q : Prop} (h0 : ¬ x.2.2 < bs.length → Vc q) (h : ∀ c : UInt8, bs.getD x.2.2 0 = c → x.2.2 < bs.length → x.1 < 2 ^ (7 * x.2.1) → x.2.1 ≤ 9 → ((7 * x.2.1 = 63 ∧ 1 < c.toNat) ∨ (0 < x.2.1 ∧ c.toNat = 0) ∨ ¬ c.toNat < 128) →
    (¬ (7 * x.2.1 = 63 ∧ 1 < c.toNat) → ¬ (0 < x.2.1 ∧ c.toNat = 0) → RdI bs none (x.1 + c.toNat % 128 * 2 ^ (7 * x.2.1), x.2.1 + 1, x.2.2 + 1)) → Vc q) : Vc q := by
  obtain ⟨n, k, i⟩ := x
  obtain ⟨lt, le, ⟨hi, _⟩ | ⟨hi, c, hc, ⟨hb, _⟩ | ⟨h1, h2, h3, h4⟩ | ⟨h1, h2, h3, h4⟩⟩⟩ := hI.cases
  · exact h0 hi
  · exact h c hc hi lt le (hb.imp id .inl) (fun a b => hb.elim (fun h => absurd h a) (fun h => absurd h b))
  · cases h4
  · exact h c hc hi lt le (.inr (.inr h3)) (fun _ _ => h4)
theorem and127 (c : UInt8) : aBits .and .u8 (c.toNat : Int) 127 = ((c.toNat % 128 : Nat) : Int) := by
  have key : ∀ k : Fin 256, aBits .and .u8 ((k.val : Nat) : Int) 127 = ((k.val % 128 : Nat) : Int) := by decide +kernel
  exact key ⟨c.toNat, c.toNat_lt⟩
theorem orNat {a b : Nat} (ha : a < 2 ^ 64) (hb : b < 2 ^ 64) : aBits .or .u64 (a : Int) (b : Int) = ((a ||| b : Nat) : Int) := by
  have hlt := Nat.or_lt_two_pow ha hb
  have e : (BitVec.ofInt 64 (a : Int) ||| BitVec.ofInt 64 (b : Int)).toNat = a ||| b := by
    rw [BitVec.toNat_or, BitVec.ofInt_natCast, BitVec.ofInt_natCast, BitVec.toNat_ofNat, BitVec.toNat_ofNat, Nat.mod_eq_of_lt ha, Nat.mod_eq_of_lt hb]
  show IntKind.u64.wrap (((BitVec.ofInt 64 (a : Int) ||| BitVec.ofInt 64 (b : Int)).toNat : Nat) : Int) = _
  rw [e, wrapU64_id (by omega) (by omega)]
theorem or_shift {n k : Nat} {c : UInt8} (hn : n < 2 ^ (7 * k)) (hk : k ≤ 9) (h1 : ¬ (7 * k = 63 ∧ 1 < c.toNat)) :
    aBits .or .u64 (n : Int) (shlI .u64 (IntKind.u64.wrap (aBits .and .u8 (c.toNat : Int) 127)) ((7 * k : Nat) : Int)) = ((n + c.toNat % 128 * 2 ^ (7 * k) : Nat) : Int) := by
  have hd : c.toNat % 128 < 128 := Nat.mod_lt _ (by omega)
  have hp : 2 ^ (7 * k) ≤ 2 ^ 63 := Nat.pow_le_pow_right (by omega) (by omega)
  have hbig : c.toNat % 128 * 2 ^ (7 * k) < 2 ^ 64 := by
    rcases Nat.lt_or_ge k 9 with h9 | h9
    · have h56 : 2 ^ (7 * k) ≤ 2 ^ 56 := Nat.pow_le_pow_right (by omega) (by omega)
      calc c.toNat % 128 * 2 ^ (7 * k) ≤ 127 * 2 ^ 56 := Nat.mul_le_mul (by omega) h56
        _ < 2 ^ 64 := by decide
    · obtain rfl : k = 9 := by omega
      have : c.toNat ≤ 1 := by omega
      have : c.toNat % 128 ≤ 1 := by omega
      calc c.toNat % 128 * 2 ^ (7 * 9) ≤ 1 * 2 ^ 63 := Nat.mul_le_mul this (Nat.le_refl _)
        _ < 2 ^ 64 := by decide
  have hs : shlI .u64 (IntKind.u64.wrap (aBits .and .u8 (c.toNat : Int) 127)) ((7 * k : Nat) : Int) = ((c.toNat % 128 * 2 ^ (7 * k) : Nat) : Int) := by
    rw [and127, wrapU64_id (by omega) (by omega)]
    have hm : min ((7 * k : Nat) : Int).toNat IntKind.u64.bits = 7 * k := by
      show min (7 * k) 64 = _
      omega
    unfold shlI
    rw [hm]
    have : ((c.toNat % 128 : Nat) : Int) * 2 ^ (7 * k) = ((c.toNat % 128 * 2 ^ (7 * k) : Nat) : Int) := by
      rw [Int.natCast_mul, Int.natCast_pow]; rfl
    rw [this, wrapU64_id (by omega) (by omega)]
  rw [hs, orNat (by omega) hbig]
  congr 1
  rw [Nat.or_comm, Nat.mul_comm, ← Nat.two_pow_add_eq_or_of_lt hn]
  omega
end Go.Proofs.Ytjgkngjeniameaa

namespace Go.Proofs.Ytjgkngjeniameaa
open Go.Sym
set_option maxRecDepth 10000
set_option maxHeartbeats 1000000
theorem num_read (B : List D) (bs : List UInt8) (hB : B = bs.map byteD) (k v e : Nat) (hr : rdN bs 10 k 0 0 = some (v, e)) (hl : bs.length < 2 ^ 63) :
    LocalCall Try.prog 73 [.ptr 9 []] [(9, rd B k)] [] (one [.d (.int .u64 (v : Int))]) [(9, rd B e)] := by
  refine vc_fn mixed Try.func73 rfl rfl [] (vzH rfl) ?_
  repeat' (first | ((with_reducible refine vzH ?_); first | decide +kernel | rfl) | (with_reducible refine vzC ?_; rfl) | (with_reducible first | (refine vzZ ?_; constructor) | refine vzC ?_ | refine vc_loopI 36 (fun (x : Nat × Nat × Nat) => [(0, .ptr 9 []), (3, .d (.int .u64 (x.1 : Int))), (4, .d (.int .i64 ((7 * x.2.1 : Nat) : Int)))]) (fun x => [(9, rd B x.2.2)]) (fun x => 10 - x.2.1) (RdI bs (some (v, e))) (0, 0, k) [] ?_ ?_ ?_ ?_ ?_ (fun x hI => hI.ok fun c hc hi hn hj hb1 hb2 hv hx => ?_) | refine vc_call [] (byte_ok B bs hB x.2.2 hi hl c hc) ?_ | refine vc_nextI (x.1 + c.toNat % 128 * 2 ^ (7 * x.2.1), x.2.1 + 1, x.2.2 + 1) [] ?_ ?_ ?_ ?_ ?_ ?_ | refine vzB [] ?_ ?_ ?_ | refine vzD ?_ ?_ | refine vc_ret [] [] ?_) | ((with_reducible first | refine vzE (fun h => ?_) (fun h => ?_) | refine vzF (fun h => ?_) (fun h => ?_)) <;> try (exfalso; omega)) | ((with_reducible refine vzG (fun h => ?_) (fun h => ?_)) <;> (try simp at h) <;> try (exfalso; omega)) | ((conv in Vc _ => arg 1; whnf); first | (with_reducible refine vzC ?_; rfl) | (with_reducible first | (refine vzZ ?_; constructor) | refine vzC ?_ | refine vc_loopI 36 (fun (x : Nat × Nat × Nat) => [(0, .ptr 9 []), (3, .d (.int .u64 (x.1 : Int))), (4, .d (.int .i64 ((7 * x.2.1 : Nat) : Int)))]) (fun x => [(9, rd B x.2.2)]) (fun x => 10 - x.2.1) (RdI bs (some (v, e))) (0, 0, k) [] ?_ ?_ ?_ ?_ ?_ (fun x hI => hI.ok fun c hc hi hn hj hb1 hb2 hv hx => ?_) | refine vc_call [] (byte_ok B bs hB x.2.2 hi hl c hc) ?_ | refine vc_nextI (x.1 + c.toNat % 128 * 2 ^ (7 * x.2.1), x.2.1 + 1, x.2.2 + 1) [] ?_ ?_ ?_ ?_ ?_ ?_ | refine vzB [] ?_ ?_ ?_ | refine vzD ?_ ?_ | refine vc_ret [] [] ?_) | ((with_reducible first | refine vzE (fun h => ?_) (fun h => ?_) | refine vzF (fun h => ?_) (fun h => ?_)) <;> try (exfalso; omega)) | ((with_reducible refine vzG (fun h => ?_) (fun h => ?_)) <;> (try simp at h) <;> try (exfalso; omega))))
  all_goals first
    | rfl
    | exact ⟨hr, by simp, by simp⟩
    | (simp only; omega)
    | exact hx (by omega)
    | (have hw := hv (by omega)
       rw [or_shift hn hj hb1, hw.1]; done)
    | (have hw := hv (by omega)
       rw [hw.2]; done)
    | (rw [or_shift hn hj hb1]; done)
    | (congr 1; rw [wrap64_id (by omega) (by omega)]; simp only; omega)
theorem num_nread (B : List D) (bs : List UInt8) (hB : B = bs.map byteD) (k : Nat) (hr : rdN bs 10 k 0 0 = none) (hl : bs.length < 2 ^ 63) :
    LocalPan Try.prog 73 [.ptr 9 []] [(9, rd B k)] [] fault [(9, .dead)] := by
  refine vc_fnPan mixed Try.func73 rfl rfl [] (vzH rfl) ?_
  repeat' (first | ((with_reducible refine vzH ?_); first | decide +kernel | rfl) | (with_reducible refine vzC ?_; rfl) | (with_reducible first | (refine vzZ ?_; constructor) | refine vzC ?_ | refine vc_loopI 36 (fun (x : Nat × Nat × Nat) => [(0, .ptr 9 []), (3, .d (.int .u64 (x.1 : Int))), (4, .d (.int .i64 ((7 * x.2.1 : Nat) : Int)))]) (fun x => [(9, rd B x.2.2)]) (fun x => 10 - x.2.1) (RdI bs none) (0, 0, k) [] ?_ ?_ ?_ ?_ ?_ (fun x hI => hI.no (fun hi => ?_) fun c hc hi hn hj hb hx => ?_) | refine vc_call [] (byte_ok B bs hB x.2.2 hi hl c hc) ?_ | refine vc_pan [] (byte_pan B bs hB x.2.2 hi) ?_ | refine vc_pan [] (fail_pan B (x.2.2 + 1)) ?_ | refine vc_nextI (x.1 + c.toNat % 128 * 2 ^ (7 * x.2.1), x.2.1 + 1, x.2.2 + 1) [] ?_ ?_ ?_ ?_ ?_ ?_ | refine vc_panc [] [] ?_ ?_ | refine vzB [] ?_ ?_ ?_ | refine vzD ?_ ?_ | refine vc_ret [] [] ?_) | ((with_reducible first | refine vzE (fun h => ?_) (fun h => ?_) | refine vzF (fun h => ?_) (fun h => ?_)) <;> try (exfalso; omega)) | ((with_reducible refine vzG (fun h => ?_) (fun h => ?_)) <;> (try simp at h) <;> try (exfalso; omega)) | ((conv in Vc _ => arg 1; whnf); first | (with_reducible refine vzC ?_; rfl) | (with_reducible first | (refine vzZ ?_; constructor) | refine vzC ?_ | refine vc_loopI 36 (fun (x : Nat × Nat × Nat) => [(0, .ptr 9 []), (3, .d (.int .u64 (x.1 : Int))), (4, .d (.int .i64 ((7 * x.2.1 : Nat) : Int)))]) (fun x => [(9, rd B x.2.2)]) (fun x => 10 - x.2.1) (RdI bs none) (0, 0, k) [] ?_ ?_ ?_ ?_ ?_ (fun x hI => hI.no (fun hi => ?_) fun c hc hi hn hj hb hx => ?_) | refine vc_call [] (byte_ok B bs hB x.2.2 hi hl c hc) ?_ | refine vc_pan [] (byte_pan B bs hB x.2.2 hi) ?_ | refine vc_pan [] (fail_pan B (x.2.2 + 1)) ?_ | refine vc_nextI (x.1 + c.toNat % 128 * 2 ^ (7 * x.2.1), x.2.1 + 1, x.2.2 + 1) [] ?_ ?_ ?_ ?_ ?_ ?_ | refine vc_panc [] [] ?_ ?_ | refine vzB [] ?_ ?_ ?_ | refine vzD ?_ ?_ | refine vc_ret [] [] ?_) | ((with_reducible first | refine vzE (fun h => ?_) (fun h => ?_) | refine vzF (fun h => ?_) (fun h => ?_)) <;> try (exfalso; omega)) | ((with_reducible refine vzG (fun h => ?_) (fun h => ?_)) <;> (try simp at h) <;> try (exfalso; omega))))
  all_goals first
    | rfl
    | exact ⟨hr, by simp, by simp⟩
    | (simp only; omega)
    | exact hx (by omega) (by omega)
    | (rw [or_shift hn hj (by omega)]; done)
    | (congr 1; rw [wrap64_id (by omega) (by omega)]; simp only; omega)
end Go.Proofs.Ytjgkngjeniameaa

namespace Go.Proofs.Ytjgkngjeniameaa
open Go.Sym
set_option maxRecDepth 10000
set_option maxHeartbeats 1000000
def rdC (bs : List UInt8) (most : Int) (k : Nat) : Option (Nat × Nat) := match rdN bs 10 k 0 0 with
  | some (v, e) => bif decide (0 ≤ most) && decide ((v : Int) ≤ most) then some (v, e) else none
  | none => none
theorem rdC_ok {bs : List UInt8} {most : Int} {k v e : Nat} (h : rdC bs most k = some (v, e)) : rdN bs 10 k 0 0 = some (v, e) ∧ 0 ≤ most ∧ (v : Int) ≤ most := by
  unfold rdC at h
  split at h
  · rename_i v' e' hr
    cases hb : decide (0 ≤ most) && decide ((v' : Int) ≤ most) with
    | true =>
      rw [hb] at h
      cases h
      simp only [Bool.and_eq_true, decide_eq_true_eq] at hb
      exact ⟨hr, hb.1, hb.2⟩
    | false => rw [hb] at h; cases h
  · cases h
theorem rdC_no {bs : List UInt8} {most : Int} {k : Nat} (h : rdC bs most k = none) : rdN bs 10 k 0 0 = none ∨ ∃ v e, rdN bs 10 k 0 0 = some (v, e) ∧ ¬ (0 ≤ most ∧ (v : Int) ≤ most) := by
  unfold rdC at h
  split at h
  · rename_i v' e' hr
    refine .inr ⟨v', e', hr, fun hq => ?_⟩
    simp only [hq.1, hq.2, decide_true, Bool.and_self, cond_true] at h
    cases h
  · exact .inl ‹_›
theorem count_ok (B : List D) (bs : List UInt8) (hB : B = bs.map byteD) (most : Int) (k v e : Nat) (hr : rdC bs most k = some (v, e)) (hm : most < 2 ^ 63) (hl : bs.length < 2 ^ 63) :
    LocalCall Try.prog 69 [.ptr 9 [], .d (.int .i64 most)] [(9, rd B k)] [] (one [.d (.int .i64 (v : Int))]) [(9, rd B e)] := by
  obtain ⟨h1, h2, h3⟩ := rdC_ok hr
  have hw : IntKind.u64.wrap most = most := wrapU64_id (by omega) (by omega)
  have hv : IntKind.i64.wrap (v : Int) = v := wrap64_id (by omega) (by omega)
  refine vc_fn mixed Try.func69 rfl rfl [] (vzH rfl) ?_
  repeat' (first | ((with_reducible refine vzH ?_); first | decide +kernel | rfl) | (with_reducible refine vzC ?_; rfl) | (with_reducible first | (refine vzZ ?_; constructor) | refine vzC ?_ | refine vc_call [] (num_read B bs hB k v e h1 hl) ?_ | refine vzB [] ?_ ?_ ?_ | refine vzD ?_ ?_ | refine vc_ret [] [] ?_) | ((with_reducible first | refine vzE (fun h => ?_) (fun h => ?_) | refine vzF (fun h => ?_) (fun h => ?_)) <;> try (exfalso; omega)) | ((with_reducible refine vzG (fun h => ?_) (fun h => ?_)) <;> (try simp at h) <;> try (exfalso; omega)) | ((conv in Vc _ => arg 1; whnf); first | (with_reducible refine vzC ?_; rfl) | (with_reducible first | (refine vzZ ?_; constructor) | refine vzC ?_ | refine vc_call [] (num_read B bs hB k v e h1 hl) ?_ | refine vzB [] ?_ ?_ ?_ | refine vzD ?_ ?_ | refine vc_ret [] [] ?_) | ((with_reducible first | refine vzE (fun h => ?_) (fun h => ?_) | refine vzF (fun h => ?_) (fun h => ?_)) <;> try (exfalso; omega)) | ((with_reducible refine vzG (fun h => ?_) (fun h => ?_)) <;> (try simp at h) <;> try (exfalso; omega))))
  all_goals first
    | rfl
    | (rw [hv]; done)
theorem count_pan (B : List D) (bs : List UInt8) (hB : B = bs.map byteD) (most : Int) (k : Nat) (hr : rdC bs most k = none) (hm : -2 ^ 63 ≤ most) (hm2 : most < 2 ^ 63) (hl : bs.length < 2 ^ 63) :
    LocalPan Try.prog 69 [.ptr 9 [], .d (.int .i64 most)] [(9, rd B k)] [] fault [(9, .dead)] := by
  refine vc_fnPan mixed Try.func69 rfl rfl [] (vzH rfl) ?_
  have hw : 0 ≤ most → IntKind.u64.wrap most = most := fun h => wrapU64_id h (by omega)
  rcases rdC_no hr with h1 | ⟨v, e, h1, h2⟩
  · skip
    repeat' (first | ((with_reducible refine vzH ?_); first | decide +kernel | rfl) | (with_reducible refine vzC ?_; rfl) | (with_reducible first | (refine vzZ ?_; constructor) | refine vzC ?_ | refine vc_pan [] (num_nread B bs hB k h1 hl) ?_ | refine vc_panc [] [] ?_ ?_ | refine vzB [] ?_ ?_ ?_ | refine vzD ?_ ?_ | refine vc_ret [] [] ?_) | ((with_reducible first | refine vzE (fun h => ?_) (fun h => ?_) | refine vzF (fun h => ?_) (fun h => ?_)) <;> try (exfalso; omega)) | ((with_reducible refine vzG (fun h => ?_) (fun h => ?_)) <;> (try simp at h) <;> try (exfalso; omega)) | ((conv in Vc _ => arg 1; whnf); first | (with_reducible refine vzC ?_; rfl) | (with_reducible first | (refine vzZ ?_; constructor) | refine vzC ?_ | refine vc_pan [] (num_nread B bs hB k h1 hl) ?_ | refine vc_panc [] [] ?_ ?_ | refine vzB [] ?_ ?_ ?_ | refine vzD ?_ ?_ | refine vc_ret [] [] ?_) | ((with_reducible first | refine vzE (fun h => ?_) (fun h => ?_) | refine vzF (fun h => ?_) (fun h => ?_)) <;> try (exfalso; omega)) | ((with_reducible refine vzG (fun h => ?_) (fun h => ?_)) <;> (try simp at h) <;> try (exfalso; omega))))
    all_goals rfl
  · skip
    repeat' (first | ((with_reducible refine vzH ?_); first | decide +kernel | rfl) | (with_reducible refine vzC ?_; rfl) | (with_reducible first | (refine vzZ ?_; constructor) | refine vzC ?_ | refine vc_call [] (num_read B bs hB k v e h1 hl) ?_ | refine vc_pan [] (fail_pan B e) ?_ | refine vc_panc [] [] ?_ ?_ | refine vzB [] ?_ ?_ ?_ | refine vzD ?_ ?_ | refine vc_ret [] [] ?_) | ((with_reducible first | refine vzE (fun h => ?_) (fun h => ?_) | refine vzF (fun h => ?_) (fun h => ?_)) <;> try (exfalso; omega)) | ((with_reducible refine vzG (fun h => ?_) (fun h => ?_)) <;> (try simp at h) <;> try (exfalso; omega)) | ((conv in Vc _ => arg 1; whnf); first | (with_reducible refine vzC ?_; rfl) | (with_reducible first | (refine vzZ ?_; constructor) | refine vzC ?_ | refine vc_call [] (num_read B bs hB k v e h1 hl) ?_ | refine vc_pan [] (fail_pan B e) ?_ | refine vc_panc [] [] ?_ ?_ | refine vzB [] ?_ ?_ ?_ | refine vzD ?_ ?_ | refine vc_ret [] [] ?_) | ((with_reducible first | refine vzE (fun h => ?_) (fun h => ?_) | refine vzF (fun h => ?_) (fun h => ?_)) <;> try (exfalso; omega)) | ((with_reducible refine vzG (fun h => ?_) (fun h => ?_)) <;> (try simp at h) <;> try (exfalso; omega))))
    all_goals rfl
end Go.Proofs.Ytjgkngjeniameaa

namespace Go.Proofs.Ytjgkngjeniameaa
open Go.Sym
set_option maxRecDepth 10000
set_option maxHeartbeats 1000000
theorem rdN_le (bs : List UInt8) : ∀ (f k n j v e : Nat), rdN bs f k n j = some (v, e) → k < e ∧ e ≤ bs.length
  | 0, k, n, j, v, e, h => by cases h
  | f + 1, k, n, j, v, e, h => by
    rw [rdN] at h
    by_cases hk : k < bs.length
    · simp only [hk, decide_true, cond_true] at h
      cases hb : (decide (j = 9) && decide (1 < (bs.getD k 0).toNat)) || (decide (0 < j) && decide ((bs.getD k 0).toNat = 0)) with
      | true => rw [hb] at h; cases h
      | false =>
        rw [hb] at h
        by_cases hc : (bs.getD k 0).toNat < 128
        · simp only [hc, decide_true, cond_true, cond_false] at h
          cases h; omega
        · simp only [hc, decide_false, cond_false] at h
          have := rdN_le bs f _ _ _ _ _ h
          omega
    · simp only [hk, decide_false, cond_false] at h
      cases h
def rdT (bs : List UInt8) (k : Nat) : Option (List UInt8 × Nat) := match rdC bs 1048576 k with
  | some (n, e) => bif decide (e + n ≤ bs.length) then some ((bs.drop e).take n, e + n) else none
  | none => none
theorem rdT_ok {bs ts : List UInt8} {k m : Nat} (h : rdT bs k = some (ts, m)) : ∃ n e, rdC bs 1048576 k = some (n, e) ∧ e + n ≤ bs.length ∧ ts = (bs.drop e).take n ∧ m = e + n := by
  unfold rdT at h
  split at h
  · rename_i n e hr
    cases hb : decide (e + n ≤ bs.length) with
    | true => rw [hb] at h; cases h; exact ⟨n, e, hr, of_decide_eq_true hb, rfl, rfl⟩
    | false => rw [hb] at h; cases h
  · cases h
theorem rdT_no {bs : List UInt8} {k : Nat} (h : rdT bs k = none) : rdC bs 1048576 k = none ∨ ∃ n e, rdC bs 1048576 k = some (n, e) ∧ ¬ e + n ≤ bs.length := by
  unfold rdT at h
  split at h
  · rename_i n e hr
    refine .inr ⟨n, e, hr, fun hq => ?_⟩
    rw [decide_eq_true hq] at h; cases h
  · exact .inl ‹_›
theorem text_read (B : List D) (bs ts : List UInt8) (hB : B = bs.map byteD) (k m : Nat) (hr : rdT bs k = some (ts, m)) (hl : bs.length < 2 ^ 63) :
    LocalCall Try.prog 70 [.ptr 9 []] [(9, rd B k)] [] (one [.d (.sl (ts.map byteD))]) [(9, rd B m)] := by
  obtain ⟨n, e, hc, hn, rfl, rfl⟩ := rdT_ok hr
  obtain ⟨h1, h2, h3⟩ := rdC_ok hc
  have he := rdN_le bs _ _ _ _ _ _ h1
  have hlen : B.length = bs.length := by rw [hB]; simp
  have w1 : IntKind.i64.wrap ((B.length : Int) - (e : Int)) = (B.length : Int) - e := wrap64_id (by omega) (by omega)
  have w2 : IntKind.i64.wrap ((e : Int) + (n : Int)) = ((e + n : Nat) : Int) := by rw [wrap64_id (by omega) (by omega)]; rfl
  have w3 : IntKind.i64.wrap (((e + n : Nat) : Int) - (n : Int)) = (e : Int) := by rw [wrap64_id (by omega) (by omega)]; omega
  have hcut : cutD B (e : Int) ((e + n : Nat) : Int) = ((bs.drop e).take n).map byteD := by
    unfold cutD
    rw [Int.toNat_natCast, Int.toNat_natCast, hB, List.drop_take, ← List.map_drop, ← List.map_take]
    congr 2; omega
  have hcl : (((bs.drop e).take n).map byteD).length = n := by
    rw [List.length_map, List.length_take, List.length_drop]; omega
  refine vc_fn mixed Try.func70 rfl rfl [] (vzH rfl) ?_
  repeat' (first | ((with_reducible refine vzH ?_); first | decide +kernel | rfl) | (with_reducible refine vzC ?_; rfl) | (with_reducible first | (refine vzZ ?_; constructor) | refine vzC ?_ | refine vc_call [] (count_ok B bs hB 1048576 k n e hc (by omega) hl) ?_ | refine vc_ret [true] [] ?_ | refine vzB [] ?_ ?_ ?_ | refine vzD ?_ ?_ | refine vc_ret [] [] ?_) | ((with_reducible first | refine vzE (fun h => ?_) (fun h => ?_) | refine vzF (fun h => ?_) (fun h => ?_)) <;> try (exfalso; omega)) | ((with_reducible refine vzG (fun h => ?_) (fun h => ?_)) <;> (try simp at h) <;> try (exfalso; omega)) | ((conv in Vc _ => arg 1; whnf); first | (with_reducible refine vzC ?_; rfl) | (with_reducible first | (refine vzZ ?_; constructor) | refine vzC ?_ | refine vc_call [] (count_ok B bs hB 1048576 k n e hc (by omega) hl) ?_ | refine vc_ret [true] [] ?_ | refine vzB [] ?_ ?_ ?_ | refine vzD ?_ ?_ | refine vc_ret [] [] ?_) | ((with_reducible first | refine vzE (fun h => ?_) (fun h => ?_) | refine vzF (fun h => ?_) (fun h => ?_)) <;> try (exfalso; omega)) | ((with_reducible refine vzG (fun h => ?_) (fun h => ?_)) <;> (try simp at h) <;> try (exfalso; omega))))
  all_goals (try simp only [w2, w3, hcut])
  all_goals first
    | rfl
    | exact ⟨⟨by omega, by omega, by omega⟩, fun y hy => by rw [hB] at hy; obtain ⟨c, _, rfl⟩ := List.mem_map.1 hy; rfl⟩
    | exact ⟨⟨trivial, room_le (b := 1048576) (by unfold Room; omega) rfl (by rw [hcl]; omega)⟩, fun y hy => by obtain ⟨c, _, rfl⟩ := List.mem_map.1 hy; rfl⟩
    | exact ⟨Nat.le_of_eq (Nat.zero_add _), trivial⟩
    | (rw [List.drop_zero, List.take_length]; done)
theorem text_nread (B : List D) (bs : List UInt8) (hB : B = bs.map byteD) (k : Nat) (hr : rdT bs k = none) (hl : bs.length < 2 ^ 63) :
    LocalPan Try.prog 70 [.ptr 9 []] [(9, rd B k)] [] fault [(9, .dead)] := by
  have hlen : B.length = bs.length := by rw [hB]; simp
  refine vc_fnPan mixed Try.func70 rfl rfl [] (vzH rfl) ?_
  rcases rdT_no hr with h1 | ⟨n, e, hc, hn⟩
  · skip
    repeat' (first | ((with_reducible refine vzH ?_); first | decide +kernel | rfl) | (with_reducible refine vzC ?_; rfl) | (with_reducible first | (refine vzZ ?_; constructor) | refine vzC ?_ | refine vc_pan [] (count_pan B bs hB 1048576 k h1 (by omega) (by omega) hl) ?_ | refine vc_panc [] [] ?_ ?_ | refine vzB [] ?_ ?_ ?_ | refine vzD ?_ ?_ | refine vc_ret [] [] ?_) | ((with_reducible first | refine vzE (fun h => ?_) (fun h => ?_) | refine vzF (fun h => ?_) (fun h => ?_)) <;> try (exfalso; omega)) | ((with_reducible refine vzG (fun h => ?_) (fun h => ?_)) <;> (try simp at h) <;> try (exfalso; omega)) | ((conv in Vc _ => arg 1; whnf); first | (with_reducible refine vzC ?_; rfl) | (with_reducible first | (refine vzZ ?_; constructor) | refine vzC ?_ | refine vc_pan [] (count_pan B bs hB 1048576 k h1 (by omega) (by omega) hl) ?_ | refine vc_panc [] [] ?_ ?_ | refine vzB [] ?_ ?_ ?_ | refine vzD ?_ ?_ | refine vc_ret [] [] ?_) | ((with_reducible first | refine vzE (fun h => ?_) (fun h => ?_) | refine vzF (fun h => ?_) (fun h => ?_)) <;> try (exfalso; omega)) | ((with_reducible refine vzG (fun h => ?_) (fun h => ?_)) <;> (try simp at h) <;> try (exfalso; omega))))
    all_goals rfl
  · obtain ⟨h1, h2, h3⟩ := rdC_ok hc
    have he := rdN_le bs _ _ _ _ _ _ h1
    have w1 : IntKind.i64.wrap ((B.length : Int) - (e : Int)) = (B.length : Int) - e := wrap64_id (by omega) (by omega)
    repeat' (first | ((with_reducible refine vzH ?_); first | decide +kernel | rfl) | (with_reducible refine vzC ?_; rfl) | (with_reducible first | (refine vzZ ?_; constructor) | refine vzC ?_ | refine vc_call [] (count_ok B bs hB 1048576 k n e hc (by omega) hl) ?_ | refine vc_pan [] (fail_pan B e) ?_ | refine vc_panc [] [] ?_ ?_ | refine vzB [] ?_ ?_ ?_ | refine vzD ?_ ?_ | refine vc_ret [] [] ?_) | ((with_reducible first | refine vzE (fun h => ?_) (fun h => ?_) | refine vzF (fun h => ?_) (fun h => ?_)) <;> try (exfalso; omega)) | ((with_reducible refine vzG (fun h => ?_) (fun h => ?_)) <;> (try simp at h) <;> try (exfalso; omega)) | ((conv in Vc _ => arg 1; whnf); first | (with_reducible refine vzC ?_; rfl) | (with_reducible first | (refine vzZ ?_; constructor) | refine vzC ?_ | refine vc_call [] (count_ok B bs hB 1048576 k n e hc (by omega) hl) ?_ | refine vc_pan [] (fail_pan B e) ?_ | refine vc_panc [] [] ?_ ?_ | refine vzB [] ?_ ?_ ?_ | refine vzD ?_ ?_ | refine vc_ret [] [] ?_) | ((with_reducible first | refine vzE (fun h => ?_) (fun h => ?_) | refine vzF (fun h => ?_) (fun h => ?_)) <;> try (exfalso; omega)) | ((with_reducible refine vzG (fun h => ?_) (fun h => ?_)) <;> (try simp at h) <;> try (exfalso; omega))))
    all_goals rfl
end Go.Proofs.Ytjgkngjeniameaa

namespace Go.Proofs.Ytjgkngjeniameaa
open Go.Sym
set_option maxRecDepth 10000
set_option maxHeartbeats 1000000
def textB (t : List UInt8) : List UInt8 := numB t.length ++ t
def textsB (vs : List (List UInt8)) : List UInt8 := vs.flatMap textB
theorem drop_cons {bs t : List UInt8} {k : Nat} {c : UInt8} (h : bs.drop k = c :: t) : k < bs.length ∧ bs.getD k 0 = c ∧ bs.drop (k + 1) = t := by
  have hk : k < bs.length := by
    rcases Nat.lt_or_ge k bs.length with hk | hk
    · exact hk
    · rw [List.drop_eq_nil_of_le hk] at h; cases h
  rw [List.drop_eq_getElem_cons hk] at h
  simp only [List.cons.injEq] at h
  refine ⟨hk, ?_, h.2⟩
  rw [List.getD_eq_getElem?_getD, List.getElem?_eq_getElem hk]; exact h.1
theorem cons_drop {bs : List UInt8} {k : Nat} (hk : k < bs.length) : bs.drop k = bs.getD k 0 :: bs.drop (k + 1) := by
  rw [List.drop_eq_getElem_cons hk, List.getD_eq_getElem?_getD, List.getElem?_eq_getElem hk]; rfl
theorem ofNat_byte (c : UInt8) : UInt8.ofNat c.toNat = c := by simp
theorem pow_step (j : Nat) : 2 ^ (7 * (j + 1)) = 128 * 2 ^ (7 * j) := by
  rw [show 7 * (j + 1) = 7 * j + 7 by omega, Nat.pow_add]; omega
theorem pow_left {j : Nat} (h : j + 1 ≤ 9) : 2 ^ (64 - 7 * j) = 128 * 2 ^ (64 - 7 * (j + 1)) := by
  rw [show 64 - 7 * j = (64 - 7 * (j + 1)) + 7 by omega, Nat.pow_add]; omega
theorem rdN_num (bs : List UInt8) : ∀ (f j k n v e : Nat), f = 10 - j → j ≤ 9 → rdN bs f k n j = some (v, e) → ∃ m, v = n + m * 2 ^ (7 * j) ∧ m < 2 ^ (64 - 7 * j) ∧ (0 < j → 0 < m) ∧ bs.drop k = numB m ++ bs.drop e
  | 0, j, k, n, v, e, hf, hj, h => by cases h
  | f + 1, j, k, n, v, e, hf, hj, h => by
    rw [rdN] at h
    by_cases hk : k < bs.length
    rotate_left
    · simp only [hk, decide_false, cond_false] at h; cases h
    have hd := cons_drop hk
    generalize hc : bs.getD k 0 = c at h hd
    simp only [hk, decide_true, cond_true] at h
    have hlt := c.toNat_lt
    cases hb : (decide (j = 9) && decide (1 < c.toNat)) || (decide (0 < j) && decide (c.toNat = 0)) with
    | true => rw [hb] at h; cases h
    | false =>
      rw [hb] at h
      simp only [Bool.or_eq_false_iff, Bool.and_eq_false_iff, decide_eq_false_iff_not] at hb
      by_cases h8 : c.toNat < 128
      · simp only [h8, decide_true, cond_true, cond_false, Option.some.injEq, Prod.mk.injEq] at h
        refine ⟨c.toNat, ?_, ?_, fun hj0 => ?_, ?_⟩
        · rw [← h.1, Nat.mod_eq_of_lt h8]
        · rcases Nat.lt_or_ge j 9 with h9 | h9
          · have : 2 ^ 8 ≤ 2 ^ (64 - 7 * j) := Nat.pow_le_pow_right (by omega) (by omega)
            omega
          · obtain rfl : j = 9 := by omega
            have : c.toNat ≤ 1 := by omega
            omega
        · omega
        · rw [numB_small h8, ofNat_byte, ← h.2, hd]; rfl
      · simp only [h8, decide_false, cond_false] at h
        have hj8 : j + 1 ≤ 9 := by
          rcases Nat.lt_or_ge j 9 with h9 | h9
          · omega
          · exfalso
            have : j = 9 := by omega
            omega
        obtain ⟨m, h1, h2, h3, h4⟩ := rdN_num bs f (j + 1) (k + 1) _ v e (by omega) hj8 h
        have hm := h3 (by omega)
        refine ⟨c.toNat % 128 + 128 * m, ?_, ?_, fun _ => by omega, ?_⟩
        · rw [h1, pow_step, Nat.add_mul]
          have : m * (128 * 2 ^ (7 * j)) = 128 * m * 2 ^ (7 * j) := by rw [← Nat.mul_assoc, Nat.mul_comm m 128]
          omega
        · rw [pow_left hj8]; omega
        · rw [numB_big (by omega), show (c.toNat % 128 + 128 * m) / 128 = m by omega, hd, h4, show (c.toNat % 128 + 128 * m) % 128 + 128 = c.toNat by omega, ofNat_byte]
          rfl
theorem num_rdN (bs : List UInt8) : ∀ (f j k n m : Nat) (rest : List UInt8), f = 10 - j → j ≤ 9 → m < 2 ^ (64 - 7 * j) → (0 < j → 0 < m) → bs.drop k = numB m ++ rest → rdN bs f k n j = some (n + m * 2 ^ (7 * j), k + (numB m).length) ∧ bs.drop (k + (numB m).length) = rest
  | 0, j, k, n, m, rest, hf, hj, hm, h0, h => by omega
  | f + 1, j, k, n, m, rest, hf, hj, hm, h0, h => by
    by_cases h8 : m < 128
    · rw [numB_small h8] at h ⊢
      obtain ⟨hk, hc, hd⟩ := drop_cons h
      refine ⟨?_, hd⟩
      rw [rdN, hc]
      have hcn : (UInt8.ofNat m).toNat = m := UInt8.toNat_ofNat_of_lt' (show m < 256 by omega)
      rw [hcn]
      have hb : ((decide (j = 9) && decide (1 < m)) || (decide (0 < j) && decide (m = 0))) = false := by
        simp only [Bool.or_eq_false_iff, Bool.and_eq_false_iff, decide_eq_false_iff_not]
        refine ⟨?_, ?_⟩
        · by_cases h9 : j = 9
          · subst h9; right; omega
          · exact .inl h9
        · by_cases hj0 : 0 < j
          · have := h0 hj0; right; omega
          · exact .inl hj0
      simp only [hk, hb, h8, decide_true, cond_true, cond_false, Nat.mod_eq_of_lt h8, List.length_singleton]
    · rw [numB_big h8] at h ⊢
      have hj8 : j + 1 ≤ 9 := by
        rcases Nat.lt_or_ge j 9 with h9 | h9
        · omega
        · exfalso
          obtain rfl : j = 9 := by omega
          omega
      obtain ⟨hk, hc, hd⟩ := drop_cons h
      have hcn : (UInt8.ofNat (m % 128 + 128)).toNat = m % 128 + 128 := UInt8.toNat_ofNat_of_lt' (show m % 128 + 128 < 256 by omega)
      have hb : ((decide (j = 9) && decide (1 < m % 128 + 128)) || (decide (0 < j) && decide (m % 128 + 128 = 0))) = false := by
        simp only [Bool.or_eq_false_iff, Bool.and_eq_false_iff, decide_eq_false_iff_not]
        exact ⟨.inl (by omega), .inr (by omega)⟩
      have hn8 : ¬ m % 128 + 128 < 128 := by omega
      rw [pow_left hj8] at hm
      obtain ⟨k1, k2⟩ := num_rdN bs f (j + 1) (k + 1) (n + (m % 128 + 128) % 128 * 2 ^ (7 * j)) (m / 128) rest (by omega) hj8 (by omega) (fun _ => by omega) hd
      refine ⟨?_, ?_⟩
      · rw [rdN, hc, hcn]
        simp only [hk, hb, hn8, decide_true, decide_false, cond_true, cond_false]
        rw [k1]
        simp only [List.length_cons, Option.some.injEq, Prod.mk.injEq]
        refine ⟨?_, by omega⟩
        rw [pow_step, ← Nat.mul_assoc, Nat.mul_comm (m / 128) 128, Nat.add_assoc, ← Nat.add_mul]
        congr 2
        omega
      · rw [List.length_cons, show k + ((numB (m / 128)).length + 1) = k + 1 + (numB (m / 128)).length by omega]; exact k2
theorem rdN_iff {bs : List UInt8} {k v e : Nat} (h : rdN bs 10 k 0 0 = some (v, e)) : v < 2 ^ 64 ∧ bs.drop k = numB v ++ bs.drop e := by
  obtain ⟨m, h1, h2, _, h4⟩ := rdN_num bs 10 0 k 0 v e rfl (by omega) h
  have hv : v = m := by simpa using h1
  subst hv
  exact ⟨by simpa using h2, h4⟩
theorem iff_rdN {bs rest : List UInt8} {k v : Nat} (hv : v < 2 ^ 64) (h : bs.drop k = numB v ++ rest) : rdN bs 10 k 0 0 = some (v, k + (numB v).length) ∧ bs.drop (k + (numB v).length) = rest := by
  have := num_rdN bs 10 0 k 0 v rest rfl (by omega) (by simpa using hv) (by omega) h
  simpa using this
theorem iff_rdC {bs rest : List UInt8} {k v : Nat} {most : Int} (hv : v < 2 ^ 64) (h0 : 0 ≤ most) (hm : (v : Int) ≤ most) (h : bs.drop k = numB v ++ rest) : rdC bs most k = some (v, k + (numB v).length) ∧ bs.drop (k + (numB v).length) = rest := by
  obtain ⟨h1, h2⟩ := iff_rdN hv h
  refine ⟨?_, h2⟩
  unfold rdC
  rw [h1]
  simp [h0, hm]
theorem rdT_iff {bs ts : List UInt8} {k m : Nat} (h : rdT bs k = some (ts, m)) : ts.length ≤ 1048576 ∧ bs.drop k = textB ts ++ bs.drop m := by
  obtain ⟨n, e, h1, h2, rfl, rfl⟩ := rdT_ok h
  obtain ⟨h3, _, h5⟩ := rdC_ok h1
  obtain ⟨h6, h7⟩ := rdN_iff h3
  have hl : ((bs.drop e).take n).length = n := by rw [List.length_take, List.length_drop]; omega
  refine ⟨by rw [hl]; omega, ?_⟩
  unfold textB
  rw [hl, h7, List.append_assoc, ← List.drop_drop, List.take_append_drop]
theorem iff_rdT {bs ts rest : List UInt8} {k : Nat} (hl : ts.length ≤ 1048576) (h : bs.drop k = textB ts ++ rest) : rdT bs k = some (ts, k + (textB ts).length) ∧ bs.drop (k + (textB ts).length) = rest := by
  unfold textB at h ⊢
  rw [List.append_assoc] at h
  obtain ⟨h1, h2⟩ := iff_rdC (most := 1048576) (by omega) (by omega) (by omega) h
  have hd : bs.drop (k + (numB ts.length).length + ts.length) = rest := by
    rw [← List.drop_drop, h2]; simp
  have hlen := congrArg List.length h2
  rw [List.length_drop, List.length_append] at hlen
  have hk : k + (numB ts.length).length ≤ bs.length ∨ ts = [] := by
    rcases Nat.lt_or_ge bs.length (k + (numB ts.length).length) with hh | hh
    · right
      have : ts.length = 0 := by omega
      exact List.eq_nil_of_length_eq_zero this
    · exact .inl hh
  have hk2 := congrArg List.length h
  rw [List.length_drop, List.length_append, List.length_append] at hk2
  have hp := numB_pos ts.length
  refine ⟨?_, by rw [List.length_append, ← Nat.add_assoc]; exact hd⟩
  unfold rdT
  rw [h1]
  simp only
  rw [decide_eq_true (show k + (numB ts.length).length + ts.length ≤ bs.length by omega), cond_true, h2]
  simp only [List.take_left', List.length_append, Nat.add_assoc]
end Go.Proofs.Ytjgkngjeniameaa

namespace Go.Proofs.Ytjgkngjeniameaa
open Go.Sym
set_option maxRecDepth 10000
set_option maxHeartbeats 1000000
def rIn (B : List D) (k : Nat) (b : Bool) : AObj := .var (.d (.st [.sl B, .int .i64 (k : Int), .bool b]))
def inN (bs : List UInt8) : Nat → Nat → Nat → Nat → Nat × Nat × Bool
  | 0, k, _, _ => (0, k, true)
  | f + 1, k, n, j => bif decide (k < bs.length) then
      bif (decide (j = 9) && decide (1 < (bs.getD k 0).toNat)) || (decide (0 < j) && decide ((bs.getD k 0).toNat = 0)) then (0, k + 1, true)
      else bif decide ((bs.getD k 0).toNat < 128) then (n + (bs.getD k 0).toNat % 128 * 2 ^ (7 * j), k + 1, false)
      else inN bs f (k + 1) (n + (bs.getD k 0).toNat % 128 * 2 ^ (7 * j)) (j + 1)
    else (0, k, true)
def optN (r : Nat × Nat × Bool) : Option (Nat × Nat) := bif r.2.2 then none else some (r.1, r.2.1)
theorem inN_rdN (bs : List UInt8) : ∀ f k n j, rdN bs f k n j = optN (inN bs f k n j)
  | 0, _, _, _ => rfl
  | f + 1, k, n, j => by
    rw [rdN, inN]
    cases decide (k < bs.length) with
    | false => rfl
    | true =>
      simp only [cond_true]
      cases (decide (j = 9) && decide (1 < (bs.getD k 0).toNat)) || (decide (0 < j) && decide ((bs.getD k 0).toNat = 0)) with
      | true => rfl
      | false =>
        simp only [cond_false]
        cases decide ((bs.getD k 0).toNat < 128) with
        | true => rfl
        | false => exact inN_rdN bs f _ _ _
theorem inN_le (bs : List UInt8) : ∀ f k n j, k ≤ bs.length → (inN bs f k n j).2.1 ≤ bs.length
  | 0, _, _, _, h => h
  | f + 1, k, n, j, h => by
    rw [inN]
    by_cases hk : k < bs.length
    · simp only [hk, decide_true, cond_true]
      cases (decide (j = 9) && decide (1 < (bs.getD k 0).toNat)) || (decide (0 < j) && decide ((bs.getD k 0).toNat = 0)) with
      | true => exact hk
      | false =>
        simp only [cond_false]
        cases decide ((bs.getD k 0).toNat < 128) with
        | true => exact hk
        | false => exact inN_le bs f _ _ _ hk
    · simp only [hk, decide_false, cond_false]; exact h
structure InI (bs : List UInt8) (R : Nat × Nat × Bool) (x : Nat × Nat × Nat) : Prop where
  h : inN bs (10 - x.2.1) x.2.2 x.1 x.2.1 = R
  lt : x.1 < 2 ^ (7 * x.2.1)
  le : x.2.1 ≤ 10
  hk : x.2.2 ≤ bs.length
theorem InI.go {bs : List UInt8} {R : Nat × Nat × Bool} {x : Nat × Nat × Nat} (hI : InI bs R x) {q : Prop} (h10 : x.2.1 = 10 → R = (0, x.2.2, true) → Vc q) (h0 : x.2.1 ≤ 9 → ¬ x.2.2 < bs.length → R = (0, x.2.2, true) → Vc q)
    (h : ∀ c : UInt8, bs.getD x.2.2 0 = c → x.2.2 < bs.length → x.1 < 2 ^ (7 * x.2.1) → x.2.1 ≤ 9 → ((x.2.1 = 9 ∧ 1 < c.toNat) ∨ (0 < x.2.1 ∧ c.toNat = 0) → R = (0, x.2.2 + 1, true)) →
      (¬ (x.2.1 = 9 ∧ 1 < c.toNat) → ¬ (0 < x.2.1 ∧ c.toNat = 0) → c.toNat < 128 → R = (x.1 + c.toNat % 128 * 2 ^ (7 * x.2.1), x.2.2 + 1, false)) →
      (¬ (x.2.1 = 9 ∧ 1 < c.toNat) → ¬ (0 < x.2.1 ∧ c.toNat = 0) → ¬ c.toNat < 128 → InI bs R (x.1 + c.toNat % 128 * 2 ^ (7 * x.2.1), x.2.1 + 1, x.2.2 + 1)) → Vc q) : Vc q := by
  obtain ⟨n, j, k⟩ := x
  obtain ⟨e, lt, le, hk⟩ := hI
  simp only at e lt le hk h10 h0 h ⊢
  rcases Nat.lt_or_ge j 10 with hj | hj
  rotate_left
  · obtain rfl : j = 10 := by omega
    exact h10 rfl e.symm
  obtain ⟨f, hf⟩ : ∃ f, 10 - j = f + 1 := ⟨9 - j, by omega⟩
  rw [hf, inN] at e
  by_cases hi : k < bs.length
  rotate_left
  · simp only [hi, decide_false, cond_false] at e
    exact h0 (by omega) hi e.symm
  simp only [hi, decide_true, cond_true] at e
  refine h _ rfl hi lt (by omega) (fun hb => ?_) (fun h1 h2 h3 => ?_) (fun h1 h2 h3 => ?_)
  · have hb' : ((decide (j = 9) && decide (1 < (bs.getD k 0).toNat)) || (decide (0 < j) && decide ((bs.getD k 0).toNat = 0))) = true := by
      simpa only [Bool.or_eq_true, Bool.and_eq_true, decide_eq_true_eq] using hb
    rw [hb'] at e
    exact e.symm
  · have hb' : ((decide (j = 9) && decide (1 < (bs.getD k 0).toNat)) || (decide (0 < j) && decide ((bs.getD k 0).toNat = 0))) = false := by
      rw [Bool.eq_false_iff]
      simp only [ne_eq, Bool.or_eq_true, Bool.and_eq_true, decide_eq_true_eq]
      omega
    rw [hb'] at e
    simp only [h3, decide_true, cond_true, cond_false] at e
    exact e.symm
  · have hb' : ((decide (j = 9) && decide (1 < (bs.getD k 0).toNat)) || (decide (0 < j) && decide ((bs.getD k 0).toNat = 0))) = false := by
      rw [Bool.eq_false_iff]
      simp only [ne_eq, Bool.or_eq_true, Bool.and_eq_true, decide_eq_true_eq]
      omega
    rw [hb'] at e
    simp only [h3, decide_false, cond_false] at e
    have hd : (bs.getD k 0).toNat % 128 < 128 := Nat.mod_lt _ (by omega)
    refine ⟨by simp only; rw [show 10 - (j + 1) = f by omega]; exact e, ?_, by simp only; omega, by simp only; omega⟩
    simp only
    rw [show 7 * (j + 1) = 7 * j + 7 by omega, Nat.pow_add]
    have : (bs.getD k 0).toNat % 128 * 2 ^ (7 * j) ≤ 127 * 2 ^ (7 * j) := Nat.mul_le_mul_right _ (by omega)
    omega
theorem add_shift {n j : Nat} {c : UInt8} (hn : n < 2 ^ (7 * j)) (hj : j ≤ 9) (h1 : ¬ (j = 9 ∧ 1 < c.toNat)) :
    IntKind.u64.wrap ((n : Int) + shlI .u64 (IntKind.u64.wrap ((c.toNat : Int).tmod 128)) (IntKind.u64.wrap (IntKind.i64.wrap (7 * (j : Int))))) = ((n + c.toNat % 128 * 2 ^ (7 * j) : Nat) : Int) := by
  have hd : c.toNat % 128 < 128 := Nat.mod_lt _ (by omega)
  have hp : 2 ^ (7 * j) ≤ 2 ^ 63 := Nat.pow_le_pow_right (by omega) (by omega)
  have hbig : n + c.toNat % 128 * 2 ^ (7 * j) < 2 ^ 64 := by
    rcases Nat.lt_or_ge j 9 with h9 | h9
    · have h56 : 2 ^ (7 * j) ≤ 2 ^ 56 := Nat.pow_le_pow_right (by omega) (by omega)
      have : c.toNat % 128 * 2 ^ (7 * j) ≤ 127 * 2 ^ 56 := Nat.mul_le_mul (by omega) h56
      omega
    · obtain rfl : j = 9 := by omega
      have : c.toNat ≤ 1 := by omega
      have : c.toNat % 128 ≤ 1 := by omega
      have : c.toNat % 128 * 2 ^ (7 * 9) ≤ 1 * 2 ^ 63 := Nat.mul_le_mul this (Nat.le_refl _)
      omega
  have e1 : (c.toNat : Int).tmod 128 = ((c.toNat % 128 : Nat) : Int) := by
    rw [Int.tmod_eq_emod_of_nonneg (by omega)]; omega
  have e2 : IntKind.u64.wrap (IntKind.i64.wrap (7 * (j : Int))) = ((7 * j : Nat) : Int) := by
    rw [wrap64_id (by omega) (by omega), wrapU64_id (by omega) (by omega)]; omega
  have hs : shlI .u64 (IntKind.u64.wrap ((c.toNat : Int).tmod 128)) (IntKind.u64.wrap (IntKind.i64.wrap (7 * (j : Int)))) = ((c.toNat % 128 * 2 ^ (7 * j) : Nat) : Int) := by
    rw [e1, e2, wrapU64_id (by omega) (by omega)]
    have hm : min ((7 * j : Nat) : Int).toNat IntKind.u64.bits = 7 * j := by
      show min (7 * j) 64 = _
      omega
    unfold shlI
    rw [hm]
    have : ((c.toNat % 128 : Nat) : Int) * 2 ^ (7 * j) = ((c.toNat % 128 * 2 ^ (7 * j) : Nat) : Int) := by
      rw [Int.natCast_mul, Int.natCast_pow]; rfl
    rw [this, wrapU64_id (by omega) (by omega)]
  rw [hs, wrapU64_id (by omega) (by omega)]
  omega
theorem wrapU64_nn (n : Int) : 0 ≤ IntKind.u64.wrap n := by
  have e : IntKind.u64.wrap n = n % 18446744073709551616 := by simp [IntKind.wrap, IntKind.signed, IntKind.bits]
  rw [e]; omega
theorem inNum_bad (B : List D) (k : Nat) :
    LocalCall Try.prog 78 [.ptr 9 []] [(9, rIn B k true)] [] (one [.d (.int .u64 0)]) [(9, rIn B k true)] := by
  refine vc_fn mixed Try.func78 rfl rfl [] (vzH rfl) ?_
  repeat' (first | ((with_reducible refine vzH ?_); first | decide +kernel | rfl) | (with_reducible refine vzC ?_; rfl) | (with_reducible first | (refine vzZ ?_; constructor) | refine vzC ?_ | refine vc_loopI 79 (fun (_ : Unit) => [(0, .ptr 9 []), (3, .d (.int .u64 0)), (4, .d (.int .i64 0))]) (fun _ => [(9, rIn B k true)]) (fun _ => 0) (fun _ => True) () [] ?_ ?_ ?_ ?_ ?_ (fun x hI => ?_) | refine vzB [] ?_ ?_ ?_ | refine vzD ?_ ?_ | refine vc_ret [] [] ?_) | ((with_reducible first | refine vzE (fun h => ?_) (fun h => ?_) | refine vzF (fun h => ?_) (fun h => ?_)) <;> try (exfalso; omega)) | ((with_reducible refine vzG (fun h => ?_) (fun h => ?_)) <;> (try simp at h) <;> try (exfalso; omega)) | ((conv in Vc _ => arg 1; whnf); first | (with_reducible refine vzC ?_; rfl) | (with_reducible first | (refine vzZ ?_; constructor) | refine vzC ?_ | refine vc_loopI 79 (fun (_ : Unit) => [(0, .ptr 9 []), (3, .d (.int .u64 0)), (4, .d (.int .i64 0))]) (fun _ => [(9, rIn B k true)]) (fun _ => 0) (fun _ => True) () [] ?_ ?_ ?_ ?_ ?_ (fun x hI => ?_) | refine vzB [] ?_ ?_ ?_ | refine vzD ?_ ?_ | refine vc_ret [] [] ?_) | ((with_reducible first | refine vzE (fun h => ?_) (fun h => ?_) | refine vzF (fun h => ?_) (fun h => ?_)) <;> try (exfalso; omega)) | ((with_reducible refine vzG (fun h => ?_) (fun h => ?_)) <;> (try simp at h) <;> try (exfalso; omega))))
  all_goals first
    | rfl
    | trivial
theorem inNum_ok (B : List D) (bs : List UInt8) (hB : B = bs.map byteD) (k : Nat) (hk : k ≤ bs.length) (hl : bs.length < 2 ^ 63) (R : Nat × Nat × Bool) (hR : inN bs 10 k 0 0 = R) :
    LocalCall Try.prog 78 [.ptr 9 []] [(9, rIn B k false)] [] (one [.d (.int .u64 (R.1 : Int))]) [(9, rIn B R.2.1 R.2.2)] := by
  have hlen : B.length = bs.length := by rw [hB]; simp
  have hget : ∀ i (c : UInt8), i < bs.length → bs.getD i 0 = c → B[i]?.getD .nilp = .int .u8 (c.toNat : Int) ∧ B.getD i .nilp = .int .u8 (c.toNat : Int) := fun i c hi hc => by
    have : B.getD i .nilp = .int .u8 (c.toNat : Int) := by rw [hB, getD_byte hi, hc]; rfl
    exact ⟨by rw [← List.getD_eq_getElem?_getD]; exact this, this⟩
  refine vc_fn mixed Try.func78 rfl rfl [] (vzH rfl) ?_
  repeat' (first | ((with_reducible refine vzH ?_); first | decide +kernel | rfl) | (with_reducible refine vzC ?_; rfl) | (with_reducible first | (refine vzZ ?_; constructor) | refine vzC ?_ | refine vc_loopI 79 (fun (x : Nat × Nat × Nat) => [(0, .ptr 9 []), (3, .d (.int .u64 (x.1 : Int))), (4, .d (.int .i64 (x.2.1 : Int)))]) (fun x => [(9, rIn B x.2.2 false)]) (fun x => 10 - x.2.1) (InI bs R) (0, 0, k) [] ?_ ?_ ?_ ?_ ?_ (fun x hI => hI.go (fun hj e => ?_) (fun hj hi e => ?_) (fun c hc hi hn hj hb he hx => ?_)) | refine vc_nextI (x.1 + c.toNat % 128 * 2 ^ (7 * x.2.1), x.2.1 + 1, x.2.2 + 1) [] ?_ ?_ ?_ ?_ ?_ ?_ | refine vzB [] ?_ ?_ ?_ | refine vzD ?_ ?_ | refine vc_ret [] [] ?_) | ((with_reducible first | refine vzE (fun h => ?_) (fun h => ?_) | refine vzF (fun h => ?_) (fun h => ?_)) <;> try (exfalso; omega)) | ((with_reducible refine vzG (fun h => ?_) (fun h => ?_)) <;> (try simp at h) <;> try (exfalso; omega)) | ((conv in Vc _ => arg 1; whnf); first | (with_reducible refine vzC ?_; rfl) | (with_reducible first | (refine vzZ ?_; constructor) | refine vzC ?_ | refine vc_loopI 79 (fun (x : Nat × Nat × Nat) => [(0, .ptr 9 []), (3, .d (.int .u64 (x.1 : Int))), (4, .d (.int .i64 (x.2.1 : Int)))]) (fun x => [(9, rIn B x.2.2 false)]) (fun x => 10 - x.2.1) (InI bs R) (0, 0, k) [] ?_ ?_ ?_ ?_ ?_ (fun x hI => hI.go (fun hj e => ?_) (fun hj hi e => ?_) (fun c hc hi hn hj hb he hx => ?_)) | refine vc_nextI (x.1 + c.toNat % 128 * 2 ^ (7 * x.2.1), x.2.1 + 1, x.2.2 + 1) [] ?_ ?_ ?_ ?_ ?_ ?_ | refine vzB [] ?_ ?_ ?_ | refine vzD ?_ ?_ | refine vc_ret [] [] ?_) | ((with_reducible first | refine vzE (fun h => ?_) (fun h => ?_) | refine vzF (fun h => ?_) (fun h => ?_)) <;> try (exfalso; omega)) | ((with_reducible refine vzG (fun h => ?_) (fun h => ?_)) <;> (try simp at h) <;> try (exfalso; omega))))
  all_goals first
    | rfl
    | exact ⟨hR, by simp, by simp, hk⟩
    | (rw [e]; done)
    | (rw [e]; rfl)
    | (simp only; omega)
    | (congr 1; rw [wrap64_id (by omega) (by omega)]; simp only; omega)
    | skip
  all_goals
    obtain ⟨v1, v2⟩ := hget _ c hi hc
    have w1 : IntKind.i64.wrap ((x.2.2 : Int) + 1) = ((x.2.2 + 1 : Nat) : Int) := by rw [wrap64_id (by omega) (by omega)]; rfl
    simp only [v1, v2, w1, D.toInt, Int.toNat_natCast] at *
  all_goals first
    | rfl
    | (exfalso; omega)
    | (rw [hb (by omega)]; done)
    | (rw [hb (by omega)]; rfl)
    | exact hx (by omega) (by omega) (by omega)
    | (rw [add_shift hn hj (by omega)]; done)
    | (rw [he (by omega) (by omega) (by omega)]; done)
    | (rw [he (by omega) (by omega) (by omega), add_shift hn hj (by omega)]; done)
    | omega
    | exact wrapU64_nn _
    | exact ⟨⟨by omega, by omega⟩, rfl⟩
end Go.Proofs.Ytjgkngjeniameaa

namespace Go.Proofs.Ytjgkngjeniameaa
open Go.Sym
set_option maxRecDepth 10000
set_option maxHeartbeats 1000000
def inC (bs : List UInt8) (most k : Nat) : Nat × Nat × Bool := let r := inN bs 10 k 0 0; bif r.2.2 || decide (most < r.1) then (0, r.2.1, true) else (r.1, r.2.1, false)
theorem inC_rdC (bs : List UInt8) (most k : Nat) : rdC bs (most : Int) k = optN (inC bs most k) := by
  unfold rdC inC
  rw [inN_rdN]
  rcases inN bs 10 k 0 0 with ⟨v, e, b⟩
  cases b with
  | true => rfl
  | false =>
    simp only [optN, cond_false, Bool.false_or]
    by_cases h : most < v
    · have : ¬ ((v : Int) ≤ most) := by omega
      simp [h, this]
    · have : ((v : Int) ≤ most) := by omega
      simp [h, this]
theorem inC_le (bs : List UInt8) (most k : Nat) (h : k ≤ bs.length) : (inC bs most k).2.1 ≤ bs.length := by
  have := inN_le bs 10 k 0 0 h
  unfold inC
  simp only
  cases (inN bs 10 k 0 0).2.2 || decide (most < (inN bs 10 k 0 0).1) <;> exact this
theorem inC_most (bs : List UInt8) (most k : Nat) : (inC bs most k).1 ≤ most := by
  unfold inC
  simp only
  cases h : (inN bs 10 k 0 0).2.2 || decide (most < (inN bs 10 k 0 0).1) with
  | true => exact Nat.zero_le _
  | false =>
    simp only [Bool.or_eq_false_iff, decide_eq_false_iff_not] at h
    simp only [cond_false]
    omega
theorem inCnt_bad (B : List D) (k : Nat) (most : Int) :
    LocalCall Try.prog 75 [.ptr 9 [], .d (.int .i64 most)] [(9, rIn B k true)] [] (one [.d (.int .i64 0)]) [(9, rIn B k true)] := by
  refine vc_fn mixed Try.func75 rfl rfl [] (vzH rfl) ?_
  repeat' (first | ((with_reducible refine vzH ?_); first | decide +kernel | rfl) | (with_reducible refine vzC ?_; rfl) | (with_reducible first | (refine vzZ ?_; constructor) | refine vzC ?_ | refine vc_call [] (inNum_bad B k) ?_ | refine vzB [] ?_ ?_ ?_ | refine vzD ?_ ?_ | refine vc_ret [] [] ?_) | ((with_reducible first | refine vzE (fun h => ?_) (fun h => ?_) | refine vzF (fun h => ?_) (fun h => ?_)) <;> try (exfalso; omega)) | ((with_reducible refine vzG (fun h => ?_) (fun h => ?_)) <;> (try simp at h) <;> try (exfalso; omega)) | ((conv in Vc _ => arg 1; whnf); first | (with_reducible refine vzC ?_; rfl) | (with_reducible first | (refine vzZ ?_; constructor) | refine vzC ?_ | refine vc_call [] (inNum_bad B k) ?_ | refine vzB [] ?_ ?_ ?_ | refine vzD ?_ ?_ | refine vc_ret [] [] ?_) | ((with_reducible first | refine vzE (fun h => ?_) (fun h => ?_) | refine vzF (fun h => ?_) (fun h => ?_)) <;> try (exfalso; omega)) | ((with_reducible refine vzG (fun h => ?_) (fun h => ?_)) <;> (try simp at h) <;> try (exfalso; omega))))
  all_goals rfl
theorem inCnt_ok (B : List D) (bs : List UInt8) (hB : B = bs.map byteD) (most k : Nat) (hm : most < 2 ^ 63) (hk : k ≤ bs.length) (hl : bs.length < 2 ^ 63) (R : Nat × Nat × Bool) (hR : inC bs most k = R) :
    LocalCall Try.prog 75 [.ptr 9 [], .d (.int .i64 (most : Int))] [(9, rIn B k false)] [] (one [.d (.int .i64 (R.1 : Int))]) [(9, rIn B R.2.1 R.2.2)] := by
  have hw : IntKind.u64.wrap (most : Int) = most := wrapU64_id (by omega) (by omega)
  unfold inC at hR
  simp only at hR
  rcases h0 : inN bs 10 k 0 0 with ⟨v, e, b⟩
  rw [h0] at hR
  have hc := inNum_ok B bs hB k hk hl _ h0
  simp only at hR hc
  refine vc_fn mixed Try.func75 rfl rfl [] (vzH rfl) ?_
  cases b with
  | true =>
    simp only [Bool.true_or, cond_true] at hR
    subst hR
    repeat' (first | ((with_reducible refine vzH ?_); first | decide +kernel | rfl) | (with_reducible refine vzC ?_; rfl) | (with_reducible first | (refine vzZ ?_; constructor) | refine vzC ?_ | refine vc_call [] hc ?_ | refine vzB [] ?_ ?_ ?_ | refine vzD ?_ ?_ | refine vc_ret [] [] ?_) | ((with_reducible first | refine vzE (fun h => ?_) (fun h => ?_) | refine vzF (fun h => ?_) (fun h => ?_)) <;> try (exfalso; omega)) | ((with_reducible refine vzG (fun h => ?_) (fun h => ?_)) <;> (try simp at h) <;> try (exfalso; omega)) | ((conv in Vc _ => arg 1; whnf); first | (with_reducible refine vzC ?_; rfl) | (with_reducible first | (refine vzZ ?_; constructor) | refine vzC ?_ | refine vc_call [] hc ?_ | refine vzB [] ?_ ?_ ?_ | refine vzD ?_ ?_ | refine vc_ret [] [] ?_) | ((with_reducible first | refine vzE (fun h => ?_) (fun h => ?_) | refine vzF (fun h => ?_) (fun h => ?_)) <;> try (exfalso; omega)) | ((with_reducible refine vzG (fun h => ?_) (fun h => ?_)) <;> (try simp at h) <;> try (exfalso; omega))))
    all_goals rfl
  | false =>
    simp only [Bool.false_or] at hR
    by_cases hv : most < v
    · rw [decide_eq_true hv, cond_true] at hR
      subst hR
      repeat' (first | ((with_reducible refine vzH ?_); first | decide +kernel | rfl) | (with_reducible refine vzC ?_; rfl) | (with_reducible first | (refine vzZ ?_; constructor) | refine vzC ?_ | refine vc_call [] hc ?_ | refine vzB [] ?_ ?_ ?_ | refine vzD ?_ ?_ | refine vc_ret [] [] ?_) | ((with_reducible first | refine vzE (fun h => ?_) (fun h => ?_) | refine vzF (fun h => ?_) (fun h => ?_)) <;> try (exfalso; omega)) | ((with_reducible refine vzG (fun h => ?_) (fun h => ?_)) <;> (try simp at h) <;> try (exfalso; omega)) | ((conv in Vc _ => arg 1; whnf); first | (with_reducible refine vzC ?_; rfl) | (with_reducible first | (refine vzZ ?_; constructor) | refine vzC ?_ | refine vc_call [] hc ?_ | refine vzB [] ?_ ?_ ?_ | refine vzD ?_ ?_ | refine vc_ret [] [] ?_) | ((with_reducible first | refine vzE (fun h => ?_) (fun h => ?_) | refine vzF (fun h => ?_) (fun h => ?_)) <;> try (exfalso; omega)) | ((with_reducible refine vzG (fun h => ?_) (fun h => ?_)) <;> (try simp at h) <;> try (exfalso; omega))))
      all_goals first
        | rfl
        | (exfalso; rw [hw] at h; omega)
    · rw [decide_eq_false hv, cond_false] at hR
      subst hR
      have hv2 : IntKind.i64.wrap (v : Int) = v := wrap64_id (by omega) (by omega)
      repeat' (first | ((with_reducible refine vzH ?_); first | decide +kernel | rfl) | (with_reducible refine vzC ?_; rfl) | (with_reducible first | (refine vzZ ?_; constructor) | refine vzC ?_ | refine vc_call [] hc ?_ | refine vzB [] ?_ ?_ ?_ | refine vzD ?_ ?_ | refine vc_ret [] [] ?_) | ((with_reducible first | refine vzE (fun h => ?_) (fun h => ?_) | refine vzF (fun h => ?_) (fun h => ?_)) <;> try (exfalso; omega)) | ((with_reducible refine vzG (fun h => ?_) (fun h => ?_)) <;> (try simp at h) <;> try (exfalso; omega)) | ((conv in Vc _ => arg 1; whnf); first | (with_reducible refine vzC ?_; rfl) | (with_reducible first | (refine vzZ ?_; constructor) | refine vzC ?_ | refine vc_call [] hc ?_ | refine vzB [] ?_ ?_ ?_ | refine vzD ?_ ?_ | refine vc_ret [] [] ?_) | ((with_reducible first | refine vzE (fun h => ?_) (fun h => ?_) | refine vzF (fun h => ?_) (fun h => ?_)) <;> try (exfalso; omega)) | ((with_reducible refine vzG (fun h => ?_) (fun h => ?_)) <;> (try simp at h) <;> try (exfalso; omega))))
      all_goals first
        | rfl
        | (exfalso; rw [hw] at h; omega)
        | (rw [hv2]; done)
def inK (bs : List UInt8) (n k : Nat) : List UInt8 × Nat × Bool := bif decide (k + n ≤ bs.length) then ((bs.drop k).take n, k + n, false) else ([], k, true)
theorem inTake_bad (B : List D) (k : Nat) (n : Int) :
    LocalCall Try.prog 95 [.ptr 9 [], .d (.int .i64 n)] [(9, rIn B k true)] [] (one [.d (.sl [])]) [(9, rIn B k true)] := by
  refine vc_fn mixed Try.func95 rfl rfl [] (vzH rfl) ?_
  repeat' (first | ((with_reducible refine vzH ?_); first | decide +kernel | rfl) | (with_reducible refine vzC ?_; rfl) | (with_reducible first | (refine vzZ ?_; constructor) | refine vzC ?_ | refine vc_ret [true] [] ?_ | refine vzB [] ?_ ?_ ?_ | refine vzD ?_ ?_ | refine vc_ret [] [] ?_) | ((with_reducible first | refine vzE (fun h => ?_) (fun h => ?_) | refine vzF (fun h => ?_) (fun h => ?_)) <;> try (exfalso; omega)) | ((with_reducible refine vzG (fun h => ?_) (fun h => ?_)) <;> (try simp at h) <;> try (exfalso; omega)) | ((conv in Vc _ => arg 1; whnf); first | (with_reducible refine vzC ?_; rfl) | (with_reducible first | (refine vzZ ?_; constructor) | refine vzC ?_ | refine vc_ret [true] [] ?_ | refine vzB [] ?_ ?_ ?_ | refine vzD ?_ ?_ | refine vc_ret [] [] ?_) | ((with_reducible first | refine vzE (fun h => ?_) (fun h => ?_) | refine vzF (fun h => ?_) (fun h => ?_)) <;> try (exfalso; omega)) | ((with_reducible refine vzG (fun h => ?_) (fun h => ?_)) <;> (try simp at h) <;> try (exfalso; omega))))
  all_goals rfl
theorem inTake_ok (B : List D) (bs : List UInt8) (hB : B = bs.map byteD) (n k : Nat) (hn : n ≤ 1048576) (hk : k ≤ bs.length) (hl : bs.length < 2 ^ 63) (R : List UInt8 × Nat × Bool) (hR : inK bs n k = R) :
    LocalCall Try.prog 95 [.ptr 9 [], .d (.int .i64 (n : Int))] [(9, rIn B k false)] [] (one [.d (.sl (R.1.map byteD))]) [(9, rIn B R.2.1 R.2.2)] := by
  have hlen : B.length = bs.length := by rw [hB]; simp
  have w0 : IntKind.i64.wrap ((B.length : Int) - (k : Int)) = (B.length : Int) - k := wrap64_id (by omega) (by omega)
  refine vc_fn mixed Try.func95 rfl rfl [] (vzH rfl) ?_
  unfold inK at hR
  by_cases hc : k + n ≤ bs.length
  · rw [decide_eq_true hc, cond_true] at hR
    subst hR
    have w1 : IntKind.i64.wrap ((k : Int) + (n : Int)) = ((k + n : Nat) : Int) := by rw [wrap64_id (by omega) (by omega)]; rfl
    have w2 : IntKind.i64.wrap (((k + n : Nat) : Int) - (n : Int)) = (k : Int) := by rw [wrap64_id (by omega) (by omega)]; omega
    have hcut : cutD B (k : Int) ((k + n : Nat) : Int) = ((bs.drop k).take n).map byteD := by
      unfold cutD
      rw [Int.toNat_natCast, Int.toNat_natCast, hB, List.drop_take, ← List.map_drop, ← List.map_take]
      congr 2; omega
    have hcl : (((bs.drop k).take n).map byteD).length = n := by
      rw [List.length_map, List.length_take, List.length_drop]; omega
    repeat' (first | ((with_reducible refine vzH ?_); first | decide +kernel | rfl) | (with_reducible refine vzC ?_; rfl) | (with_reducible first | (refine vzZ ?_; constructor) | refine vzC ?_ | refine vc_ret [true] [] ?_ | refine vzB [] ?_ ?_ ?_ | refine vzD ?_ ?_ | refine vc_ret [] [] ?_) | ((with_reducible first | refine vzE (fun h => ?_) (fun h => ?_) | refine vzF (fun h => ?_) (fun h => ?_)) <;> try (exfalso; omega)) | ((with_reducible refine vzG (fun h => ?_) (fun h => ?_)) <;> (try simp at h) <;> try (exfalso; omega)) | ((conv in Vc _ => arg 1; whnf); first | (with_reducible refine vzC ?_; rfl) | (with_reducible first | (refine vzZ ?_; constructor) | refine vzC ?_ | refine vc_ret [true] [] ?_ | refine vzB [] ?_ ?_ ?_ | refine vzD ?_ ?_ | refine vc_ret [] [] ?_) | ((with_reducible first | refine vzE (fun h => ?_) (fun h => ?_) | refine vzF (fun h => ?_) (fun h => ?_)) <;> try (exfalso; omega)) | ((with_reducible refine vzG (fun h => ?_) (fun h => ?_)) <;> (try simp at h) <;> try (exfalso; omega))))
    all_goals (try simp only [w1, w2, hcut])
    all_goals first
      | rfl
      | (exfalso; rw [w0] at h; omega)
      | exact ⟨⟨by omega, by omega, by omega⟩, fun y hy => by rw [hB] at hy; obtain ⟨c, _, rfl⟩ := List.mem_map.1 hy; rfl⟩
      | exact ⟨⟨trivial, room_le (b := 1048576) (by unfold Room; omega) rfl (by rw [hcl]; omega)⟩, fun y hy => by obtain ⟨c, _, rfl⟩ := List.mem_map.1 hy; rfl⟩
      | exact ⟨Nat.le_of_eq (Nat.zero_add _), trivial⟩
      | (rw [List.drop_zero, List.take_length]; done)
      | skip
  · rw [decide_eq_false hc, cond_false] at hR
    subst hR
    repeat' (first | ((with_reducible refine vzH ?_); first | decide +kernel | rfl) | (with_reducible refine vzC ?_; rfl) | (with_reducible first | (refine vzZ ?_; constructor) | refine vzC ?_ | refine vc_ret [true] [] ?_ | refine vzB [] ?_ ?_ ?_ | refine vzD ?_ ?_ | refine vc_ret [] [] ?_) | ((with_reducible first | refine vzE (fun h => ?_) (fun h => ?_) | refine vzF (fun h => ?_) (fun h => ?_)) <;> try (exfalso; omega)) | ((with_reducible refine vzG (fun h => ?_) (fun h => ?_)) <;> (try simp at h) <;> try (exfalso; omega)) | ((conv in Vc _ => arg 1; whnf); first | (with_reducible refine vzC ?_; rfl) | (with_reducible first | (refine vzZ ?_; constructor) | refine vzC ?_ | refine vc_ret [true] [] ?_ | refine vzB [] ?_ ?_ ?_ | refine vzD ?_ ?_ | refine vc_ret [] [] ?_) | ((with_reducible first | refine vzE (fun h => ?_) (fun h => ?_) | refine vzF (fun h => ?_) (fun h => ?_)) <;> try (exfalso; omega)) | ((with_reducible refine vzG (fun h => ?_) (fun h => ?_)) <;> (try simp at h) <;> try (exfalso; omega))))
    all_goals first
      | rfl
      | (exfalso; rw [w0] at h; omega)
      | skip
def inT (bs : List UInt8) (k : Nat) : List UInt8 × Nat × Bool := let c := inC bs 1048576 k; bif c.2.2 then ([], c.2.1, true) else inK bs c.1 c.2.1
theorem inText_bad (B : List D) (k : Nat) :
    LocalCall Try.prog 76 [.ptr 9 []] [(9, rIn B k true)] [] (one [.d (.sl [])]) [(9, rIn B k true)] := by
  refine vc_fn mixed Try.func76 rfl rfl [] (vzH rfl) ?_
  repeat' (first | ((with_reducible refine vzH ?_); first | decide +kernel | rfl) | (with_reducible refine vzC ?_; rfl) | (with_reducible first | (refine vzZ ?_; constructor) | refine vzC ?_ | refine vc_call [] (inCnt_bad B k 1048576) ?_ | refine vc_call [] (inTake_bad B k 0) ?_ | refine vzB [] ?_ ?_ ?_ | refine vzD ?_ ?_ | refine vc_ret [] [] ?_) | ((with_reducible first | refine vzE (fun h => ?_) (fun h => ?_) | refine vzF (fun h => ?_) (fun h => ?_)) <;> try (exfalso; omega)) | ((with_reducible refine vzG (fun h => ?_) (fun h => ?_)) <;> (try simp at h) <;> try (exfalso; omega)) | ((conv in Vc _ => arg 1; whnf); first | (with_reducible refine vzC ?_; rfl) | (with_reducible first | (refine vzZ ?_; constructor) | refine vzC ?_ | refine vc_call [] (inCnt_bad B k 1048576) ?_ | refine vc_call [] (inTake_bad B k 0) ?_ | refine vzB [] ?_ ?_ ?_ | refine vzD ?_ ?_ | refine vc_ret [] [] ?_) | ((with_reducible first | refine vzE (fun h => ?_) (fun h => ?_) | refine vzF (fun h => ?_) (fun h => ?_)) <;> try (exfalso; omega)) | ((with_reducible refine vzG (fun h => ?_) (fun h => ?_)) <;> (try simp at h) <;> try (exfalso; omega))))
  all_goals rfl
theorem inText_ok (B : List D) (bs : List UInt8) (hB : B = bs.map byteD) (k : Nat) (hk : k ≤ bs.length) (hl : bs.length < 2 ^ 63) (R : List UInt8 × Nat × Bool) (hR : inT bs k = R) :
    LocalCall Try.prog 76 [.ptr 9 []] [(9, rIn B k false)] [] (one [.d (.sl (R.1.map byteD))]) [(9, rIn B R.2.1 R.2.2)] := by
  have hle := inC_le bs 1048576 k hk
  have hmost := inC_most bs 1048576 k
  unfold inT at hR
  simp only at hR
  rcases h0 : inC bs 1048576 k with ⟨v, e, b⟩
  rw [h0] at hR hle hmost
  have hc := inCnt_ok B bs hB 1048576 k (by omega) hk hl _ h0
  simp only at hR hc hle hmost
  refine vc_fn mixed Try.func76 rfl rfl [] (vzH rfl) ?_
  cases b with
  | true =>
    simp only [cond_true] at hR
    subst hR
    repeat' (first | ((with_reducible refine vzH ?_); first | decide +kernel | rfl) | (with_reducible refine vzC ?_; rfl) | (with_reducible first | (refine vzZ ?_; constructor) | refine vzC ?_ | refine vc_call [] hc ?_ | refine vc_call [] (inTake_bad B e (v : Int)) ?_ | refine vzB [] ?_ ?_ ?_ | refine vzD ?_ ?_ | refine vc_ret [] [] ?_) | ((with_reducible first | refine vzE (fun h => ?_) (fun h => ?_) | refine vzF (fun h => ?_) (fun h => ?_)) <;> try (exfalso; omega)) | ((with_reducible refine vzG (fun h => ?_) (fun h => ?_)) <;> (try simp at h) <;> try (exfalso; omega)) | ((conv in Vc _ => arg 1; whnf); first | (with_reducible refine vzC ?_; rfl) | (with_reducible first | (refine vzZ ?_; constructor) | refine vzC ?_ | refine vc_call [] hc ?_ | refine vc_call [] (inTake_bad B e (v : Int)) ?_ | refine vzB [] ?_ ?_ ?_ | refine vzD ?_ ?_ | refine vc_ret [] [] ?_) | ((with_reducible first | refine vzE (fun h => ?_) (fun h => ?_) | refine vzF (fun h => ?_) (fun h => ?_)) <;> try (exfalso; omega)) | ((with_reducible refine vzG (fun h => ?_) (fun h => ?_)) <;> (try simp at h) <;> try (exfalso; omega))))
    all_goals rfl
  | false =>
    simp only [cond_false] at hR
    have hc2 := inTake_ok B bs hB v e hmost hle hl _ hR
    repeat' (first | ((with_reducible refine vzH ?_); first | decide +kernel | rfl) | (with_reducible refine vzC ?_; rfl) | (with_reducible first | (refine vzZ ?_; constructor) | refine vzC ?_ | refine vc_call [] hc ?_ | refine vc_call [] hc2 ?_ | refine vzB [] ?_ ?_ ?_ | refine vzD ?_ ?_ | refine vc_ret [] [] ?_) | ((with_reducible first | refine vzE (fun h => ?_) (fun h => ?_) | refine vzF (fun h => ?_) (fun h => ?_)) <;> try (exfalso; omega)) | ((with_reducible refine vzG (fun h => ?_) (fun h => ?_)) <;> (try simp at h) <;> try (exfalso; omega)) | ((conv in Vc _ => arg 1; whnf); first | (with_reducible refine vzC ?_; rfl) | (with_reducible first | (refine vzZ ?_; constructor) | refine vzC ?_ | refine vc_call [] hc ?_ | refine vc_call [] hc2 ?_ | refine vzB [] ?_ ?_ ?_ | refine vzD ?_ ?_ | refine vc_ret [] [] ?_) | ((with_reducible first | refine vzE (fun h => ?_) (fun h => ?_) | refine vzF (fun h => ?_) (fun h => ?_)) <;> try (exfalso; omega)) | ((with_reducible refine vzG (fun h => ?_) (fun h => ?_)) <;> (try simp at h) <;> try (exfalso; omega))))
    all_goals rfl
theorem inDone_ok (B : List D) (k : Nat) (b : Bool) :
    LocalCall Try.prog 77 [.ptr 9 []] [(9, rIn B k b)] [] (one [.d (.bool (!b && decide (k = B.length)))]) [(9, rIn B k b)] := by
  refine vc_fn mixed Try.func77 rfl rfl [] (vzH rfl) ?_
  cases b with
  | true =>
    repeat' (first | ((with_reducible refine vzH ?_); first | decide +kernel | rfl) | (with_reducible refine vzC ?_; rfl) | (with_reducible first | (refine vzZ ?_; constructor) | refine vzC ?_ | refine vzB [] ?_ ?_ ?_ | refine vzD ?_ ?_ | refine vc_ret [] [] ?_) | ((with_reducible first | refine vzE (fun h => ?_) (fun h => ?_) | refine vzF (fun h => ?_) (fun h => ?_)) <;> try (exfalso; omega)) | ((with_reducible refine vzG (fun h => ?_) (fun h => ?_)) <;> (try simp at h) <;> try (exfalso; omega)) | ((conv in Vc _ => arg 1; whnf); first | (with_reducible refine vzC ?_; rfl) | (with_reducible first | (refine vzZ ?_; constructor) | refine vzC ?_ | refine vzB [] ?_ ?_ ?_ | refine vzD ?_ ?_ | refine vc_ret [] [] ?_) | ((with_reducible first | refine vzE (fun h => ?_) (fun h => ?_) | refine vzF (fun h => ?_) (fun h => ?_)) <;> try (exfalso; omega)) | ((with_reducible refine vzG (fun h => ?_) (fun h => ?_)) <;> (try simp at h) <;> try (exfalso; omega))))
    all_goals rfl
  | false =>
    repeat' (first | ((with_reducible refine vzH ?_); first | decide +kernel | rfl) | (with_reducible refine vzC ?_; rfl) | (with_reducible first | (refine vzZ ?_; constructor) | refine vzC ?_ | refine vzB [] ?_ ?_ ?_ | refine vzD ?_ ?_ | refine vc_ret [] [] ?_) | ((with_reducible first | refine vzE (fun h => ?_) (fun h => ?_) | refine vzF (fun h => ?_) (fun h => ?_)) <;> try (exfalso; omega)) | ((with_reducible refine vzG (fun h => ?_) (fun h => ?_)) <;> (try simp at h) <;> try (exfalso; omega)) | ((conv in Vc _ => arg 1; whnf); first | (with_reducible refine vzC ?_; rfl) | (with_reducible first | (refine vzZ ?_; constructor) | refine vzC ?_ | refine vzB [] ?_ ?_ ?_ | refine vzD ?_ ?_ | refine vc_ret [] [] ?_) | ((with_reducible first | refine vzE (fun h => ?_) (fun h => ?_) | refine vzF (fun h => ?_) (fun h => ?_)) <;> try (exfalso; omega)) | ((with_reducible refine vzG (fun h => ?_) (fun h => ?_)) <;> (try simp at h) <;> try (exfalso; omega))))
    all_goals first
      | rfl
      | (congr 1; simp only [Bool.not_false, Bool.true_and]; rw [Bool.eq_iff_iff]; simp; omega)
def padB (ts : List UInt8) (i : Nat) : List UInt8 := ts.take i ++ List.replicate (32 - i) 0
theorem padB_set {ts : List UInt8} {i : Nat} (h : i < ts.length) (h32 : i < 32) : ((padB ts i).map byteD).set i (byteD (ts.getD i 0)) = (padB ts (i + 1)).map byteD := by
  rw [← List.map_set]
  congr 1
  unfold padB
  rw [List.set_append_right _ _ (by rw [List.length_take]; omega), List.length_take, Nat.min_eq_left (by omega), Nat.sub_self]
  rw [show 32 - i = (32 - (i + 1)) + 1 by omega, List.replicate_succ, List.set_cons_zero, List.take_succ_eq_append_getElem h, List.getD_eq_getElem?_getD, List.getElem?_eq_getElem h, List.append_assoc]
  rfl
theorem padB_full {ts : List UInt8} (h : ts.length = 32) : padB ts 32 = ts := by
  unfold padB
  rw [List.take_of_length_le (by omega)]; simp
theorem inDig_ok (B : List D) (bs : List UInt8) (hB : B = bs.map byteD) (k : Nat) (hk : k ≤ bs.length) (hl : bs.length < 2 ^ 63) (R : List UInt8 × Nat × Bool) (hR : inK bs 32 k = R) :
    LocalCall Try.prog 79 [.ptr 9 []] [(9, rIn B k false)] [] (one [.d (.arr 32 1 ((padB R.1 R.1.length).map byteD))]) [(9, rIn B R.2.1 R.2.2)] := by
  have hc := inTake_ok B bs hB 32 k (by omega) hk hl _ hR
  have h32 : R.1.length ≤ 32 := by
    rw [← hR]; unfold inK
    cases decide (k + 32 ≤ bs.length) with
    | true => simp only [cond_true, List.length_take]; omega
    | false => simp
  have hlm : (R.1.map byteD).length = R.1.length := List.length_map _
  have hget : ∀ i, i < R.1.length → (R.1.map byteD).getD i .nilp = byteD (R.1.getD i 0) := fun i hi => getD_byte hi
  refine vc_fn mixed Try.func79 rfl rfl [] (vzH rfl) ?_
  repeat' (first | ((with_reducible refine vzH ?_); first | decide +kernel | rfl) | (with_reducible refine vzC ?_; rfl) | (with_reducible first | (refine vzZ ?_; constructor) | refine vzC ?_ | refine vc_call [] hc ?_ | refine vc_loopI 21 (fun (i : Nat) => [(0, .ptr 9 []), (2, .ptr 1000 []), (3, .ptr 2000 []), (4, .d (.sl (R.1.map byteD))), (5, .d (.int .i64 (i : Int)))]) (fun i => [(9, rIn B R.2.1 R.2.2), (1000, .var (.d (.arr 32 1 (List.replicate 32 (.int .u8 0))))), (2000, .var (.d (.arr 32 1 ((padB R.1 i).map byteD))))]) (fun i => 32 - i) (fun i => i ≤ R.1.length) 0 [] ?_ ?_ ?_ ?_ ?_ (fun i hI => ?_) | refine vc_nextI (i + 1) [] ?_ ?_ ?_ ?_ ?_ ?_ | refine vzB [] ?_ ?_ ?_ | refine vzD ?_ ?_ | refine vc_ret [] [] ?_) | ((with_reducible first | refine vzE (fun h => ?_) (fun h => ?_) | refine vzF (fun h => ?_) (fun h => ?_)) <;> try (exfalso; omega)) | ((with_reducible refine vzG (fun h => ?_) (fun h => ?_)) <;> (try simp at h) <;> try (exfalso; omega)) | ((conv in Vc _ => arg 1; whnf); first | (with_reducible refine vzC ?_; rfl) | (with_reducible first | (refine vzZ ?_; constructor) | refine vzC ?_ | refine vc_call [] hc ?_ | refine vc_loopI 21 (fun (i : Nat) => [(0, .ptr 9 []), (2, .ptr 1000 []), (3, .ptr 2000 []), (4, .d (.sl (R.1.map byteD))), (5, .d (.int .i64 (i : Int)))]) (fun i => [(9, rIn B R.2.1 R.2.2), (1000, .var (.d (.arr 32 1 (List.replicate 32 (.int .u8 0))))), (2000, .var (.d (.arr 32 1 ((padB R.1 i).map byteD))))]) (fun i => 32 - i) (fun i => i ≤ R.1.length) 0 [] ?_ ?_ ?_ ?_ ?_ (fun i hI => ?_) | refine vc_nextI (i + 1) [] ?_ ?_ ?_ ?_ ?_ ?_ | refine vzB [] ?_ ?_ ?_ | refine vzD ?_ ?_ | refine vc_ret [] [] ?_) | ((with_reducible first | refine vzE (fun h => ?_) (fun h => ?_) | refine vzF (fun h => ?_) (fun h => ?_)) <;> try (exfalso; omega)) | ((with_reducible refine vzG (fun h => ?_) (fun h => ?_)) <;> (try simp at h) <;> try (exfalso; omega))))
  all_goals (try simp only [Int.toNat_natCast])
  all_goals first
    | rfl
    | omega
    | (simp [padB]; rfl)
    | (rw [hget _ (by omega)]; exact ⟨⟨by omega, by omega⟩, rfl⟩)
    | (congr 1; rw [wrap64_id (by omega) (by omega)]; omega)
    | (rw [hget _ (by omega)]; exact congrArg (D.arr 32 1) (padB_set (by omega) (by omega)))
    | (obtain rfl : i = R.1.length := by omega
       rfl)
end Go.Proofs.Ytjgkngjeniameaa

namespace Go.Proofs.Ytjgkngjeniameaa
open Go.Sym
set_option maxRecDepth 10000
set_option maxHeartbeats 1000000
theorem dig_read (B : List D) (bs : List UInt8) (hB : B = bs.map byteD) (k : Nat) (hk : k + 32 ≤ bs.length) (hl : bs.length < 2 ^ 63) :
    LocalCall Try.prog 74 [.ptr 9 []] [(9, rd B k)] [] (one [.d (.arr 32 1 (((bs.drop k).take 32).map byteD))]) [(9, rd B (k + 32))] := by
  have hl32 : ((bs.drop k).take 32).length = 32 := by rw [List.length_take, List.length_drop]; omega
  have hget : ∀ i, i < 32 → bs.getD (k + i) 0 = ((bs.drop k).take 32).getD i 0 := fun i hi => by
    rw [List.getD_eq_getElem?_getD, List.getD_eq_getElem?_getD, List.getElem?_take, if_pos hi, List.getElem?_drop]
  refine vc_fn mixed Try.func74 rfl rfl [] (vzH rfl) ?_
  repeat' (first | ((with_reducible refine vzH ?_); first | decide +kernel | rfl) | (with_reducible refine vzC ?_; rfl) | (with_reducible first | (refine vzZ ?_; constructor) | refine vzC ?_ | refine vc_loopI 14 (fun (i : Nat) => [(0, .ptr 9 []), (2, .ptr 1000 []), (3, .ptr 2000 []), (5, .d (.int .i64 (i : Int)))]) (fun i => [(9, rd B (k + i)), (1000, .var (.d (.arr 32 1 (List.replicate 32 (.int .u8 0))))), (2000, .var (.d (.arr 32 1 ((padB ((bs.drop k).take 32) i).map byteD))))]) (fun i => 32 - i) (fun i => i ≤ 32) 0 [] ?_ ?_ ?_ ?_ ?_ (fun i hI => ?_) | refine vc_call [] (byte_ok B bs hB (k + i) (by omega) hl _ (hget i (by omega))) ?_ | refine vc_nextI (i + 1) [] ?_ ?_ ?_ ?_ ?_ ?_ | refine vzB [] ?_ ?_ ?_ | refine vzD ?_ ?_ | refine vc_ret [] [] ?_) | ((with_reducible first | refine vzE (fun h => ?_) (fun h => ?_) | refine vzF (fun h => ?_) (fun h => ?_)) <;> try (exfalso; omega)) | ((with_reducible refine vzG (fun h => ?_) (fun h => ?_)) <;> (try simp at h) <;> try (exfalso; omega)) | ((conv in Vc _ => arg 1; whnf); first | (with_reducible refine vzC ?_; rfl) | (with_reducible first | (refine vzZ ?_; constructor) | refine vzC ?_ | refine vc_loopI 14 (fun (i : Nat) => [(0, .ptr 9 []), (2, .ptr 1000 []), (3, .ptr 2000 []), (5, .d (.int .i64 (i : Int)))]) (fun i => [(9, rd B (k + i)), (1000, .var (.d (.arr 32 1 (List.replicate 32 (.int .u8 0))))), (2000, .var (.d (.arr 32 1 ((padB ((bs.drop k).take 32) i).map byteD))))]) (fun i => 32 - i) (fun i => i ≤ 32) 0 [] ?_ ?_ ?_ ?_ ?_ (fun i hI => ?_) | refine vc_call [] (byte_ok B bs hB (k + i) (by omega) hl _ (hget i (by omega))) ?_ | refine vc_nextI (i + 1) [] ?_ ?_ ?_ ?_ ?_ ?_ | refine vzB [] ?_ ?_ ?_ | refine vzD ?_ ?_ | refine vc_ret [] [] ?_) | ((with_reducible first | refine vzE (fun h => ?_) (fun h => ?_) | refine vzF (fun h => ?_) (fun h => ?_)) <;> try (exfalso; omega)) | ((with_reducible refine vzG (fun h => ?_) (fun h => ?_)) <;> (try simp at h) <;> try (exfalso; omega))))
  all_goals (try simp only [Int.toNat_natCast])
  all_goals first
    | rfl
    | omega
    | (simp [padB]; rfl)
    | (congr 1; rw [wrap64_id (by omega) (by omega)]; omega)
    | exact congrArg (D.arr 32 1) (padB_set (by omega) (by omega))
    | (obtain rfl : i = 32 := by omega
       rw [padB_full hl32]; done)
    | (obtain rfl : i = 32 := by omega
       rfl)
theorem dig_nread (B : List D) (bs : List UInt8) (hB : B = bs.map byteD) (k : Nat) (hk0 : k ≤ bs.length) (hk : ¬ k + 32 ≤ bs.length) (hl : bs.length < 2 ^ 63) :
    LocalPan Try.prog 74 [.ptr 9 []] [(9, rd B k)] [] fault [(9, .dead)] := by
  refine vc_fnPan mixed Try.func74 rfl rfl [] (vzH rfl) ?_
  repeat' (first | ((with_reducible refine vzH ?_); first | decide +kernel | rfl) | (with_reducible refine vzC ?_; rfl) | (with_reducible first | (refine vzZ ?_; constructor) | refine vzC ?_ | refine vc_loopI 14 (fun (i : Nat) => [(0, .ptr 9 []), (2, .ptr 1000 []), (3, .ptr 2000 []), (5, .d (.int .i64 (i : Int)))]) (fun i => [(9, rd B (k + i)), (1000, .var (.d (.arr 32 1 (List.replicate 32 (.int .u8 0))))), (2000, .var (.d (.arr 32 1 ((padB (bs.drop k) i).map byteD))))]) (fun i => 32 - i) (fun i => k + i ≤ bs.length) 0 [] ?_ ?_ ?_ ?_ ?_ (fun i hI => vc_by (k + i < bs.length) (fun hlt => ?_) (fun hge => ?_)) | refine vc_call [] (byte_ok B bs hB (k + i) hlt hl _ rfl) ?_ | refine vc_pan [] (byte_pan B bs hB (k + i) hge) ?_ | refine vc_nextI (i + 1) [] ?_ ?_ ?_ ?_ ?_ ?_ | refine vc_panc [] [1000, 2000] ?_ ?_ | refine vzB [] ?_ ?_ ?_ | refine vzD ?_ ?_ | refine vc_ret [] [] ?_) | ((with_reducible first | refine vzE (fun h => ?_) (fun h => ?_) | refine vzF (fun h => ?_) (fun h => ?_)) <;> try (exfalso; omega)) | ((with_reducible refine vzG (fun h => ?_) (fun h => ?_)) <;> (try simp at h) <;> try (exfalso; omega)) | ((conv in Vc _ => arg 1; whnf); first | (with_reducible refine vzC ?_; rfl) | (with_reducible first | (refine vzZ ?_; constructor) | refine vzC ?_ | refine vc_loopI 14 (fun (i : Nat) => [(0, .ptr 9 []), (2, .ptr 1000 []), (3, .ptr 2000 []), (5, .d (.int .i64 (i : Int)))]) (fun i => [(9, rd B (k + i)), (1000, .var (.d (.arr 32 1 (List.replicate 32 (.int .u8 0))))), (2000, .var (.d (.arr 32 1 ((padB (bs.drop k) i).map byteD))))]) (fun i => 32 - i) (fun i => k + i ≤ bs.length) 0 [] ?_ ?_ ?_ ?_ ?_ (fun i hI => vc_by (k + i < bs.length) (fun hlt => ?_) (fun hge => ?_)) | refine vc_call [] (byte_ok B bs hB (k + i) hlt hl _ rfl) ?_ | refine vc_pan [] (byte_pan B bs hB (k + i) hge) ?_ | refine vc_nextI (i + 1) [] ?_ ?_ ?_ ?_ ?_ ?_ | refine vc_panc [] [1000, 2000] ?_ ?_ | refine vzB [] ?_ ?_ ?_ | refine vzD ?_ ?_ | refine vc_ret [] [] ?_) | ((with_reducible first | refine vzE (fun h => ?_) (fun h => ?_) | refine vzF (fun h => ?_) (fun h => ?_)) <;> try (exfalso; omega)) | ((with_reducible refine vzG (fun h => ?_) (fun h => ?_)) <;> (try simp at h) <;> try (exfalso; omega))))
  all_goals (try simp only [Int.toNat_natCast])
  all_goals first
    | rfl
    | omega
    | (simp [padB]; rfl)
    | (congr 1; rw [wrap64_id (by omega) (by omega)]; omega)
    | (have e : bs.getD (k + i) 0 = (bs.drop k).getD i 0 := by rw [List.getD_eq_getElem?_getD, List.getD_eq_getElem?_getD, List.getElem?_drop]
       rw [e]
       exact congrArg (D.arr 32 1) (padB_set (by rw [List.length_drop]; omega) (by omega)))
def inNs (bs : List UInt8) (b : Bool) (k : Nat) : Nat × Nat × Bool := bif b then (0, k, true) else inN bs 10 k 0 0
def inTs (bs : List UInt8) (b : Bool) (k : Nat) : List UInt8 × Nat × Bool := bif b then ([], k, true) else inT bs k
theorem inNum_any (B : List D) (bs : List UInt8) (hB : B = bs.map byteD) (k : Nat) (b : Bool) (hk : k ≤ bs.length) (hl : bs.length < 2 ^ 63) :
    LocalCall Try.prog 78 [.ptr 9 []] [(9, rIn B k b)] [] (one [.d (.int .u64 ((inNs bs b k).1 : Int))]) [(9, rIn B (inNs bs b k).2.1 (inNs bs b k).2.2)] := by
  cases b with
  | true => exact inNum_bad B k
  | false => exact inNum_ok B bs hB k hk hl _ rfl
theorem inText_any (B : List D) (bs : List UInt8) (hB : B = bs.map byteD) (k : Nat) (b : Bool) (hk : k ≤ bs.length) (hl : bs.length < 2 ^ 63) :
    LocalCall Try.prog 76 [.ptr 9 []] [(9, rIn B k b)] [] (one [.d (.sl ((inTs bs b k).1.map byteD))]) [(9, rIn B (inTs bs b k).2.1 (inTs bs b k).2.2)] := by
  cases b with
  | true => exact inText_bad B k
  | false => exact inText_ok B bs hB k hk hl _ rfl
theorem inK_le (bs : List UInt8) (n k : Nat) (h : k ≤ bs.length) : (inK bs n k).2.1 ≤ bs.length := by
  unfold inK
  by_cases hc : k + n ≤ bs.length
  · rw [decide_eq_true hc]; exact hc
  · rw [decide_eq_false hc]; exact h
theorem inNs_le (bs : List UInt8) (b : Bool) (k : Nat) (h : k ≤ bs.length) : (inNs bs b k).2.1 ≤ bs.length := by
  cases b with
  | true => exact h
  | false => exact inN_le bs 10 k 0 0 h
theorem inTs_le (bs : List UInt8) (b : Bool) (k : Nat) (h : k ≤ bs.length) : (inTs bs b k).2.1 ≤ bs.length := by
  cases b with
  | true => exact h
  | false =>
    have := inC_le bs 1048576 k h
    unfold inTs inT
    simp only [cond_false]
    cases (inC bs 1048576 k).2.2 with
    | true => exact this
    | false => exact inK_le bs _ _ this
def optT (r : List UInt8 × Nat × Bool) : Option (List UInt8 × Nat) := bif r.2.2 then none else some (r.1, r.2.1)
theorem inT_rdT (bs : List UInt8) (k : Nat) : rdT bs k = optT (inT bs k) := by
  unfold rdT inT
  have h := inC_rdC bs 1048576 k
  rw [show ((1048576 : Nat) : Int) = 1048576 from rfl] at h
  rw [h]
  rcases inC bs 1048576 k with ⟨v, e, b⟩
  cases b with
  | true => rfl
  | false =>
    simp only [optN, cond_false]
    unfold inK
    cases decide (e + v ≤ bs.length) <;> rfl
def errI {α : Type} (o : Option α) : Int := if o = none then 3 else 0
theorem errI_none {α : Type} : errI (none : Option α) = 3 := rfl
theorem errI_some {α : Type} (x : α) : errI (some x) = 0 := rfl
end Go.Proofs.Ytjgkngjeniameaa

namespace Go.Proofs.Ytjgkngjeniameaa
open Go.Sym
set_option maxRecDepth 10000
set_option maxHeartbeats 1000000
theorem fits_dig (f : Nat) (a : List UInt8) : D.fits Try.prog (f + 2) 23 (.arr 32 1 (a.map byteD)) := by
  have hu : Try.prog.underlying 23 = some (.array 32 5) := rfl
  have hu2 : Try.prog.underlying 5 = some (.int .u8) := rfl
  simp only [D.fits, hu]
  refine ⟨trivial, rfl, rfl, fun y hy => ?_, fun y hy => ?_⟩
  · obtain ⟨c, _, rfl⟩ := List.mem_map.1 hy; rfl
  · obtain ⟨c, _, rfl⟩ := List.mem_map.1 hy
    simp only [hu2, byteD]
theorem beqs_bytes : ∀ a b : List UInt8, D.beqs (a.map byteD) (b.map byteD) = decide (a = b)
  | [], [] => rfl
  | [], _ :: _ => rfl
  | _ :: _, [] => rfl
  | x :: a, y :: b => by
    simp only [List.map_cons, D.beqs, beqs_bytes a b, byteD, D.beq, List.cons.injEq]
    rw [Bool.eq_iff_iff]
    simp only [Bool.and_eq_true, decide_eq_true_eq, beq_iff_eq]
    exact and_congr_left fun _ => ⟨fun h => UInt8.toNat_inj.1 (Int.ofNat_inj.1 h), fun h => by rw [h]⟩
theorem beq_dig (n e m f : Nat) (a b : List UInt8) : (D.arr n e (a.map byteD)).beq (.arr m f (b.map byteD)) = decide (a = b) := by
  simp only [D.beq]; exact beqs_bytes a b
end Go.Proofs.Ytjgkngjeniameaa

namespace Go.Proofs.Ytjgkngjeniameaa
open Go.Sym
set_option maxRecDepth 10000
set_option maxHeartbeats 1000000
theorem num_e (B : List D) (bs : List UInt8) (hB : B = bs.map byteD) (k : Nat) (hl : bs.length < 2 ^ 63) :
    LocalE (rdN bs 10 k 0 0) Try.prog 73 [.ptr 9 []] [(9, rd B k)] [] (fun a => [.d (.int .u64 (a.1 : Int))]) (fun a => [(9, rd B a.2)]) [] fault [(9, .dead)] :=
  ⟨fun a h => num_read B bs hB k a.1 a.2 h hl, fun h => num_nread B bs hB k h hl⟩
theorem text_e (B : List D) (bs : List UInt8) (hB : B = bs.map byteD) (k : Nat) (hl : bs.length < 2 ^ 63) :
    LocalE (rdT bs k) Try.prog 70 [.ptr 9 []] [(9, rd B k)] [] (fun a => [.d (.sl (a.1.map byteD))]) (fun a => [(9, rd B a.2)]) [] fault [(9, .dead)] :=
  ⟨fun a h => text_read B bs a.1 hB k a.2 h hl, fun h => text_nread B bs hB k h hl⟩
def rdG (bs : List UInt8) (k : Nat) : Option (List UInt8 × Nat) := bif decide (k + 32 ≤ bs.length) then some ((bs.drop k).take 32, k + 32) else none
theorem rdG_ok {bs d : List UInt8} {k e : Nat} (h : rdG bs k = some (d, e)) : k + 32 ≤ bs.length ∧ d = (bs.drop k).take 32 ∧ e = k + 32 := by
  unfold rdG at h
  by_cases hk : k + 32 ≤ bs.length
  · rw [decide_eq_true hk, cond_true] at h
    cases h; exact ⟨hk, rfl, rfl⟩
  · rw [decide_eq_false hk, cond_false] at h; cases h
theorem rdG_no {bs : List UInt8} {k : Nat} (h : rdG bs k = none) : ¬ k + 32 ≤ bs.length := fun hk => by
  unfold rdG at h
  rw [decide_eq_true hk, cond_true] at h; cases h
theorem dig_e (B : List D) (bs : List UInt8) (hB : B = bs.map byteD) (k : Nat) (hk : k ≤ bs.length) (hl : bs.length < 2 ^ 63) :
    LocalE (rdG bs k) Try.prog 74 [.ptr 9 []] [(9, rd B k)] [] (fun a => [.d (.arr 32 1 (a.1.map byteD))]) (fun a => [(9, rd B a.2)]) [] fault [(9, .dead)] := by
  refine ⟨fun a h => ?_, fun h => dig_nread B bs hB k hk (rdG_no h) hl⟩
  obtain ⟨h1, h2, h3⟩ := rdG_ok h
  rw [h2, h3]
  exact dig_read B bs hB k h1 hl
theorem rdT_le {bs ts : List UInt8} {k m : Nat} (h : rdT bs k = some (ts, m)) : m ≤ bs.length := by
  obtain ⟨n, e, _, h2, _, h4⟩ := rdT_ok h
  omega
theorem rdN_le2 {bs : List UInt8} {k v e : Nat} (h : rdN bs 10 k 0 0 = some (v, e)) : e ≤ bs.length := (rdN_le bs _ _ _ _ _ _ h).2
theorem rdG_le {bs ts : List UInt8} {k m : Nat} (h : rdG bs k = some (ts, m)) : m ≤ bs.length := by
  obtain ⟨h1, _, h3⟩ := rdG_ok h
  omega
def okC (c : UInt8) : Prop := (97 ≤ c.toNat ∧ c.toNat ≤ 122) ∨ (48 ≤ c.toNat ∧ c.toNat ≤ 57) ∨ c.toNat = 46 ∨ c.toNat = 45
instance (c : UInt8) : Decidable (okC c) := by unfold okC; exact inferInstance
theorem str_list (n : List UInt8) : (⟨n.toArray⟩ : ByteArray).toList = n := by rw [ByteArray.toList_eq]
structure Bnd where
  name : List UInt8
  key : List UInt8
  serial : Nat
def b0 : Bnd := ⟨[], [], 0⟩
end Go.Proofs.Ytjgkngjeniameaa

namespace Go.Proofs.Ytjgkngjeniameaa
open Go.Sym
set_option maxRecDepth 10000
set_option maxHeartbeats 2000000
theorem rdN_end {bs : List UInt8} {k : Nat} {a : Nat × Nat} (h : rdN bs 10 k 0 0 = some a) : a.2 ≤ bs.length := rdN_le2 (v := a.1) (e := a.2) h
theorem rdG_end {bs : List UInt8} {k : Nat} {a : List UInt8 × Nat} (h : rdG bs k = some a) : a.2 ≤ bs.length := rdG_le (ts := a.1) (m := a.2) h
structure Req where
  kind : Int
  name : List UInt8
  key : List UInt8
  auth : List UInt8
def zero32 : List UInt8 := List.replicate 32 0
structure Rt where
  epoch : Nat
  prev : List UInt8
  tree : List UInt8
  next : List UInt8
structure Sgn where
  root : Rt
  sig : List UInt8
abbrev digD (d : List UInt8) : D := .arr 32 1 (d.map byteD)
abbrev rootD (r : Rt) : D := .st [.int .u64 (r.epoch : Int), digD r.prev, digD r.tree, digD r.next]
abbrev sD (s : Sgn) : D := .st [rootD s.root, .sl (s.sig.map byteD)]
def rdSgn (bs : List UInt8) : Option (Sgn × Nat) := (rdN bs 10 0 0 0).bind fun e => (rdG bs e.2).bind fun p => (rdG bs p.2).bind fun t => (rdG bs t.2).bind fun n => (rdT bs n.2).bind fun s => some (⟨⟨e.1, p.1, t.1, n.1⟩, s.1⟩, s.2)
theorem sgn_in (B : List D) (bs : List UInt8) (hB : B = bs.map byteD) (hl : bs.length < 2 ^ 63) :
    LocalE (rdSgn bs) Try.prog 72 [.ptr 9 []] [(9, rd B 0)] [] (fun a => [.d (sD a.1)]) (fun a => [(9, rd B a.2)]) [] fault [(9, .dead)] := by
  refine vc_fnE mixed Try.func72 rfl rfl [] (rdSgn bs) (vzH rfl) ?_
  repeat' (first | ((with_reducible refine vzH ?_); first | decide +kernel | rfl) | (with_reducible refine vzC ?_; rfl) | (with_reducible first | (refine vzZ ?_; constructor) | refine vzC ?_ | refine vc_eAt [] 9 (by with_unfolding_all rfl) (num_e B bs hB 0 hl) (fun a0 h0 => ?_) (fun h0 => ?_) | refine vc_eAt [] 9 (by with_unfolding_all rfl) (dig_e B bs hB a0.2 (rdN_end h0) hl) (fun a1 h1 => ?_) (fun h1 => ?_) | refine vc_eAt [] 9 (by with_unfolding_all rfl) (dig_e B bs hB a1.2 (rdG_end h1) hl) (fun a2 h2 => ?_) (fun h2 => ?_) | refine vc_eAt [] 9 (by with_unfolding_all rfl) (dig_e B bs hB a2.2 (rdG_end h2) hl) (fun a3 h3 => ?_) (fun h3 => ?_) | refine vc_eAt [] 9 (by with_unfolding_all rfl) (text_e B bs hB a3.2 hl) (fun a4 h4 => ?_) (fun h4 => ?_) | refine vc_ek (⟨⟨a0.1, a1.1, a2.1, a3.1⟩, a4.1⟩, a4.2) ?_ ?_ | refine vc_ep ?_ ?_ | refine vc_panc [] [] ?_ ?_ | refine vzB [] ?_ ?_ ?_ | refine vzD ?_ ?_ | refine vc_ret [] [] ?_) | ((with_reducible first | refine vzE (fun h => ?_) (fun h => ?_) | refine vzF (fun h => ?_) (fun h => ?_)) <;> try (exfalso; omega)) | ((with_reducible refine vzG (fun h => ?_) (fun h => ?_)) <;> (try simp only [Go.Sym.vs1, reduceCtorEq] at h) <;> try (exfalso; first | omega | (simp at h; done))) | ((conv in Vc _ => arg 1; whnf); first | (with_reducible refine vzC ?_; rfl) | (with_reducible first | (refine vzZ ?_; constructor) | refine vzC ?_ | refine vc_eAt [] 9 (by with_unfolding_all rfl) (num_e B bs hB 0 hl) (fun a0 h0 => ?_) (fun h0 => ?_) | refine vc_eAt [] 9 (by with_unfolding_all rfl) (dig_e B bs hB a0.2 (rdN_end h0) hl) (fun a1 h1 => ?_) (fun h1 => ?_) | refine vc_eAt [] 9 (by with_unfolding_all rfl) (dig_e B bs hB a1.2 (rdG_end h1) hl) (fun a2 h2 => ?_) (fun h2 => ?_) | refine vc_eAt [] 9 (by with_unfolding_all rfl) (dig_e B bs hB a2.2 (rdG_end h2) hl) (fun a3 h3 => ?_) (fun h3 => ?_) | refine vc_eAt [] 9 (by with_unfolding_all rfl) (text_e B bs hB a3.2 hl) (fun a4 h4 => ?_) (fun h4 => ?_) | refine vc_ek (⟨⟨a0.1, a1.1, a2.1, a3.1⟩, a4.1⟩, a4.2) ?_ ?_ | refine vc_ep ?_ ?_ | refine vc_panc [] [] ?_ ?_ | refine vzB [] ?_ ?_ ?_ | refine vzD ?_ ?_ | refine vc_ret [] [] ?_) | ((with_reducible first | refine vzE (fun h => ?_) (fun h => ?_) | refine vzF (fun h => ?_) (fun h => ?_)) <;> try (exfalso; omega)) | ((with_reducible refine vzG (fun h => ?_) (fun h => ?_)) <;> (try simp only [Go.Sym.vs1, reduceCtorEq] at h) <;> try (exfalso; first | omega | (simp at h; done)))))
  all_goals first
    | rfl
    | exact ⟨trivial, trivial⟩
    | exact ⟨trivial, trivial, trivial⟩
    | exact ⟨trivial, trivial, trivial, trivial⟩
    | exact ⟨trivial, trivial, trivial, trivial, trivial⟩
    | (simp [rdSgn, h0]; done)
    | (simp [rdSgn, h0, h1]; done)
    | (simp [rdSgn, h0, h1, h2]; done)
    | (simp [rdSgn, h0, h1, h2, h3]; done)
    | (simp [rdSgn, h0, h1, h2, h3, h4]; done)
end Go.Proofs.Ytjgkngjeniameaa

namespace Go.Proofs.Ytjgkngjeniameaa
open Go.Sym
set_option maxRecDepth 10000
set_option maxHeartbeats 4000000
structure Prf where
  sides : List (List UInt8)
  fin : Int
  index : List UInt8
  value : List UInt8
def rdGs (bs : List UInt8) : Nat → Nat → Option (List (List UInt8) × Nat)
  | 0, k => some ([], k)
  | n + 1, k => (rdG bs k).bind fun a => (rdGs bs n a.2).map fun p => (a.1 :: p.1, p.2)
structure RgI (bs : List UInt8) (R : Option (List (List UInt8) × Nat)) (x : List (List UInt8) × Nat × Nat) : Prop where
  h : (rdGs bs x.2.1 x.2.2).map (fun p => (x.1 ++ p.1, p.2)) = R
  le : x.1.length + x.2.1 ≤ 256
  kle : x.2.2 ≤ bs.length
theorem RgI.stop {bs : List UInt8} {R : Option (List (List UInt8) × Nat)} {x : List (List UInt8) × Nat × Nat} (hI : RgI bs R x) (h : x.2.1 = 0) : R = some (x.1, x.2.2) := by
  obtain ⟨acc, n, k⟩ := x
  obtain ⟨h1, _, _⟩ := hI
  simp only at h h1
  subst h
  rw [← h1]; simp [rdGs]
theorem RgI.no {bs : List UInt8} {R : Option (List (List UInt8) × Nat)} {x : List (List UInt8) × Nat × Nat} (hI : RgI bs R x) (h : 0 < x.2.1) (hg : rdG bs x.2.2 = none) : R = none := by
  obtain ⟨acc, n, k⟩ := x
  obtain ⟨h1, _, _⟩ := hI
  simp only at h h1 hg
  obtain ⟨m, rfl⟩ : ∃ m, n = m + 1 := ⟨n - 1, by omega⟩
  rw [← h1]; simp [rdGs, hg]
theorem RgI.next {bs : List UInt8} {R : Option (List (List UInt8) × Nat)} {x : List (List UInt8) × Nat × Nat} (hI : RgI bs R x) (h : 0 < x.2.1) {a : List UInt8 × Nat} (hg : rdG bs x.2.2 = some a) : RgI bs R (x.1 ++ [a.1], x.2.1 - 1, a.2) := by
  obtain ⟨acc, n, k⟩ := x
  obtain ⟨h1, h2, _⟩ := hI
  simp only at h h1 h2 hg
  obtain ⟨m, rfl⟩ : ∃ m, n = m + 1 := ⟨n - 1, by omega⟩
  refine ⟨?_, by simp; omega, rdG_end hg⟩
  rw [← h1]
  simp only [rdGs, hg, Option.bind_some, Nat.add_sub_cancel, Option.map_map]
  congr 1
  funext p
  simp
end Go.Proofs.Ytjgkngjeniameaa

namespace Go.Proofs.Ytjgkngjeniameaa
open Go.Sym
set_option maxRecDepth 10000
set_option maxHeartbeats 1000000
def toFin {α : Type} (len : Nat) (r : Option (α × Nat)) : Option α := r.bind fun a => bif decide (a.2 = len) then some a.1 else none
theorem toFin_cases {α : Type} (len : Nat) (r : Option (α × Nat)) : (∃ a, r = some a ∧ a.2 = len ∧ toFin len r = some a.1) ∨ ((r = none ∨ ∃ a, r = some a ∧ ¬ a.2 = len) ∧ toFin len r = none) := by
  cases r with
  | none => exact .inr ⟨.inl rfl, rfl⟩
  | some a =>
    by_cases h : a.2 = len
    · exact .inl ⟨a, rfl, h, by simp [toFin, h]⟩
    · exact .inr ⟨.inr ⟨a, rfl, h⟩, by simp [toFin, h]⟩
def q0 : Req := ⟨0, [], [], zero32⟩
def s0 : Sgn := ⟨⟨0, zero32, zero32, zero32⟩, []⟩
end Go.Proofs.Ytjgkngjeniameaa

namespace Go.Proofs.Ytjgkngjeniameaa
open Go.Sym
set_option maxRecDepth 10000
set_option maxHeartbeats 4000000
instance : DecidableEq Bnd := fun a b => if h : a.name = b.name ∧ a.key = b.key ∧ a.serial = b.serial then isTrue (by cases a; cases b; simp_all) else isFalse (by rintro rfl; exact h ⟨rfl, rfl, rfl⟩)
instance : DecidableEq Req := fun a b => if h : a.kind = b.kind ∧ a.name = b.name ∧ a.key = b.key ∧ a.auth = b.auth then isTrue (by cases a; cases b; simp_all) else isFalse (by rintro rfl; exact h ⟨rfl, rfl, rfl, rfl⟩)
instance : DecidableEq Rt := fun a b => if h : a.epoch = b.epoch ∧ a.prev = b.prev ∧ a.tree = b.tree ∧ a.next = b.next then isTrue (by cases a; cases b; simp_all) else isFalse (by rintro rfl; exact h ⟨rfl, rfl, rfl, rfl⟩)
instance : DecidableEq Sgn := fun a b => if h : a.root = b.root ∧ a.sig = b.sig then isTrue (by cases a; cases b; simp_all) else isFalse (by rintro rfl; exact h ⟨rfl, rfl⟩)
instance : DecidableEq Prf := fun a b => if h : a.sides = b.sides ∧ a.fin = b.fin ∧ a.index = b.index ∧ a.value = b.value then isTrue (by cases a; cases b; simp_all) else isFalse (by rintro rfl; exact h ⟨rfl, rfl, rfl, rfl⟩)
theorem rt_ext (a b : Rt) : a = b ↔ a.epoch = b.epoch ∧ a.prev = b.prev ∧ a.tree = b.tree ∧ a.next = b.next := ⟨fun h => by subst h; exact ⟨rfl, rfl, rfl, rfl⟩, fun h => by cases a; cases b; simp_all⟩
theorem sgn_ext (a b : Sgn) : a = b ↔ a.root = b.root ∧ a.sig = b.sig := ⟨fun h => by subst h; exact ⟨rfl, rfl⟩, fun h => by cases a; cases b; simp_all⟩
theorem bool_iff {b : Bool} {p : Prop} [Decidable p] (h : b = true ↔ p) : D.bool b = D.bool (decide p) := by
  congr 1
  rw [Bool.eq_iff_iff, decide_eq_true_eq]; exact h
theorem fits_root (f : Nat) (r : Rt) : D.fits Try.prog (f + 3) 27 (rootD r) := by
  have h1 := fits_dig f r.prev
  have h2 := fits_dig f r.tree
  have h3 := fits_dig f r.next
  exact ⟨by decide +kernel, ⟨by decide, rfl, rfl⟩, rfl, ⟨by decide, rfl, rfl⟩, h1, ⟨by decide, rfl, rfl⟩, h2, ⟨by decide, rfl, rfl⟩, h3, trivial⟩
theorem beq_root (a b : Rt) : D.beq (rootD a) (rootD b) = decide (a = b) := by
  simp only [D.beq, D.beqs, beqs_bytes]
  rw [Bool.eq_iff_iff, decide_eq_true_eq, rt_ext]
  simp only [Bool.and_eq_true, beq_iff_eq, decide_eq_true_eq, and_true, Int.ofNat_inj]
theorem sameSgn_ok (a b : Sgn) : LocalCall Try.prog 47 [.d (sD a), .d (sD b)] [] [] (one [.d (.bool (decide (a = b)))]) [] := by
  refine vc_fn mixed Try.func47 rfl rfl [] (vzH rfl) ?_
  repeat' (first | ((with_reducible refine vzH ?_); first | decide +kernel | rfl) | (with_reducible refine vzC ?_; rfl) | (with_reducible first | (refine vzZ ?_; constructor) | refine vzC ?_ | refine vzB [] ?_ ?_ ?_ | refine vzD ?_ ?_ | refine vc_ret [] [] ?_) | ((with_reducible first | refine vzE (fun h => ?_) (fun h => ?_) | refine vzF (fun h => ?_) (fun h => ?_)) <;> try (exfalso; omega)) | ((with_reducible refine vzG (fun h => ?_) (fun h => ?_)) <;> (try simp only [Go.Sym.vs1, reduceCtorEq] at h) <;> try (exfalso; first | omega | (simp at h; done))) | ((conv in Vc _ => arg 1; whnf); first | (with_reducible refine vzC ?_; rfl) | (with_reducible first | (refine vzZ ?_; constructor) | refine vzC ?_ | refine vzB [] ?_ ?_ ?_ | refine vzD ?_ ?_ | refine vc_ret [] [] ?_) | ((with_reducible first | refine vzE (fun h => ?_) (fun h => ?_) | refine vzF (fun h => ?_) (fun h => ?_)) <;> try (exfalso; omega)) | ((with_reducible refine vzG (fun h => ?_) (fun h => ?_)) <;> (try simp only [Go.Sym.vs1, reduceCtorEq] at h) <;> try (exfalso; first | omega | (simp at h; done)))))
  all_goals (try simp only [bytesOf_map, str_list] at *)
  all_goals first
    | exact ⟨trivial, trivial⟩
    | exact ⟨by decide +kernel, fits_root 5 _, fits_root 5 _⟩
    | (have hr : D.beq (rootD a.root) (rootD b.root) = true := h
       rw [beq_root, decide_eq_true_eq] at hr
       refine bool_iff ?_; rw [cond_true, sgn_ext, beq_iff_eq]; exact ⟨fun e => ⟨hr, e⟩, fun e => e.2⟩)
    | (have hr : D.beq (rootD a.root) (rootD b.root) = false := h
       rw [beq_root, decide_eq_false_iff_not] at hr
       exact bool_no fun e => hr (by rw [e]))
    | rfl
def rightP (p : Prf) : Prop := p.sides.length ≤ 256 ∧ (p.fin = 1 ∨ (p.fin = 0 ∧ p.index = zero32 ∧ p.value = zero32))
instance (p : Prf) : Decidable (rightP p) := by unfold rightP; exact inferInstance
end Go.Proofs.Ytjgkngjeniameaa

namespace Go.Proofs.Ytjgkngjeniameaa
open Go.Sym
set_option maxRecDepth 10000
set_option maxHeartbeats 1000000
theorem room30 {k j : Nat} (hj : j = 1) (h : k ≤ 2 ^ 30) : Room k j := by subst hj; unfold Room; omega
theorem rNum_own (i : Int) (n : Nat) (hi : i = n) (hn : n < 2 ^ 64) : LocalCall Try.prog 58 [.d (.int .u64 i)] [] [2] (one [.sl 2 [] 1 0 ((numB n).map byteD).length]) [(2, .row 1 ((numB n).map byteD))] := by
  subst hi
  have h10 := numB_le10 hn
  refine vc_fn mixed Try.func58 rfl rfl [(500001, [7001003])] (vzH rfl) ?_
  repeat' (first | ((with_reducible refine vzH ?_); first | decide +kernel | rfl) | (with_reducible refine vzC ?_; rfl) | (with_reducible first | (refine vzZ ?_; constructor) | refine vzC ?_ | refine vc_loopI 20 (fun (x : List D × Nat) => [(3, .sl 7 [] 1 0 x.1.length), (0, .d (.int .u64 (x.2 : Int)))]) (fun x => [(7, .row 1 x.1)]) (fun x => x.2) (fun x => x.1 ++ (numB x.2).map byteD = (numB n).map byteD ∧ x.2 < 2 ^ 64) ([], n) [] ?_ ?_ ?_ ?_ ?_ (fun x hI => ?_) | refine vc_nextI (x.1 ++ [byteD (UInt8.ofNat (x.2 % 128 + 128))], x.2 / 128) [(7, 4024)] ?_ ?_ ?_ ?_ ?_ ?_ | refine vc_ret [] [(2, 6016)] ?_ | refine vzB [] ?_ ?_ ?_ | refine vzD ?_ ?_ | refine vc_ret [] [] ?_) | ((with_reducible first | refine vzE (fun h => ?_) (fun h => ?_) | refine vzF (fun h => ?_) (fun h => ?_)) <;> try (exfalso; omega)) | ((with_reducible refine vzG (fun h => ?_) (fun h => ?_)) <;> (try simp at h) <;> try (exfalso; omega)) | ((conv in Vc _ => arg 1; whnf); first | (with_reducible refine vzC ?_; rfl) | (with_reducible first | (refine vzZ ?_; constructor) | refine vzC ?_ | refine vc_loopI 20 (fun (x : List D × Nat) => [(3, .sl 7 [] 1 0 x.1.length), (0, .d (.int .u64 (x.2 : Int)))]) (fun x => [(7, .row 1 x.1)]) (fun x => x.2) (fun x => x.1 ++ (numB x.2).map byteD = (numB n).map byteD ∧ x.2 < 2 ^ 64) ([], n) [] ?_ ?_ ?_ ?_ ?_ (fun x hI => ?_) | refine vc_nextI (x.1 ++ [byteD (UInt8.ofNat (x.2 % 128 + 128))], x.2 / 128) [(7, 4024)] ?_ ?_ ?_ ?_ ?_ ?_ | refine vc_ret [] [(2, 6016)] ?_ | refine vzB [] ?_ ?_ ?_ | refine vzD ?_ ?_ | refine vc_ret [] [] ?_) | ((with_reducible first | refine vzE (fun h => ?_) (fun h => ?_) | refine vzF (fun h => ?_) (fun h => ?_)) <;> try (exfalso; omega)) | ((with_reducible refine vzG (fun h => ?_) (fun h => ?_)) <;> (try simp at h) <;> try (exfalso; omega))))
  all_goals (try simp only [List.drop_zero, List.take_length, rstep])
  all_goals (try rw [rdiv (by omega)])
  all_goals first
    | rfl
    | exact ⟨rfl, hn⟩
    | omega
    | decide
    | exact fun h => by cases h
    | skip
  all_goals
    obtain ⟨acc, m⟩ := x
    obtain ⟨h1, h2⟩ := hI
    simp only at h1 h2 h ⊢
    have hroom : Room (numB n).length 1 := by unfold Room; omega
    have hlen := congrArg List.length h1
    simp only [List.length_append, List.length_map] at hlen
    rcases Nat.lt_or_ge m 128 with hm | hm
    rotate_left
    · have hm : ¬ m < 128 := by omega
      have hns := numB_step (xs := []) hm h1
      have hlen2 := congrArg List.length hns
      simp only [List.length_append, List.length_map, List.length_nil] at hlen2
      first
      | (exfalso; omega)
      | exact ⟨hns, by omega⟩
      | refine ⟨⟨by simp, trivial, room_le hroom rfl ?_⟩, fun y hy => ?_⟩
        · simp only [List.length_append]; omega
        · simp only [List.mem_singleton] at hy; subst hy; rfl
    · rw [numB_small hm] at h1
      first
      | (exfalso; omega)
      | (rw [low8 hm]; exact h1)
      | (rw [low8 hm]; exact congrArg List.length h1)
      | exact ⟨Nat.le_of_eq (Nat.zero_add _), trivial⟩
      | (rw [low8 hm]; exact congrArg D.sl h1)
      | (rw [low8 hm]; refine ⟨⟨by simp, trivial, room_le hroom rfl (Nat.le_of_eq ((congrArg List.length h1).trans (List.length_map _)))⟩, fun y hy => ?_⟩
         simp only [List.mem_singleton] at hy; subst hy; rfl)
theorem rText_b (t : List UInt8) (hroom : Room (textB t).length 1) : LocalCall Try.prog 59 [.d (.sl (t.map byteD))] [] [] (one [.d (.sl ((textB t).map byteD))]) [] := by
  have h := rText_ok (t.map byteD) (size_bytes t) (by rw [List.length_map]; simpa [textB] using hroom)
  rw [List.length_map, ← List.map_append] at h
  exact h
theorem text_b {A B : Nat} (h : A ≠ B) (x t : List UInt8) (hroom : (x ++ textB t).length ≤ 2 ^ 30) :
    LocalCall Try.prog 66 [.sl A [] 1 0 (x.map byteD).length, .d (.sl (t.map byteD))] [(A, .row 1 (x.map byteD))] [B] (one [.sl B [] 1 0 ((x ++ textB t).map byteD).length]) [(B, .row 1 ((x ++ textB t).map byteD)), (A, .dead)] := by
  have e : x.map byteD ++ (numB (t.map byteD).length).map byteD ++ t.map byteD = (x ++ textB t).map byteD := by
    rw [List.length_map, textB, List.map_append, List.map_append, List.append_assoc]
  have := text_at h (x.map byteD) (t.map byteD) (size_bytes t) (by rw [e, List.length_map]; exact room30 rfl hroom)
  rw [e] at this
  exact this
theorem dig_ok (xs ds : List D) (hd : ds.length = 32) (hts : ∀ y, y ∈ ds → y.size = 1) (hroom : Room (xs ++ ds).length 1) {A B : Nat} (h : A ≠ B) :
    LocalCall Try.prog 65 [.sl A [] 1 0 xs.length, .d (.arr 32 1 ds)] [(A, .row 1 xs)] [B] (one [.sl B [] 1 0 (xs ++ ds).length]) [(B, .row 1 (xs ++ ds)), (A, .dead)] :=
  local_ren [(1, A), (2, B)] [(A, 1), (B, 2)] (digest_ok xs ds hd hts hroom) (ren_two h (by simp [AV.namesL, AV.names]) (by simp [one, AV.names]))
theorem dig_b {A B : Nat} (h : A ≠ B) (x d : List UInt8) (hd : d.length = 32) (hroom : (x ++ d).length ≤ 2 ^ 30) :
    LocalCall Try.prog 65 [.sl A [] 1 0 (x.map byteD).length, .d (.arr 32 1 (d.map byteD))] [(A, .row 1 (x.map byteD))] [B] (one [.sl B [] 1 0 ((x ++ d).map byteD).length]) [(B, .row 1 ((x ++ d).map byteD)), (A, .dead)] := by
  have := dig_ok (x.map byteD) (d.map byteD) (by rw [List.length_map]; exact hd) (size_bytes d) (by rw [← List.map_append, List.length_map]; exact room30 rfl hroom) h
  rw [← List.map_append] at this
  exact this
end Go.Proofs.Ytjgkngjeniameaa

namespace Go.Proofs.Ytjgkngjeniameaa
open Go.Sym
set_option maxRecDepth 10000
set_option maxHeartbeats 8000000
def sgnB (s : Sgn) : List UInt8 := numB s.root.epoch ++ [s.root.prev, s.root.tree, s.root.next].flatten ++ textB s.sig
theorem str_cut (n : List UInt8) : D.sl (List.take (⟨n.toArray⟩ : ByteArray).size (List.drop 0 (List.map byteD (⟨n.toArray⟩ : ByteArray).data.toList))) = D.sl (n.map byteD) := by
  show D.sl (List.take n.length (List.drop 0 (List.map byteD n))) = _
  rw [List.drop_zero, ← List.length_map (f := byteD), List.take_length]
theorem str_side (n : List UInt8) : 0 + (⟨n.toArray⟩ : ByteArray).size ≤ (List.map byteD (⟨n.toArray⟩ : ByteArray).data.toList).length ∧ True := by
  show 0 + n.length ≤ (List.map byteD n).length ∧ True
  rw [List.length_map]; exact ⟨Nat.le_of_eq (Nat.zero_add _), trivial⟩
theorem sgnW (s : Sgn) (he : s.root.epoch < 2 ^ 64) (h1 : s.root.prev.length = 32) (h2 : s.root.tree.length = 32) (h3 : s.root.next.length = 32) (hr : (sgnB s).length ≤ 2 ^ 30) : LocalCall Try.prog 48 [.d (sD s)] [] [] (one [.d (.sl ((sgnB s).map byteD))]) [] := by
  have hl := hr
  unfold sgnB at hl
  simp only [List.length_append] at hl
  have c0 := num_nil (A := 6) (B := 7) (by decide) _ _ rfl he
  generalize hds : [s.root.prev, s.root.tree, s.root.next] = ds at hl
  have h32 : ∀ d, d ∈ ds → d.length = 32 := fun d hd => by
    rw [← hds] at hd
    simp only [List.mem_cons, List.not_mem_nil, or_false] at hd
    rcases hd with rfl | rfl | rfl <;> assumption
  have hn : ds.length = 3 := by rw [← hds]; rfl
  have hg : ∀ i, i < 3 → (ds.getD i []).length = 32 := fun i hi => h32 _ (by rw [List.getD_eq_getElem?_getD, List.getElem?_eq_getElem (by omega)]; simp)
  have hJ : ∀ i, (ds.take i).flatten.length ≤ ds.flatten.length := fun i => by
    have h : ds.flatten = (ds.take i).flatten ++ (ds.drop i).flatten := by rw [← List.flatten_append, List.take_append_drop]
    rw [h, List.length_append]; omega
  have hN : ∀ i, i < 3 → (ds.take i).flatten ++ ds.getD i [] = (ds.take (i + 1)).flatten := fun i h => by
    rw [List.take_add_one, List.flatten_append, List.getD_eq_getElem?_getD, List.getElem?_eq_getElem (by omega)]; simp
  have c1 : ∀ i, i < 3 → LocalCall Try.prog 65 [.sl 7 [] 1 0 ((numB s.root.epoch ++ (ds.take i).flatten).map byteD).length, .d (.arr 32 1 ((ds.getD i []).map byteD))] [(7, .row 1 ((numB s.root.epoch ++ (ds.take i).flatten).map byteD))] [8] (one [.sl 8 [] 1 0 ((numB s.root.epoch ++ (ds.take (i + 1)).flatten).map byteD).length]) [(8, .row 1 ((numB s.root.epoch ++ (ds.take (i + 1)).flatten).map byteD)), (7, .dead)] := fun i hi => by
    have := dig_b (A := 7) (B := 8) (by decide) (numB s.root.epoch ++ (ds.take i).flatten) (ds.getD i []) (hg i hi) (by
      have := hJ (i + 1)
      rw [← hN i hi, List.length_append] at this
      simp only [List.length_append]; omega)
    rw [List.append_assoc, hN i hi] at this
    exact this
  have c2 := text_b (A := 7) (B := 8) (by decide) (numB s.root.epoch ++ (ds.take 3).flatten) s.sig (by
    have := hJ 3
    simp only [List.length_append]; omega)
  refine vc_fn mixed Try.func48 rfl rfl [] (vzH rfl) ?_
  repeat' (first | ((with_reducible refine vzH ?_); first | decide +kernel | rfl) | (with_reducible refine vzC ?_; rfl) | (with_reducible first | (refine vzZ ?_; constructor) | refine vzC ?_ | refine vc_loopI 33 (fun (i : Nat) => [(1, .ptr 1000 []), (3, .sl 7 [] 1 0 ((numB s.root.epoch ++ (ds.take i).flatten).map byteD).length), (19, .sl 3036 [] 32 0 3), (20, .d (.int .i64 3)), (21, .d (.int .i64 (i : Int)))]) (fun i => [(1000, .var (.d (sD s))), (7, .row 1 ((numB s.root.epoch ++ (ds.take i).flatten).map byteD)), (3036, .row 32 (ds.map digD))]) (fun i => 3 - i) (fun i => i ≤ 3) 0 [] ?_ ?_ ?_ ?_ ?_ (fun i hI => ?_) | refine vc_call [] (c1 i (by omega)) ?_ | refine vc_call [] c2 ?_ | refine vc_nextI (i + 1) [(7, 8)] ?_ ?_ ?_ ?_ ?_ ?_ | refine vc_call [] c0 ?_ | refine vc_ret [true] [] ?_ | refine vzB [] ?_ ?_ ?_ | refine vzD ?_ ?_ | refine vc_ret [] [] ?_) | ((with_reducible first | refine vzE (fun h => ?_) (fun h => ?_) | refine vzF (fun h => ?_) (fun h => ?_)) <;> try (exfalso; omega)) | ((with_reducible refine vzG (fun h => ?_) (fun h => ?_)) <;> (try simp only [Go.Sym.vs1, reduceCtorEq] at h) <;> try (exfalso; first | omega | (simp at h; done))) | ((conv in Vc _ => arg 1; whnf); first | (with_reducible refine vzC ?_; rfl) | (with_reducible first | (refine vzZ ?_; constructor) | refine vzC ?_ | refine vc_loopI 33 (fun (i : Nat) => [(1, .ptr 1000 []), (3, .sl 7 [] 1 0 ((numB s.root.epoch ++ (ds.take i).flatten).map byteD).length), (19, .sl 3036 [] 32 0 3), (20, .d (.int .i64 3)), (21, .d (.int .i64 (i : Int)))]) (fun i => [(1000, .var (.d (sD s))), (7, .row 1 ((numB s.root.epoch ++ (ds.take i).flatten).map byteD)), (3036, .row 32 (ds.map digD))]) (fun i => 3 - i) (fun i => i ≤ 3) 0 [] ?_ ?_ ?_ ?_ ?_ (fun i hI => ?_) | refine vc_call [] (c1 i (by omega)) ?_ | refine vc_call [] c2 ?_ | refine vc_nextI (i + 1) [(7, 8)] ?_ ?_ ?_ ?_ ?_ ?_ | refine vc_call [] c0 ?_ | refine vc_ret [true] [] ?_ | refine vzB [] ?_ ?_ ?_ | refine vzD ?_ ?_ | refine vc_ret [] [] ?_) | ((with_reducible first | refine vzE (fun h => ?_) (fun h => ?_) | refine vzF (fun h => ?_) (fun h => ?_)) <;> try (exfalso; omega)) | ((with_reducible refine vzG (fun h => ?_) (fun h => ?_)) <;> (try simp only [Go.Sym.vs1, reduceCtorEq] at h) <;> try (exfalso; first | omega | (simp at h; done)))))
  all_goals first
    | rfl
    | exact str_side _
    | exact str_cut _
    | exact ⟨Nat.le_of_eq (Nat.zero_add _), trivial⟩
    | (rw [List.drop_zero, List.take_length]; rfl)
    | omega
    | (rw [List.take_zero, List.flatten_nil, List.append_nil]; done)
    | exact ⟨by omega, by omega⟩
    | (congr 1; rw [wrap64_id (by omega) (by omega)]; rfl)
    | (rw [Int.toNat_natCast, Nat.zero_add, (map_at (f := digD) (d := []) (by omega)).1]; rfl)
    | (rw [Int.toNat_natCast, Nat.zero_add, (map_at (f := digD) (d := []) (by omega)).1]; exact ⟨⟨by rw [List.length_map]; omega, trivial⟩, rfl⟩)
    | (obtain rfl : i = 3 := by omega
       rfl)
    | (subst hds; rfl)
    | (show D.arr 32 1 ((ds.map digD).getD (0 + (i : Int).toNat) .nilp).els = _
       rw [Int.toNat_natCast, Nat.zero_add, (map_at (f := digD) (d := []) (by omega)).1]; rfl)
    | (subst hds; rw [List.drop_zero, List.take_length]; rfl)
    | (obtain rfl : i = 3 := by omega
       subst hds; rw [List.drop_zero, List.take_length]; rfl)
    | skip
end Go.Proofs.Ytjgkngjeniameaa

namespace Go.Proofs.Ytjgkngjeniameaa
open Go.Sym
set_option maxRecDepth 10000
set_option maxHeartbeats 1000000
theorem rdG_iff {bs d : List UInt8} {k m : Nat} (h : rdG bs k = some (d, m)) : d.length = 32 ∧ bs.drop k = d ++ bs.drop m := by
  obtain ⟨h1, rfl, rfl⟩ := rdG_ok h
  refine ⟨by rw [List.length_take, List.length_drop]; omega, ?_⟩
  rw [← List.drop_drop, List.take_append_drop]
theorem iff_rdG {bs d rest : List UInt8} {k : Nat} (hl : d.length = 32) (h : bs.drop k = d ++ rest) : rdG bs k = some (d, k + 32) ∧ bs.drop (k + 32) = rest := by
  have hlen : (bs.drop k).length = 32 + rest.length := by rw [h, List.length_append, hl]
  rw [List.length_drop] at hlen
  refine ⟨?_, ?_⟩
  · unfold rdG
    rw [decide_eq_true (by omega), cond_true, h, ← hl, List.take_left' rfl]
  · rw [← List.drop_drop, h, ← hl, List.drop_left' rfl]
theorem at_end {bs : List UInt8} {k : Nat} (hk : k ≤ bs.length) (h : bs.drop k = []) : k = bs.length := by
  have := congrArg List.length h
  rw [List.length_drop] at this
  simp at this; omega
structure wfS (s : Sgn) : Prop where
  epoch : s.root.epoch < 2 ^ 64
  prev : s.root.prev.length = 32
  tree : s.root.tree.length = 32
  next : s.root.next.length = 32
theorem sgn_back {s : Sgn} (hw : wfS s) (hs : s.sig.length ≤ 1048576) : toFin (sgnB s).length (rdSgn (sgnB s)) = some s := by
  have h0 : (sgnB s).drop 0 = numB s.root.epoch ++ (s.root.prev ++ (s.root.tree ++ (s.root.next ++ (textB s.sig ++ [])))) := by simp [sgnB]
  obtain ⟨q0, r0⟩ := iff_rdN hw.epoch h0
  obtain ⟨q1, r1⟩ := iff_rdG hw.prev r0
  obtain ⟨q2, r2⟩ := iff_rdG hw.tree r1
  obtain ⟨q3, r3⟩ := iff_rdG hw.next r2
  obtain ⟨q4, r4⟩ := iff_rdT hs r3
  have he := at_end (rdT_le q4) r4
  simp only [rdSgn, q0, q1, q2, q3, q4, Option.bind_some]
  simp only [toFin, Option.bind_some, he, decide_true, cond_true]
theorem sgn_one {bs : List UInt8} {s : Sgn} (h : toFin bs.length (rdSgn bs) = some s) : sgnB s = bs ∧ wfS s ∧ s.sig.length ≤ 1048576 := by
  rcases toFin_cases bs.length (rdSgn bs) with ⟨a, h1, h2, h3⟩ | ⟨_, h3⟩
  · rw [h] at h3
    cases h3
    unfold rdSgn at h1
    cases q0 : rdN bs 10 0 0 0 with
    | none => rw [q0] at h1; cases h1
    | some w =>
    rw [q0, Option.bind_some] at h1
    cases q1 : rdG bs w.2 with
    | none => rw [q1] at h1; cases h1
    | some x =>
    rw [q1, Option.bind_some] at h1
    cases q2 : rdG bs x.2 with
    | none => rw [q2] at h1; cases h1
    | some y =>
    rw [q2, Option.bind_some] at h1
    cases q3 : rdG bs y.2 with
    | none => rw [q3] at h1; cases h1
    | some z =>
    rw [q3, Option.bind_some] at h1
    cases q4 : rdT bs z.2 with
    | none => rw [q4] at h1; cases h1
    | some u =>
    rw [q4, Option.bind_some] at h1
    cases h1
    obtain ⟨e5, e0⟩ := rdN_iff (v := w.1) (e := w.2) q0
    obtain ⟨f1, e1⟩ := rdG_iff (d := x.1) (m := x.2) q1
    obtain ⟨f2, e2⟩ := rdG_iff (d := y.1) (m := y.2) q2
    obtain ⟨f3, e3⟩ := rdG_iff (d := z.1) (m := z.2) q3
    obtain ⟨f4, e4⟩ := rdT_iff (ts := u.1) (m := u.2) q4
    refine ⟨?_, ⟨e5, f1, f2, f3⟩, f4⟩
    simp only at h2
    rw [List.drop_zero] at e0
    rw [h2, List.drop_length] at e4
    rw [e0, e1, e2, e3, e4]
    simp [sgnB]
  · rw [h] at h3; cases h3
structure wfP (p : Prf) : Prop where
  sides : ∀ d, d ∈ p.sides → d.length = 32
  index : p.index.length = 32
  value : p.value.length = 32
theorem flat_code : ∀ {a b : List (List UInt8)} {u v : List UInt8}, a.length = b.length → (∀ d, d ∈ a → d.length = 32) → (∀ d, d ∈ b → d.length = 32) → a.flatten ++ u = b.flatten ++ v → a = b ∧ u = v
  | [], [], u, v, _, _, _, h => ⟨rfl, by simpa using h⟩
  | x :: a, y :: b, u, v, hl, ha, hb, h => by
    rw [List.flatten_cons, List.flatten_cons, List.append_assoc, List.append_assoc] at h
    obtain ⟨h1, h⟩ := List.append_inj h (by rw [ha x (by simp), hb y (by simp)])
    obtain ⟨h2, h3⟩ := flat_code (by simpa using hl) (fun d hd => ha d (by simp [hd])) (fun d hd => hb d (by simp [hd])) h
    exact ⟨by rw [h1, h2], h3⟩
end Go.Proofs.Ytjgkngjeniameaa

namespace Go.Proofs.Ytjgkngjeniameaa
open Go.Sym
set_option maxRecDepth 10000
theorem sll_of {n : Nat} {x : D} (h : okD Try.prog (n + 2) 28 x) : ∃ bs : List UInt8, x = .sl (bs.map byteD) ∧ bs.length ≤ maxLen := by
  have hu : Try.prog.underlying 28 = some (.slice 5) := rfl
  rw [show n + 2 = (n + 1) + 1 from rfl, okD, hu] at h
  obtain ⟨xs, rfl, hl, hx⟩ := h
  obtain ⟨bs, rfl⟩ := bytes_of (n := n) xs hx
  exact ⟨bs, rfl, by simpa using hl⟩
theorem root_of {n : Nat} {x : D} (h : okD Try.prog (n + 4) 27 x) : ∃ r : Rt, x = rootD r ∧ r.epoch < 2 ^ 64 ∧ r.prev.length = 32 ∧ r.tree.length = 32 ∧ r.next.length = 32 := by
  have hu : ∃ fs, Try.prog.underlying 27 = some (.struct fs) ∧ fs.toList.map (·.type) = [25, 23, 23, 23] := ⟨_, rfl, rfl⟩
  obtain ⟨fs, hu, ht⟩ := hu
  rw [show n + 4 = (n + 3) + 1 from rfl, okD, hu] at h
  obtain ⟨xs, rfl, hx⟩ := h
  rw [ht] at hx
  obtain ⟨i, a, b, c, rfl, hi, h0, h1, h2⟩ := okAll4 hx
  obtain ⟨j, rfl, hj⟩ := u64_of (n := n + 2) hi
  obtain ⟨p, hp, rfl⟩ := dig_of (n := n + 1) h0
  obtain ⟨t, ht, rfl⟩ := dig_of (n := n + 1) h1
  obtain ⟨d, hd, rfl⟩ := dig_of (n := n + 1) h2
  exact ⟨⟨j, p, t, d⟩, rfl, hj, hp, ht, hd⟩
theorem sgn_of {n : Nat} {x : D} (h : okD Try.prog (n + 5) 30 x) : ∃ s : Sgn, x = sD s ∧ wfS s := by
  have hu : ∃ fs, Try.prog.underlying 30 = some (.struct fs) ∧ fs.toList.map (·.type) = [27, 28] := ⟨_, rfl, rfl⟩
  obtain ⟨fs, hu, ht⟩ := hu
  rw [show n + 5 = (n + 4) + 1 from rfl, okD, hu] at h
  obtain ⟨xs, rfl, hx⟩ := h
  rw [ht] at hx
  obtain ⟨a, b, rfl, h0, h1⟩ := okAll2 hx
  obtain ⟨r, rfl, e1, e2, e3, e4⟩ := root_of (n := n) h0
  obtain ⟨k, rfl⟩ := sl_of (n := n + 2) h1
  exact ⟨⟨r, k⟩, rfl, e1, e2, e3, e4⟩
theorem digs_in {n : Nat} : ∀ (xs : List D), (∀ y, y ∈ xs → okD Try.prog (n + 2) 23 y) → ∃ ds : List (List UInt8), xs = ds.map digD ∧ ∀ d, d ∈ ds → d.length = 32
  | [], _ => ⟨[], rfl, nofun⟩
  | x :: xs, h => by
    obtain ⟨d, hd, rfl⟩ := dig_of (h x (by simp))
    obtain ⟨ds, rfl, hb⟩ := digs_in xs fun y hy => h y (by simp [hy])
    refine ⟨d :: ds, rfl, fun v hv => ?_⟩
    rcases List.mem_cons.1 hv with rfl | hv
    · exact hd
    · exact hb v hv
theorem digs_of {n : Nat} {x : D} (h : okD Try.prog (n + 3) 49 x) : ∃ ds : List (List UInt8), x = .sl (ds.map digD) ∧ (∀ d, d ∈ ds → d.length = 32) ∧ ds.length ≤ maxLen := by
  have hu : Try.prog.underlying 49 = some (.slice 23) := rfl
  rw [show n + 3 = (n + 2) + 1 from rfl, okD, hu] at h
  obtain ⟨xs, rfl, hl, hx⟩ := h
  obtain ⟨ds, rfl, hd⟩ := digs_in (n := n) xs hx
  exact ⟨ds, rfl, hd, by simpa using hl⟩
theorem bulk_sgn (s : Sgn) : s.sig.length ≤ (sD s).bulk := by
  have h2 := bulks_len (s.sig.map byteD)
  simp only [D.bulks, D.bulk, List.length_map] at h2 ⊢
  omega
end Go.Proofs.Ytjgkngjeniameaa

namespace Go.Proofs.Ytjgkngjeniameaa
open Go.Sym
set_option maxRecDepth 10000
set_option maxHeartbeats 1000000
theorem roomJ {k : Nat} (h : k ≤ 2 ^ 30) : Room k 1 := by unfold Room; omega
end Go.Proofs.Ytjgkngjeniameaa
