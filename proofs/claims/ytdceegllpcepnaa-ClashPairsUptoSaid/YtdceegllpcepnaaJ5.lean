import Derived.Test.YtdceegllpcepnaaJ1
import Derived.Test.YtdceegllpcepnaaJ2
import Derived.Test.YtdceegllpcepnaaJ3
import Derived.Test.YtdceegllpcepnaaJ4
set_option linter.unusedSimpArgs false
set_option linter.unusedVariables false
/-
The tags: numbers of eight bytes; a sign and texts behind it; parts of a key.
-/
set_option linter.unusedSimpArgs false
set_option linter.unusedVariables false
namespace Go.Proofs.Ytdceegllpcepnaa
open Go.Sym
set_option maxRecDepth 10000
set_option maxHeartbeats 1000000

def byt8 (n i : Nat) : UInt8 := UInt8.ofNat (n / 2 ^ (56 - 8 * i) % 256)
/-- A number in eight bytes, the highest first. -/
def num8 (n : Nat) : List UInt8 := (List.range 8).map (byt8 n)
theorem num8_length (n : Nat) : (num8 n).length = 8 := by simp [num8]

/-- The first i of eight bytes; then nothing yet. -/
def row8 (n i : Nat) : List UInt8 := (List.range 8).map fun j => bif decide (j < i) then byt8 n j else 0
theorem row8_all (n : Nat) : row8 n 8 = num8 n := by
  unfold row8 num8
  apply List.map_congr_left
  intro j hj
  rw [decide_eq_true (List.mem_range.1 hj), cond_true]
theorem row8_set (n i : Nat) (hi : i < 8) : ((row8 n i).map byteD).set i (byteD (byt8 n i)) = (row8 n (i + 1)).map byteD := by
  rw [← List.map_set]
  congr 1
  unfold row8
  apply List.ext_getElem
  · simp
  intro j h1 h2
  rw [List.getElem_set]
  simp only [List.getElem_map, List.getElem_range]
  by_cases h : i = j
  · subst h; rw [if_pos rfl, decide_eq_true (by omega), cond_true]
  · rw [if_neg h]
    by_cases h3 : j < i
    · rw [decide_eq_true h3, decide_eq_true (by omega)]
    · rw [decide_eq_false h3, decide_eq_false (by omega)]
theorem row8_length (n i : Nat) : (row8 n i).length = 8 := by simp [row8]
theorem take8 {l : List UInt8} (h : l.length = 8) : List.take (8 - Int.toNat 0) (List.drop (Int.toNat 0) (l.map byteD)) = l.map byteD := by
  show List.take 8 (List.drop 0 _) = _
  rw [List.drop_zero, List.take_of_length_le (by rw [List.length_map]; omega)]
theorem byt8_eq (n i : Nat) (k : Int) (hk : k = ((56 - 8 * i : Nat) : Int)) : D.int .u8 (IntKind.u8.wrap (shrI .u64 (n : Int) k)) = byteD (byt8 n i) := by
  subst hk
  rw [shr_u64 _ _ (by omega), u8_wrap]
  have h : n / 2 ^ (56 - 8 * i) % 256 < 256 := Nat.mod_lt _ (by decide)
  show _ = D.int .u8 (((UInt8.ofNat (n / 2 ^ (56 - 8 * i) % 256)).toNat : Nat) : Int)
  rw [UInt8.toNat_ofNat_of_lt' (by simpa using h)]
  exact congrArg (D.int .u8) (by omega)

theorem number_ok (x : Int) (n : Nat) (hx : x = n) : LocalCall Try.prog 60 [.d (.int .u64 x)] [] [] (one [.d (.sl ((num8 n).map byteD))]) [] := by
  subst hx
  have hw : ∀ i : Nat, i < 8 → IntKind.i64.wrap (56 - IntKind.i64.wrap (8 * (i : Int))) = ((56 - 8 * i : Nat) : Int) := fun i hi => by
    rw [wrap64_id (n := 8 * (i : Int)) (by omega) (by omega), wrap64_id (by omega) (by omega)]; omega
  refine vc_fn mixed Try.func60 rfl rfl [] (vc_chk rfl) ?_
  repeat' (first
      | ((with_reducible refine vc_chk ?_); first | decide +kernel | rfl)
      | (with_reducible refine vc_side0 ?_; rfl)
      | (with_reducible first
           | refine vc_true ?_ | refine vc_true2 ?_ | refine vc_side ?_ ?_ | refine vc_triv | refine vc_later ?_ | refine vc_caseT ?_ | refine vc_caseF ?_ | refine vc_cons ?_ | refine vc_nil ?_ ?_ | refine vc_seq ?_
              | refine vc_region ?_ | refine vc_cond ?_ | refine vc_block ?_ | refine vc_retc ?_ | refine vc_exit ?_ | refine vc_skip ?_ | refine vc_scope ?_ | refine vc_label ?_ | refine vc_goto ?_ | refine vc_wkSl0
              | refine vc_wkHp0 | refine vc_eqAVs0 | refine vc_preG0 | refine vc_wkSl ?_ ?_ | refine vc_wkHp ?_ ?_ | refine vc_eqAVs ?_ ?_ | refine vc_preG ?_ ?_ | refine vc_side0 ?_
              | refine vc_loopI 18 (fun (i : Nat) => [(0, .d (.int .u64 (n : Int))), (3, .ptr 2000 []), (5, .d (.int .i64 (i : Int)))]) (fun i => [(2000, .var (.d (.arr 8 1 ((row8 n i).map byteD))))]) (fun i => 8 - i) (fun i => i ≤ 8) 0 [] ?_ ?_ ?_ ?_ ?_ (fun i hI => ?_)
              | refine vc_nextI (i + 1) [] ?_ ?_ ?_ ?_ ?_ ?_ | refine vc_ret [true] [] ?_ | refine vc_weakf [] ?_ ?_ ?_ | refine vc_and ?_ ?_ | refine vc_ret [] [] ?_)
      | ((with_reducible first | refine vc_caseD (fun h => ?_) (fun h => ?_) | refine vc_caseN (fun h => ?_) (fun h => ?_)) <;> try (exfalso; omega))
      | ((with_reducible refine vc_case (fun h => ?_) (fun h => ?_)) <;> (try simp only [Bool.cond_true_left, Bool.cond_false_right, Bool.cond_true_right, Bool.cond_false_left, Bool.and_eq_true, Bool.or_eq_true, Bool.and_eq_false_iff, Bool.or_eq_false_iff, Bool.not_eq_true', Bool.not_eq_false', Bool.not_eq_true, Bool.not_eq_false, Bool.not_not, decide_eq_true_eq, decide_eq_false_iff_not, beq_iff_eq, beq_eq_false_iff_ne, bne_iff_ne, bne_eq_false_iff_eq, ne_eq, Classical.not_not, reduceCtorEq, false_or, or_false, true_and, and_true, Bool.false_eq_true, Bool.true_eq_false] at h) <;> try (exfalso; first | omega | (simp at h; done)))
      | (conv in Vc _ => arg 1; whnf
         first
          | (with_reducible refine vc_side0 ?_; rfl)
          | (with_reducible first
              | refine vc_true ?_ | refine vc_true2 ?_ | refine vc_side ?_ ?_ | refine vc_triv | refine vc_later ?_ | refine vc_caseT ?_ | refine vc_caseF ?_ | refine vc_cons ?_ | refine vc_nil ?_ ?_ | refine vc_seq ?_
                 | refine vc_region ?_ | refine vc_cond ?_ | refine vc_block ?_ | refine vc_retc ?_ | refine vc_exit ?_ | refine vc_skip ?_ | refine vc_scope ?_ | refine vc_label ?_ | refine vc_goto ?_ | refine vc_wkSl0
                 | refine vc_wkHp0 | refine vc_eqAVs0 | refine vc_preG0 | refine vc_wkSl ?_ ?_ | refine vc_wkHp ?_ ?_ | refine vc_eqAVs ?_ ?_ | refine vc_preG ?_ ?_ | refine vc_side0 ?_
                 | refine vc_loopI 18 (fun (i : Nat) => [(0, .d (.int .u64 (n : Int))), (3, .ptr 2000 []), (5, .d (.int .i64 (i : Int)))]) (fun i => [(2000, .var (.d (.arr 8 1 ((row8 n i).map byteD))))]) (fun i => 8 - i) (fun i => i ≤ 8) 0 [] ?_ ?_ ?_ ?_ ?_ (fun i hI => ?_)
                 | refine vc_nextI (i + 1) [] ?_ ?_ ?_ ?_ ?_ ?_ | refine vc_ret [true] [] ?_ | refine vc_weakf [] ?_ ?_ ?_ | refine vc_and ?_ ?_ | refine vc_ret [] [] ?_)
          | ((with_reducible first | refine vc_caseD (fun h => ?_) (fun h => ?_) | refine vc_caseN (fun h => ?_) (fun h => ?_)) <;> try (exfalso; omega))
          | ((with_reducible refine vc_case (fun h => ?_) (fun h => ?_)) <;> (try simp only [Bool.cond_true_left, Bool.cond_false_right, Bool.cond_true_right, Bool.cond_false_left, Bool.and_eq_true, Bool.or_eq_true, Bool.and_eq_false_iff, Bool.or_eq_false_iff, Bool.not_eq_true', Bool.not_eq_false', Bool.not_eq_true, Bool.not_eq_false, Bool.not_not, decide_eq_true_eq, decide_eq_false_iff_not, beq_iff_eq, beq_eq_false_iff_ne, bne_iff_ne, bne_eq_false_iff_eq, ne_eq, Classical.not_not, reduceCtorEq, false_or, or_false, true_and, and_true, Bool.false_eq_true, Bool.true_eq_false] at h) <;> try (exfalso; first | omega | (simp at h; done)))))
  all_goals (try simp only [Int.toNat_natCast])
  all_goals first
    | rfl
    | omega
    | (have hw2 := hw i (by omega); refine Int.le_trans ?_ (Int.le_of_eq hw2.symm); omega)
    | (rw [wrap64_id (by omega) (by omega)]; rfl)
    | (refine congrArg (D.arr 8 1) (Eq.trans (congrArg (List.set _ i) (byt8_eq n i _ (hw i (by omega)))) (row8_set n i (by omega))))
    | exact ⟨⟨by omega, by omega, by omega⟩, trivial⟩
    | (refine ⟨⟨trivial, ?_⟩, trivial⟩; rw [List.length_map, row8_length]; omega)
    | (obtain rfl : i = 8 := by omega
       rw [row8_all]; exact congrArg D.sl (take8 (num8_length n)))
    | skip

/-- The last j of eight bytes; ahead of them nothing yet. -/
def row8r (n j : Nat) : List UInt8 := (List.range 8).map fun t => bif decide (8 - j ≤ t) then byt8 n t else 0
theorem row8r_all (n : Nat) : row8r n 8 = num8 n := by
  unfold row8r num8
  apply List.map_congr_left
  intro j hj
  rw [decide_eq_true (by omega), cond_true]
theorem row8r_length (n j : Nat) : (row8r n j).length = 8 := by simp [row8r]
theorem row8r_set (n j : Nat) (hj : j < 8) : ((row8r n j).map byteD).set (7 - j) (byteD (byt8 n (7 - j))) = (row8r n (j + 1)).map byteD := by
  rw [← List.map_set]
  congr 1
  unfold row8r
  apply List.ext_getElem
  · simp
  intro t h1 h2
  rw [List.getElem_set]
  simp only [List.getElem_map, List.getElem_range]
  by_cases h : 7 - j = t
  · subst h; rw [if_pos rfl, decide_eq_true (by omega), cond_true]
  · rw [if_neg h]
    by_cases h3 : 8 - j ≤ t
    · rw [decide_eq_true h3, decide_eq_true (by omega)]
    · rw [decide_eq_false h3, decide_eq_false (by omega)]
theorem pow_8 (j : Nat) : 2 ^ (8 * j) = 256 ^ j := by rw [Nat.pow_mul]
theorem byt8_low (n j : Nat) (hj : j < 8) : byt8 n (7 - j) = UInt8.ofNat (n / 256 ^ j % 256) := by
  unfold byt8
  rw [← pow_8, show 56 - 8 * (7 - j) = 8 * j by omega]

theorem rNumber_ok (x : Int) (n : Nat) (hx : x = n) (hn : n < 2 ^ 64) : LocalCall Try.prog 62 [.d (.int .u64 x)] [] [] (one [.d (.sl ((num8 n).map byteD))]) [] := by
  subst hx
  have h8 : ∀ j : Nat, ((row8r n j).map byteD).length = 8 := fun j => by rw [List.length_map, row8r_length]
  have hb : ∀ j : Nat, j < 8 → D.int .u8 (IntKind.u8.wrap (((n / 256 ^ j : Nat) : Int).tmod 256)) = byteD (byt8 n (7 - j)) := fun j hj => by
    rw [byt8_low n j hj, Int.tmod_eq_emod_of_nonneg (Int.natCast_nonneg _)]
    have h : n / 256 ^ j % 256 < 256 := Nat.mod_lt _ (by decide)
    have e : ((n / 256 ^ j : Nat) : Int) % 256 = ((n / 256 ^ j % 256 : Nat) : Int) := by omega
    have e2 : (((n / 256 ^ j % 256 : Nat) : Int)) % 256 = ((n / 256 ^ j % 256 : Nat) : Int) := by omega
    rw [e, u8_wrap, e2]
    show _ = D.int .u8 (((UInt8.ofNat (n / 256 ^ j % 256)).toNat : Nat) : Int)
    rw [UInt8.toNat_ofNat_of_lt' (by simpa using h)]
  have hq : ∀ j : Nat, IntKind.u64.wrap (((n / 256 ^ j : Nat) : Int).tdiv 256) = ((n / 256 ^ (j + 1) : Nat) : Int) := fun j => by
    rw [Int.tdiv_eq_ediv_of_nonneg (Int.natCast_nonneg _), Nat.pow_succ, ← Nat.div_div_eq_div_mul]
    have h : n / 256 ^ j ≤ n := Nat.div_le_self _ _
    generalize n / 256 ^ j = q at h
    rw [wrapU64_id (by omega) (by omega)]; omega
  have h8 : ∀ j : Nat, ((row8r n j).map byteD).length = 8 := fun j => by rw [List.length_map, row8r_length]
  refine vc_fn mixed Try.func62 rfl rfl [] (vc_chk rfl) ?_
  repeat' (first
      | ((with_reducible refine vc_chk ?_); first | decide +kernel | rfl)
      | (with_reducible refine vc_side0 ?_; rfl)
      | (with_reducible first
           | refine vc_true ?_ | refine vc_true2 ?_ | refine vc_side ?_ ?_ | refine vc_triv | refine vc_later ?_ | refine vc_caseT ?_ | refine vc_caseF ?_ | refine vc_cons ?_ | refine vc_nil ?_ ?_ | refine vc_seq ?_
              | refine vc_region ?_ | refine vc_cond ?_ | refine vc_block ?_ | refine vc_retc ?_ | refine vc_exit ?_ | refine vc_skip ?_ | refine vc_scope ?_ | refine vc_label ?_ | refine vc_goto ?_ | refine vc_wkSl0
              | refine vc_wkHp0 | refine vc_eqAVs0 | refine vc_preG0 | refine vc_wkSl ?_ ?_ | refine vc_wkHp ?_ ?_ | refine vc_eqAVs ?_ ?_ | refine vc_preG ?_ ?_ | refine vc_side0 ?_
              | refine vc_loopI 19 (fun (j : Nat) => [(0, .d (.int .u64 ((n / 256 ^ j : Nat) : Int))), (3, .sl 2000 [] 1 0 8), (4, .d (.int .i64 (7 - (j : Int))))]) (fun j => [(2000, .row 1 ((row8r n j).map byteD))]) (fun j => 8 - j) (fun j => j ≤ 8) 0 [] ?_ ?_ ?_ ?_ ?_ (fun j hI => ?_)
              | refine vc_nextI (j + 1) [] ?_ ?_ ?_ ?_ ?_ ?_ | refine vc_ret [true] [] ?_ | refine vc_weakf [] ?_ ?_ ?_ | refine vc_and ?_ ?_ | refine vc_ret [] [] ?_)
      | ((with_reducible first | refine vc_caseD (fun h => ?_) (fun h => ?_) | refine vc_caseN (fun h => ?_) (fun h => ?_)) <;> try (exfalso; omega))
      | ((with_reducible refine vc_case (fun h => ?_) (fun h => ?_)) <;> (try simp only [Bool.cond_true_left, Bool.cond_false_right, Bool.cond_true_right, Bool.cond_false_left, Bool.and_eq_true, Bool.or_eq_true, Bool.and_eq_false_iff, Bool.or_eq_false_iff, Bool.not_eq_true', Bool.not_eq_false', Bool.not_eq_true, Bool.not_eq_false, Bool.not_not, decide_eq_true_eq, decide_eq_false_iff_not, beq_iff_eq, beq_eq_false_iff_ne, bne_iff_ne, bne_eq_false_iff_eq, ne_eq, Classical.not_not, reduceCtorEq, false_or, or_false, true_and, and_true, Bool.false_eq_true, Bool.true_eq_false] at h) <;> try (exfalso; first | omega | (simp at h; done)))
      | (conv in Vc _ => arg 1; whnf
         first
          | (with_reducible refine vc_side0 ?_; rfl)
          | (with_reducible first
              | refine vc_true ?_ | refine vc_true2 ?_ | refine vc_side ?_ ?_ | refine vc_triv | refine vc_later ?_ | refine vc_caseT ?_ | refine vc_caseF ?_ | refine vc_cons ?_ | refine vc_nil ?_ ?_ | refine vc_seq ?_
                 | refine vc_region ?_ | refine vc_cond ?_ | refine vc_block ?_ | refine vc_retc ?_ | refine vc_exit ?_ | refine vc_skip ?_ | refine vc_scope ?_ | refine vc_label ?_ | refine vc_goto ?_ | refine vc_wkSl0
                 | refine vc_wkHp0 | refine vc_eqAVs0 | refine vc_preG0 | refine vc_wkSl ?_ ?_ | refine vc_wkHp ?_ ?_ | refine vc_eqAVs ?_ ?_ | refine vc_preG ?_ ?_ | refine vc_side0 ?_
                 | refine vc_loopI 19 (fun (j : Nat) => [(0, .d (.int .u64 ((n / 256 ^ j : Nat) : Int))), (3, .sl 2000 [] 1 0 8), (4, .d (.int .i64 (7 - (j : Int))))]) (fun j => [(2000, .row 1 ((row8r n j).map byteD))]) (fun j => 8 - j) (fun j => j ≤ 8) 0 [] ?_ ?_ ?_ ?_ ?_ (fun j hI => ?_)
                 | refine vc_nextI (j + 1) [] ?_ ?_ ?_ ?_ ?_ ?_ | refine vc_ret [true] [] ?_ | refine vc_weakf [] ?_ ?_ ?_ | refine vc_and ?_ ?_ | refine vc_ret [] [] ?_)
          | ((with_reducible first | refine vc_caseD (fun h => ?_) (fun h => ?_) | refine vc_caseN (fun h => ?_) (fun h => ?_)) <;> try (exfalso; omega))
          | ((with_reducible refine vc_case (fun h => ?_) (fun h => ?_)) <;> (try simp only [Bool.cond_true_left, Bool.cond_false_right, Bool.cond_true_right, Bool.cond_false_left, Bool.and_eq_true, Bool.or_eq_true, Bool.and_eq_false_iff, Bool.or_eq_false_iff, Bool.not_eq_true', Bool.not_eq_false', Bool.not_eq_true, Bool.not_eq_false, Bool.not_not, decide_eq_true_eq, decide_eq_false_iff_not, beq_iff_eq, beq_eq_false_iff_ne, bne_iff_ne, bne_eq_false_iff_eq, ne_eq, Classical.not_not, reduceCtorEq, false_or, or_false, true_and, and_true, Bool.false_eq_true, Bool.true_eq_false] at h) <;> try (exfalso; first | omega | (simp at h; done)))))
  all_goals (try simp only [Int.toNat_natCast])
  all_goals first
    | rfl
    | omega
    | exact ⟨by omega, by omega, by decide, by omega⟩
    | (rw [Nat.pow_zero, Nat.div_one]; done)
    | (rw [h8]; omega)
    | exact ⟨Nat.le_of_eq (by rw [h8]), trivial⟩
    | (rw [hq]; done)
    | (rw [wrap64_id (by omega) (by omega)]; congr 1; omega)
    | (rw [hb j (by omega), show 0 + (7 - (j : Int)).toNat = 7 - j by omega, row8r_set n j (by omega)]; done)
    | (obtain rfl : j = 8 := by omega
       rw [row8r_all]; exact congrArg D.sl (take8 (num8_length n)))
    | skip

theorem begin_ok (c : UInt8) (x : Int) (hx : x = c.toNat) (ts : List (List UInt8)) (hl : ts.length < 2 ^ 63) (hroom : (c :: ts.flatten).length ≤ 2 ^ 30) :
    LocalCall Try.prog 59 [.d (.int .u8 x), .d (.sl (ts.map tD))] [] [] (one [.d (.sl ((c :: ts.flatten).map byteD))]) [] := by
  subst hx
  have hJ : ∀ i, i ≤ ts.length → (ts.take i).flatten.length ≤ ts.flatten.length := fun i h => by
    have h : ts.flatten = (ts.take i).flatten ++ (ts.drop i).flatten := by rw [← List.flatten_append, List.take_append_drop]
    rw [h, List.length_append]; omega
  have hN : ∀ i, i < ts.length → (ts.take i).flatten ++ ts.getD i [] = (ts.take (i + 1)).flatten := fun i h => by
    rw [List.take_add_one, List.flatten_append, List.getD_eq_getElem?_getD, List.getElem?_eq_getElem h]; simp
  have lm : (ts.map tD).length = ts.length := List.length_map _
  have hX : ∀ i : Nat, (i : Int) < ((ts.map tD).length : Int) → (ts.map tD).getD i .nilp = tD (ts.getD i []) := fun i h => by
    have h2 : i < ts.length := by rw [List.length_map] at h; omega
    exact (map_at (f := tD) (d := []) h2).1
  have hA : ∀ i : Nat, i < ts.length → (c :: (ts.take i).flatten).map byteD ++ (tD (ts.getD i [])).els = (c :: (ts.take (i + 1)).flatten).map byteD := fun i h => by
    rw [← hN i h, ← List.cons_append, List.map_append]; rfl
  refine vc_fn mixed Try.func59 rfl rfl [] (vc_chk rfl) ?_
  repeat' (first
      | ((with_reducible refine vc_chk ?_); first | decide +kernel | rfl)
      | (with_reducible refine vc_side0 ?_; rfl)
      | (with_reducible first
           | refine vc_true ?_ | refine vc_true2 ?_ | refine vc_side ?_ ?_ | refine vc_triv | refine vc_later ?_ | refine vc_caseT ?_ | refine vc_caseF ?_ | refine vc_cons ?_ | refine vc_nil ?_ ?_ | refine vc_seq ?_
              | refine vc_region ?_ | refine vc_cond ?_ | refine vc_block ?_ | refine vc_retc ?_ | refine vc_exit ?_ | refine vc_skip ?_ | refine vc_scope ?_ | refine vc_label ?_ | refine vc_goto ?_ | refine vc_wkSl0
              | refine vc_wkHp0 | refine vc_eqAVs0 | refine vc_preG0 | refine vc_wkSl ?_ ?_ | refine vc_wkHp ?_ ?_ | refine vc_eqAVs ?_ ?_ | refine vc_preG ?_ ?_ | refine vc_side0 ?_
              | refine vc_loopI 26 (fun (i : Nat) => [(5, .sl 7 [] 1 0 ((c :: (ts.take i).flatten).map byteD).length), (10, .d (.sl (ts.map tD))), (11, .d (.int .i64 ((ts.map tD).length : Nat))), (12, .d (.int .i64 (i : Int)))]) (fun i => [(7, .row 1 ((c :: (ts.take i).flatten).map byteD))]) (fun i => ts.length - i) (fun i => i ≤ ts.length) 0 [(7, 2004)] ?_ ?_ ?_ ?_ ?_ (fun i hI => ?_)
              | refine vc_nextI (i + 1) [(7, 6028)] ?_ ?_ ?_ ?_ ?_ ?_ | refine vc_ret [true] [] ?_ | refine vc_weakf [] ?_ ?_ ?_ | refine vc_and ?_ ?_ | refine vc_ret [] [] ?_)
      | ((with_reducible first | refine vc_caseD (fun h => ?_) (fun h => ?_) | refine vc_caseN (fun h => ?_) (fun h => ?_)) <;> try (exfalso; omega))
      | ((with_reducible refine vc_case (fun h => ?_) (fun h => ?_)) <;> (try simp only [Bool.cond_true_left, Bool.cond_false_right, Bool.cond_true_right, Bool.cond_false_left, Bool.and_eq_true, Bool.or_eq_true, Bool.and_eq_false_iff, Bool.or_eq_false_iff, Bool.not_eq_true', Bool.not_eq_false', Bool.not_eq_true, Bool.not_eq_false, Bool.not_not, decide_eq_true_eq, decide_eq_false_iff_not, beq_iff_eq, beq_eq_false_iff_ne, bne_iff_ne, bne_eq_false_iff_eq, ne_eq, Classical.not_not, reduceCtorEq, false_or, or_false, true_and, and_true, Bool.false_eq_true, Bool.true_eq_false] at h) <;> try (exfalso; first | omega | (simp at h; done)))
      | (conv in Vc _ => arg 1; whnf
         first
          | (with_reducible refine vc_side0 ?_; rfl)
          | (with_reducible first
              | refine vc_true ?_ | refine vc_true2 ?_ | refine vc_side ?_ ?_ | refine vc_triv | refine vc_later ?_ | refine vc_caseT ?_ | refine vc_caseF ?_ | refine vc_cons ?_ | refine vc_nil ?_ ?_ | refine vc_seq ?_
                 | refine vc_region ?_ | refine vc_cond ?_ | refine vc_block ?_ | refine vc_retc ?_ | refine vc_exit ?_ | refine vc_skip ?_ | refine vc_scope ?_ | refine vc_label ?_ | refine vc_goto ?_ | refine vc_wkSl0
                 | refine vc_wkHp0 | refine vc_eqAVs0 | refine vc_preG0 | refine vc_wkSl ?_ ?_ | refine vc_wkHp ?_ ?_ | refine vc_eqAVs ?_ ?_ | refine vc_preG ?_ ?_ | refine vc_side0 ?_
                 | refine vc_loopI 26 (fun (i : Nat) => [(5, .sl 7 [] 1 0 ((c :: (ts.take i).flatten).map byteD).length), (10, .d (.sl (ts.map tD))), (11, .d (.int .i64 ((ts.map tD).length : Nat))), (12, .d (.int .i64 (i : Int)))]) (fun i => [(7, .row 1 ((c :: (ts.take i).flatten).map byteD))]) (fun i => ts.length - i) (fun i => i ≤ ts.length) 0 [(7, 2004)] ?_ ?_ ?_ ?_ ?_ (fun i hI => ?_)
                 | refine vc_nextI (i + 1) [(7, 6028)] ?_ ?_ ?_ ?_ ?_ ?_ | refine vc_ret [true] [] ?_ | refine vc_weakf [] ?_ ?_ ?_ | refine vc_and ?_ ?_ | refine vc_ret [] [] ?_)
          | ((with_reducible first | refine vc_caseD (fun h => ?_) (fun h => ?_) | refine vc_caseN (fun h => ?_) (fun h => ?_)) <;> try (exfalso; omega))
          | ((with_reducible refine vc_case (fun h => ?_) (fun h => ?_)) <;> (try simp only [Bool.cond_true_left, Bool.cond_false_right, Bool.cond_true_right, Bool.cond_false_left, Bool.and_eq_true, Bool.or_eq_true, Bool.and_eq_false_iff, Bool.or_eq_false_iff, Bool.not_eq_true', Bool.not_eq_false', Bool.not_eq_true, Bool.not_eq_false, Bool.not_not, decide_eq_true_eq, decide_eq_false_iff_not, beq_iff_eq, beq_eq_false_iff_ne, bne_iff_ne, bne_eq_false_iff_eq, ne_eq, Classical.not_not, reduceCtorEq, false_or, or_false, true_and, and_true, Bool.false_eq_true, Bool.true_eq_false] at h) <;> try (exfalso; first | omega | (simp at h; done)))))
  all_goals (try simp only [Int.toNat_natCast])
  all_goals first
    | rfl
    | omega
    | (rw [hX i h, hA i (by omega)]; done)
    | (rw [hX i h]; exact ⟨⟨by omega, h⟩, rfl⟩)
    | (rw [wrap64_id (by omega) (by omega)]; rfl)
    | (rw [hX i h, hA i (by omega)]
       refine ⟨⟨trivial, rfl, roomJ ?_⟩, fun y hy => size_bytes _ y hy⟩
       have := hJ (i + 1) (by omega)
       simp only [List.length_map, List.length_cons] at hroom ⊢; omega)
    | (obtain rfl : i = ts.length := by omega
       rw [List.take_length]
       first
         | exact congrArg D.sl (by rw [List.drop_zero, List.take_length])
         | exact ⟨Nat.le_of_eq (Nat.zero_add _), trivial⟩
         | skip)
    | skip

theorem sign_ok (c : UInt8) (x : Int) (hx : x = c.toNat) (ts : List (List UInt8)) (hl : ts.length < 2 ^ 62) (hroom : (c :: ts.flatten).length ≤ 2 ^ 30) :
    LocalCall Try.prog 61 [.d (.int .u8 x), .d (.sl (ts.map tD))] [] [] (one [.d (.sl ((c :: ts.flatten).map byteD))]) [] := by
  subst hx
  have c1 := join_b ts hl (roomJ (by simp only [List.length_cons] at hroom; omega))
  have c2 := join_b [[c], ts.flatten] (by show 2 < 2 ^ 62; decide) (roomJ (by simpa using hroom))
  have ef : [[c], ts.flatten].flatten = c :: ts.flatten := by simp
  rw [ef] at c2
  refine vc_fn mixed Try.func61 rfl rfl [] (vc_chk rfl) ?_
  repeat' (first
      | ((with_reducible refine vc_chk ?_); first | decide +kernel | rfl)
      | (with_reducible refine vc_side0 ?_; rfl)
      | (with_reducible first
           | refine vc_true ?_ | refine vc_true2 ?_ | refine vc_side ?_ ?_ | refine vc_triv | refine vc_later ?_ | refine vc_caseT ?_ | refine vc_caseF ?_ | refine vc_cons ?_ | refine vc_nil ?_ ?_ | refine vc_seq ?_
              | refine vc_region ?_ | refine vc_cond ?_ | refine vc_block ?_ | refine vc_retc ?_ | refine vc_exit ?_ | refine vc_skip ?_ | refine vc_scope ?_ | refine vc_label ?_ | refine vc_goto ?_ | refine vc_wkSl0
              | refine vc_wkHp0 | refine vc_eqAVs0 | refine vc_preG0 | refine vc_wkSl ?_ ?_ | refine vc_wkHp ?_ ?_ | refine vc_eqAVs ?_ ?_ | refine vc_preG ?_ ?_ | refine vc_side0 ?_ | refine vc_pure c1 ?_ ?_ ?_
              | refine vc_call [true] c2 ?_ | refine vc_weakf [] ?_ ?_ ?_ | refine vc_and ?_ ?_ | refine vc_ret [] [] ?_)
      | ((with_reducible first | refine vc_caseD (fun h => ?_) (fun h => ?_) | refine vc_caseN (fun h => ?_) (fun h => ?_)) <;> try (exfalso; omega))
      | ((with_reducible refine vc_case (fun h => ?_) (fun h => ?_)) <;> (try simp only [Bool.cond_true_left, Bool.cond_false_right, Bool.cond_true_right, Bool.cond_false_left, Bool.and_eq_true, Bool.or_eq_true, Bool.and_eq_false_iff, Bool.or_eq_false_iff, Bool.not_eq_true', Bool.not_eq_false', Bool.not_eq_true, Bool.not_eq_false, Bool.not_not, decide_eq_true_eq, decide_eq_false_iff_not, beq_iff_eq, beq_eq_false_iff_ne, bne_iff_ne, bne_eq_false_iff_eq, ne_eq, Classical.not_not, reduceCtorEq, false_or, or_false, true_and, and_true, Bool.false_eq_true, Bool.true_eq_false] at h) <;> try (exfalso; first | omega | (simp at h; done)))
      | (conv in Vc _ => arg 1; whnf
         first
          | (with_reducible refine vc_side0 ?_; rfl)
          | (with_reducible first
              | refine vc_true ?_ | refine vc_true2 ?_ | refine vc_side ?_ ?_ | refine vc_triv | refine vc_later ?_ | refine vc_caseT ?_ | refine vc_caseF ?_ | refine vc_cons ?_ | refine vc_nil ?_ ?_ | refine vc_seq ?_
                 | refine vc_region ?_ | refine vc_cond ?_ | refine vc_block ?_ | refine vc_retc ?_ | refine vc_exit ?_ | refine vc_skip ?_ | refine vc_scope ?_ | refine vc_label ?_ | refine vc_goto ?_ | refine vc_wkSl0
                 | refine vc_wkHp0 | refine vc_eqAVs0 | refine vc_preG0 | refine vc_wkSl ?_ ?_ | refine vc_wkHp ?_ ?_ | refine vc_eqAVs ?_ ?_ | refine vc_preG ?_ ?_ | refine vc_side0 ?_ | refine vc_pure c1 ?_ ?_ ?_
                 | refine vc_call [true] c2 ?_ | refine vc_weakf [] ?_ ?_ ?_ | refine vc_and ?_ ?_ | refine vc_ret [] [] ?_)
          | ((with_reducible first | refine vc_caseD (fun h => ?_) (fun h => ?_) | refine vc_caseN (fun h => ?_) (fun h => ?_)) <;> try (exfalso; omega))
          | ((with_reducible refine vc_case (fun h => ?_) (fun h => ?_)) <;> (try simp only [Bool.cond_true_left, Bool.cond_false_right, Bool.cond_true_right, Bool.cond_false_left, Bool.and_eq_true, Bool.or_eq_true, Bool.and_eq_false_iff, Bool.or_eq_false_iff, Bool.not_eq_true', Bool.not_eq_false', Bool.not_eq_true, Bool.not_eq_false, Bool.not_not, decide_eq_true_eq, decide_eq_false_iff_not, beq_iff_eq, beq_eq_false_iff_ne, bne_iff_ne, bne_eq_false_iff_eq, ne_eq, Classical.not_not, reduceCtorEq, false_or, or_false, true_and, and_true, Bool.false_eq_true, Bool.true_eq_false] at h) <;> try (exfalso; first | omega | (simp at h; done)))))
  all_goals first
    | rfl
    | omega
    | exact ⟨Nat.le_of_eq (Nat.zero_add _), trivial⟩
    | exact ⟨⟨Nat.le_refl _, trivial, trivial⟩, trivial⟩
    | exact ⟨Nat.le_refl _, trivial, trivial⟩
    | skip

end Go.Proofs.Ytdceegllpcepnaa

/-
Digests of tagged bytes; parts of a key.
-/
set_option linter.unusedSimpArgs false
set_option linter.unusedVariables false
namespace Go.Proofs.Ytdceegllpcepnaa
open Go.Sym
set_option maxRecDepth 10000
set_option maxHeartbeats 1000000

theorem of_ok (b : List UInt8) (hl : b.length < 2 ^ 58) : LocalCall Try.prog 30 [.d (.sl (b.map byteD))] [] [] (one [.d (.arr 32 1 ((shaB b).map byteD))]) [] := by
  have c := sum_ok b hl
  refine vc_fn mixed Try.func30 rfl rfl [] (vc_chk rfl) ?_
  repeat' (first
      | ((with_reducible refine vc_chk ?_); first | decide +kernel | rfl)
      | (with_reducible refine vc_side0 ?_; rfl)
      | (with_reducible first
           | refine vc_true ?_ | refine vc_true2 ?_ | refine vc_side ?_ ?_ | refine vc_triv | refine vc_later ?_ | refine vc_caseT ?_ | refine vc_caseF ?_ | refine vc_cons ?_ | refine vc_nil ?_ ?_ | refine vc_seq ?_
              | refine vc_region ?_ | refine vc_cond ?_ | refine vc_block ?_ | refine vc_retc ?_ | refine vc_exit ?_ | refine vc_skip ?_ | refine vc_scope ?_ | refine vc_label ?_ | refine vc_goto ?_ | refine vc_wkSl0
              | refine vc_wkHp0 | refine vc_eqAVs0 | refine vc_preG0 | refine vc_wkSl ?_ ?_ | refine vc_wkHp ?_ ?_ | refine vc_eqAVs ?_ ?_ | refine vc_preG ?_ ?_ | refine vc_side0 ?_ | refine vc_pure c ?_ ?_ ?_
              | refine vc_weakf [] ?_ ?_ ?_ | refine vc_and ?_ ?_ | refine vc_ret [] [] ?_)
      | ((with_reducible first | refine vc_caseD (fun h => ?_) (fun h => ?_) | refine vc_caseN (fun h => ?_) (fun h => ?_)) <;> try (exfalso; omega))
      | ((with_reducible refine vc_case (fun h => ?_) (fun h => ?_)) <;> (try simp only [Bool.cond_true_left, Bool.cond_false_right, Bool.cond_true_right, Bool.cond_false_left, Bool.and_eq_true, Bool.or_eq_true, Bool.and_eq_false_iff, Bool.or_eq_false_iff, Bool.not_eq_true', Bool.not_eq_false', Bool.not_eq_true, Bool.not_eq_false, Bool.not_not, decide_eq_true_eq, decide_eq_false_iff_not, beq_iff_eq, beq_eq_false_iff_ne, bne_iff_ne, bne_eq_false_iff_eq, ne_eq, Classical.not_not, reduceCtorEq, false_or, or_false, true_and, and_true, Bool.false_eq_true, Bool.true_eq_false] at h) <;> try (exfalso; first | omega | (simp at h; done)))
      | (conv in Vc _ => arg 1; whnf
         first
          | (with_reducible refine vc_side0 ?_; rfl)
          | (with_reducible first
              | refine vc_true ?_ | refine vc_true2 ?_ | refine vc_side ?_ ?_ | refine vc_triv | refine vc_later ?_ | refine vc_caseT ?_ | refine vc_caseF ?_ | refine vc_cons ?_ | refine vc_nil ?_ ?_ | refine vc_seq ?_
                 | refine vc_region ?_ | refine vc_cond ?_ | refine vc_block ?_ | refine vc_retc ?_ | refine vc_exit ?_ | refine vc_skip ?_ | refine vc_scope ?_ | refine vc_label ?_ | refine vc_goto ?_ | refine vc_wkSl0
                 | refine vc_wkHp0 | refine vc_eqAVs0 | refine vc_preG0 | refine vc_wkSl ?_ ?_ | refine vc_wkHp ?_ ?_ | refine vc_eqAVs ?_ ?_ | refine vc_preG ?_ ?_ | refine vc_side0 ?_ | refine vc_pure c ?_ ?_ ?_
                 | refine vc_weakf [] ?_ ?_ ?_ | refine vc_and ?_ ?_ | refine vc_ret [] [] ?_)
          | ((with_reducible first | refine vc_caseD (fun h => ?_) (fun h => ?_) | refine vc_caseN (fun h => ?_) (fun h => ?_)) <;> try (exfalso; omega))
          | ((with_reducible refine vc_case (fun h => ?_) (fun h => ?_)) <;> (try simp only [Bool.cond_true_left, Bool.cond_false_right, Bool.cond_true_right, Bool.cond_false_left, Bool.and_eq_true, Bool.or_eq_true, Bool.and_eq_false_iff, Bool.or_eq_false_iff, Bool.not_eq_true', Bool.not_eq_false', Bool.not_eq_true, Bool.not_eq_false, Bool.not_not, decide_eq_true_eq, decide_eq_false_iff_not, beq_iff_eq, beq_eq_false_iff_ne, bne_iff_ne, bne_eq_false_iff_eq, ne_eq, Classical.not_not, reduceCtorEq, false_or, or_false, true_and, and_true, Bool.false_eq_true, Bool.true_eq_false] at h) <;> try (exfalso; first | omega | (simp at h; done)))))
  all_goals first
    | rfl
    | skip

theorem rOf_ok (b : List UInt8) (hl : b.length < 2 ^ 28) : LocalCall Try.prog 32 [.d (.sl (b.map byteD))] [] [] (one [.d (.arr 32 1 ((shaB b).map byteD))]) [] := by
  have c := rSum_ok b hl
  refine vc_fn mixed Try.func32 rfl rfl [] (vc_chk rfl) ?_
  repeat' (first
      | ((with_reducible refine vc_chk ?_); first | decide +kernel | rfl)
      | (with_reducible refine vc_side0 ?_; rfl)
      | (with_reducible first
           | refine vc_true ?_ | refine vc_true2 ?_ | refine vc_side ?_ ?_ | refine vc_triv | refine vc_later ?_ | refine vc_caseT ?_ | refine vc_caseF ?_ | refine vc_cons ?_ | refine vc_nil ?_ ?_ | refine vc_seq ?_
              | refine vc_region ?_ | refine vc_cond ?_ | refine vc_block ?_ | refine vc_retc ?_ | refine vc_exit ?_ | refine vc_skip ?_ | refine vc_scope ?_ | refine vc_label ?_ | refine vc_goto ?_ | refine vc_wkSl0
              | refine vc_wkHp0 | refine vc_eqAVs0 | refine vc_preG0 | refine vc_wkSl ?_ ?_ | refine vc_wkHp ?_ ?_ | refine vc_eqAVs ?_ ?_ | refine vc_preG ?_ ?_ | refine vc_side0 ?_ | refine vc_pure c ?_ ?_ ?_
              | refine vc_weakf [] ?_ ?_ ?_ | refine vc_and ?_ ?_ | refine vc_ret [] [] ?_)
      | ((with_reducible first | refine vc_caseD (fun h => ?_) (fun h => ?_) | refine vc_caseN (fun h => ?_) (fun h => ?_)) <;> try (exfalso; omega))
      | ((with_reducible refine vc_case (fun h => ?_) (fun h => ?_)) <;> (try simp only [Bool.cond_true_left, Bool.cond_false_right, Bool.cond_true_right, Bool.cond_false_left, Bool.and_eq_true, Bool.or_eq_true, Bool.and_eq_false_iff, Bool.or_eq_false_iff, Bool.not_eq_true', Bool.not_eq_false', Bool.not_eq_true, Bool.not_eq_false, Bool.not_not, decide_eq_true_eq, decide_eq_false_iff_not, beq_iff_eq, beq_eq_false_iff_ne, bne_iff_ne, bne_eq_false_iff_eq, ne_eq, Classical.not_not, reduceCtorEq, false_or, or_false, true_and, and_true, Bool.false_eq_true, Bool.true_eq_false] at h) <;> try (exfalso; first | omega | (simp at h; done)))
      | (conv in Vc _ => arg 1; whnf
         first
          | (with_reducible refine vc_side0 ?_; rfl)
          | (with_reducible first
              | refine vc_true ?_ | refine vc_true2 ?_ | refine vc_side ?_ ?_ | refine vc_triv | refine vc_later ?_ | refine vc_caseT ?_ | refine vc_caseF ?_ | refine vc_cons ?_ | refine vc_nil ?_ ?_ | refine vc_seq ?_
                 | refine vc_region ?_ | refine vc_cond ?_ | refine vc_block ?_ | refine vc_retc ?_ | refine vc_exit ?_ | refine vc_skip ?_ | refine vc_scope ?_ | refine vc_label ?_ | refine vc_goto ?_ | refine vc_wkSl0
                 | refine vc_wkHp0 | refine vc_eqAVs0 | refine vc_preG0 | refine vc_wkSl ?_ ?_ | refine vc_wkHp ?_ ?_ | refine vc_eqAVs ?_ ?_ | refine vc_preG ?_ ?_ | refine vc_side0 ?_ | refine vc_pure c ?_ ?_ ?_
                 | refine vc_weakf [] ?_ ?_ ?_ | refine vc_and ?_ ?_ | refine vc_ret [] [] ?_)
          | ((with_reducible first | refine vc_caseD (fun h => ?_) (fun h => ?_) | refine vc_caseN (fun h => ?_) (fun h => ?_)) <;> try (exfalso; omega))
          | ((with_reducible refine vc_case (fun h => ?_) (fun h => ?_)) <;> (try simp only [Bool.cond_true_left, Bool.cond_false_right, Bool.cond_true_right, Bool.cond_false_left, Bool.and_eq_true, Bool.or_eq_true, Bool.and_eq_false_iff, Bool.or_eq_false_iff, Bool.not_eq_true', Bool.not_eq_false', Bool.not_eq_true, Bool.not_eq_false, Bool.not_not, decide_eq_true_eq, decide_eq_false_iff_not, beq_iff_eq, beq_eq_false_iff_ne, bne_iff_ne, bne_eq_false_iff_eq, ne_eq, Classical.not_not, reduceCtorEq, false_or, or_false, true_and, and_true, Bool.false_eq_true, Bool.true_eq_false] at h) <;> try (exfalso; first | omega | (simp at h; done)))))
  all_goals first
    | rfl
    | skip

/-- What is hashed of a part of a key. -/
def keyB (seed : List UInt8) (key i side : Nat) : List UInt8 := 75 :: (seed ++ num8 key ++ num8 (2 * i + side))
theorem keyB_length {seed : List UInt8} (hs : seed.length = 32) (key i side : Nat) : (keyB seed key i side).length = 49 := by simp [keyB, num8_length, hs]
/-- A part of a key. -/
def keyH (seed : List UInt8) (key i : Nat) (on : Bool) : List UInt8 := shaB (keyB seed key i (bif on then 1 else 0))

theorem take32d {d : List UInt8} (h : d.length = 32) : List.take (((32 : Nat) : Int).toNat - Int.toNat 0) (List.drop (Int.toNat 0) (d.map byteD)) = d.map byteD := by
  show List.take 32 (List.drop 0 _) = _
  rw [List.drop_zero, List.take_of_length_le (by rw [List.length_map]; omega)]

theorem keyNum {i : Nat} (hi : i < 256) {s : Int} (hs : s = 0 ∨ s = 1) : IntKind.u64.wrap (IntKind.u64.wrap (2 * IntKind.u64.wrap (i : Int)) + IntKind.u64.wrap s) = ((2 * i + s.toNat : Nat) : Int) := by
  rw [wrapU64_id (n := (i : Int)) (by omega) (by omega), wrapU64_id (n := 2 * (i : Int)) (by omega) (by omega), wrapU64_id (n := s) (by omega) (by omega), wrapU64_id (by omega) (by omega)]
  omega

end Go.Proofs.Ytdceegllpcepnaa

/-
What is hashed of trees: leaves, trees of two, trees without leaves.
-/
set_option linter.unusedSimpArgs false
set_option linter.unusedVariables false
namespace Go.Proofs.Ytdceegllpcepnaa
open Go.Sym
set_option maxRecDepth 10000
set_option maxHeartbeats 1000000

def leafB (a b : List UInt8) : List UInt8 := 76 :: (a ++ b)
def nodeB (a b : List UInt8) : List UInt8 := 78 :: (a ++ b)
def emptyB : List UInt8 := [69]
theorem leafB_length {a b : List UInt8} (ha : a.length = 32) (hb : b.length = 32) : (leafB a b).length = 65 := by simp [leafB, ha, hb]
theorem nodeB_length {a b : List UInt8} (ha : a.length = 32) (hb : b.length = 32) : (nodeB a b).length = 65 := by simp [nodeB, ha, hb]

theorem cut32d {d : List UInt8} (h : d.length = 32) : cutD (d.map byteD) 0 ((32 : Nat) : Int) = d.map byteD := by
  show List.drop 0 (List.take 32 _) = _
  rw [List.drop_zero, List.take_of_length_le (by rw [List.length_map, h]; exact Nat.le_refl _)]

theorem emptyBytes_ok : LocalCall Try.prog 70 [] [] [] (one [.d (.sl (emptyB.map byteD))]) [] := by
  have c : LocalCall Try.prog 59 [.d (.int .u8 69), .d .nils] [] [] (one [.d (.sl (emptyB.map byteD))]) [] := local_dna (begin_ok 69 69 rfl [] (by decide) (by decide))
  refine vc_fn mixed Try.func70 rfl rfl [] (vc_chk rfl) ?_
  repeat' (first
      | ((with_reducible refine vc_chk ?_); first | decide +kernel | rfl)
      | (with_reducible refine vc_side0 ?_; rfl)
      | (with_reducible first
           | refine vc_true ?_ | refine vc_true2 ?_ | refine vc_side ?_ ?_ | refine vc_triv | refine vc_later ?_ | refine vc_caseT ?_ | refine vc_caseF ?_ | refine vc_cons ?_ | refine vc_nil ?_ ?_ | refine vc_seq ?_
              | refine vc_region ?_ | refine vc_cond ?_ | refine vc_block ?_ | refine vc_retc ?_ | refine vc_exit ?_ | refine vc_skip ?_ | refine vc_scope ?_ | refine vc_label ?_ | refine vc_goto ?_ | refine vc_wkSl0
              | refine vc_wkHp0 | refine vc_eqAVs0 | refine vc_preG0 | refine vc_wkSl ?_ ?_ | refine vc_wkHp ?_ ?_ | refine vc_eqAVs ?_ ?_ | refine vc_preG ?_ ?_ | refine vc_side0 ?_ | refine vc_call [] c ?_
              | refine vc_weakf [] ?_ ?_ ?_ | refine vc_and ?_ ?_ | refine vc_ret [] [] ?_)
      | ((with_reducible first | refine vc_caseD (fun h => ?_) (fun h => ?_) | refine vc_caseN (fun h => ?_) (fun h => ?_)) <;> try (exfalso; omega))
      | ((with_reducible refine vc_case (fun h => ?_) (fun h => ?_)) <;> (try simp only [Bool.cond_true_left, Bool.cond_false_right, Bool.cond_true_right, Bool.cond_false_left, Bool.and_eq_true, Bool.or_eq_true, Bool.and_eq_false_iff, Bool.or_eq_false_iff, Bool.not_eq_true', Bool.not_eq_false', Bool.not_eq_true, Bool.not_eq_false, Bool.not_not, decide_eq_true_eq, decide_eq_false_iff_not, beq_iff_eq, beq_eq_false_iff_ne, bne_iff_ne, bne_eq_false_iff_eq, ne_eq, Classical.not_not, reduceCtorEq, false_or, or_false, true_and, and_true, Bool.false_eq_true, Bool.true_eq_false] at h) <;> try (exfalso; first | omega | (simp at h; done)))
      | (conv in Vc _ => arg 1; whnf
         first
          | (with_reducible refine vc_side0 ?_; rfl)
          | (with_reducible first
              | refine vc_true ?_ | refine vc_true2 ?_ | refine vc_side ?_ ?_ | refine vc_triv | refine vc_later ?_ | refine vc_caseT ?_ | refine vc_caseF ?_ | refine vc_cons ?_ | refine vc_nil ?_ ?_ | refine vc_seq ?_
                 | refine vc_region ?_ | refine vc_cond ?_ | refine vc_block ?_ | refine vc_retc ?_ | refine vc_exit ?_ | refine vc_skip ?_ | refine vc_scope ?_ | refine vc_label ?_ | refine vc_goto ?_ | refine vc_wkSl0
                 | refine vc_wkHp0 | refine vc_eqAVs0 | refine vc_preG0 | refine vc_wkSl ?_ ?_ | refine vc_wkHp ?_ ?_ | refine vc_eqAVs ?_ ?_ | refine vc_preG ?_ ?_ | refine vc_side0 ?_ | refine vc_call [] c ?_
                 | refine vc_weakf [] ?_ ?_ ?_ | refine vc_and ?_ ?_ | refine vc_ret [] [] ?_)
          | ((with_reducible first | refine vc_caseD (fun h => ?_) (fun h => ?_) | refine vc_caseN (fun h => ?_) (fun h => ?_)) <;> try (exfalso; omega))
          | ((with_reducible refine vc_case (fun h => ?_) (fun h => ?_)) <;> (try simp only [Bool.cond_true_left, Bool.cond_false_right, Bool.cond_true_right, Bool.cond_false_left, Bool.and_eq_true, Bool.or_eq_true, Bool.and_eq_false_iff, Bool.or_eq_false_iff, Bool.not_eq_true', Bool.not_eq_false', Bool.not_eq_true, Bool.not_eq_false, Bool.not_not, decide_eq_true_eq, decide_eq_false_iff_not, beq_iff_eq, beq_eq_false_iff_ne, bne_iff_ne, bne_eq_false_iff_eq, ne_eq, Classical.not_not, reduceCtorEq, false_or, or_false, true_and, and_true, Bool.false_eq_true, Bool.true_eq_false] at h) <;> try (exfalso; first | omega | (simp at h; done)))))
  all_goals first
    | with_reducible rfl
    | omega
    | exact ⟨trivial, trivial⟩
    | exact ⟨trivial, trivial, trivial⟩
    | exact ⟨trivial, trivial, trivial, trivial⟩
    | exact ⟨⟨by decide, by decide, by decide⟩, trivial⟩
    | exact ⟨Nat.le_of_eq (Nat.zero_add _), trivial⟩
    | exact ⟨Nat.le_refl _, trivial, trivial⟩
    | (rw [wrap64_id (by omega) (by omega)]; rfl)
    | rfl
    | (exfalso; simp at h; done)
    | skip
theorem rEmptyBytes_ok : LocalCall Try.prog 55 [] [] [] (one [.d (.sl (emptyB.map byteD))]) [] := by
  refine vc_fn mixed Try.func55 rfl rfl [] (vc_chk rfl) ?_
  repeat' (first
      | ((with_reducible refine vc_chk ?_); first | decide +kernel | rfl)
      | (with_reducible refine vc_side0 ?_; rfl)
      | (with_reducible first
           | refine vc_true ?_ | refine vc_true2 ?_ | refine vc_side ?_ ?_ | refine vc_triv | refine vc_later ?_ | refine vc_caseT ?_ | refine vc_caseF ?_ | refine vc_cons ?_ | refine vc_nil ?_ ?_ | refine vc_seq ?_
              | refine vc_region ?_ | refine vc_cond ?_ | refine vc_block ?_ | refine vc_retc ?_ | refine vc_exit ?_ | refine vc_skip ?_ | refine vc_scope ?_ | refine vc_label ?_ | refine vc_goto ?_ | refine vc_wkSl0
              | refine vc_wkHp0 | refine vc_eqAVs0 | refine vc_preG0 | refine vc_wkSl ?_ ?_ | refine vc_wkHp ?_ ?_ | refine vc_eqAVs ?_ ?_ | refine vc_preG ?_ ?_ | refine vc_side0 ?_ | refine vc_ret [true] [] ?_
              | refine vc_weakf [] ?_ ?_ ?_ | refine vc_and ?_ ?_ | refine vc_ret [] [] ?_)
      | ((with_reducible first | refine vc_caseD (fun h => ?_) (fun h => ?_) | refine vc_caseN (fun h => ?_) (fun h => ?_)) <;> try (exfalso; omega))
      | ((with_reducible refine vc_case (fun h => ?_) (fun h => ?_)) <;> (try simp only [Bool.cond_true_left, Bool.cond_false_right, Bool.cond_true_right, Bool.cond_false_left, Bool.and_eq_true, Bool.or_eq_true, Bool.and_eq_false_iff, Bool.or_eq_false_iff, Bool.not_eq_true', Bool.not_eq_false', Bool.not_eq_true, Bool.not_eq_false, Bool.not_not, decide_eq_true_eq, decide_eq_false_iff_not, beq_iff_eq, beq_eq_false_iff_ne, bne_iff_ne, bne_eq_false_iff_eq, ne_eq, Classical.not_not, reduceCtorEq, false_or, or_false, true_and, and_true, Bool.false_eq_true, Bool.true_eq_false] at h) <;> try (exfalso; first | omega | (simp at h; done)))
      | (conv in Vc _ => arg 1; whnf
         first
          | (with_reducible refine vc_side0 ?_; rfl)
          | (with_reducible first
              | refine vc_true ?_ | refine vc_true2 ?_ | refine vc_side ?_ ?_ | refine vc_triv | refine vc_later ?_ | refine vc_caseT ?_ | refine vc_caseF ?_ | refine vc_cons ?_ | refine vc_nil ?_ ?_ | refine vc_seq ?_
                 | refine vc_region ?_ | refine vc_cond ?_ | refine vc_block ?_ | refine vc_retc ?_ | refine vc_exit ?_ | refine vc_skip ?_ | refine vc_scope ?_ | refine vc_label ?_ | refine vc_goto ?_ | refine vc_wkSl0
                 | refine vc_wkHp0 | refine vc_eqAVs0 | refine vc_preG0 | refine vc_wkSl ?_ ?_ | refine vc_wkHp ?_ ?_ | refine vc_eqAVs ?_ ?_ | refine vc_preG ?_ ?_ | refine vc_side0 ?_ | refine vc_ret [true] [] ?_
                 | refine vc_weakf [] ?_ ?_ ?_ | refine vc_and ?_ ?_ | refine vc_ret [] [] ?_)
          | ((with_reducible first | refine vc_caseD (fun h => ?_) (fun h => ?_) | refine vc_caseN (fun h => ?_) (fun h => ?_)) <;> try (exfalso; omega))
          | ((with_reducible refine vc_case (fun h => ?_) (fun h => ?_)) <;> (try simp only [Bool.cond_true_left, Bool.cond_false_right, Bool.cond_true_right, Bool.cond_false_left, Bool.and_eq_true, Bool.or_eq_true, Bool.and_eq_false_iff, Bool.or_eq_false_iff, Bool.not_eq_true', Bool.not_eq_false', Bool.not_eq_true, Bool.not_eq_false, Bool.not_not, decide_eq_true_eq, decide_eq_false_iff_not, beq_iff_eq, beq_eq_false_iff_ne, bne_iff_ne, bne_eq_false_iff_eq, ne_eq, Classical.not_not, reduceCtorEq, false_or, or_false, true_and, and_true, Bool.false_eq_true, Bool.true_eq_false] at h) <;> try (exfalso; first | omega | (simp at h; done)))))
  all_goals first
    | with_reducible rfl
    | omega
    | exact ⟨trivial, trivial⟩
    | exact ⟨trivial, trivial, trivial⟩
    | exact ⟨trivial, trivial, trivial, trivial⟩
    | exact ⟨⟨by decide, by decide, by decide⟩, trivial⟩
    | exact ⟨Nat.le_of_eq (Nat.zero_add _), trivial⟩
    | exact ⟨Nat.le_refl _, trivial, trivial⟩
    | (rw [wrap64_id (by omega) (by omega)]; rfl)
    | rfl
    | (exfalso; simp at h; done)
    | skip

section
variable (a b : List UInt8) (ha : a.length = 32) (hb : b.length = 32)
include ha hb
theorem leafBytes_ok : LocalCall Try.prog 69 [.d (digD a), .d (digD b)] [] [] (one [.d (.sl ((leafB a b).map byteD))]) [] := by
  have e : (76 : UInt8) :: [a, b].flatten = leafB a b := by simp [leafB]
  have c := begin_ok 76 76 rfl [a, b] (by show 2 < 2 ^ 63; decide) (by rw [e, leafB_length ha hb]; decide)
  rw [e] at c
  have e1 := cut32d ha
  have e2 := cut32d hb
  refine vc_fn mixed Try.func69 rfl rfl [(1, [500002, 500003])] (vc_chk rfl) ?_
  repeat' (first
      | ((with_reducible refine vc_chk ?_); first | decide +kernel | rfl)
      | (with_reducible refine vc_side0 ?_; rfl)
      | (with_reducible first
           | refine vc_true ?_ | refine vc_true2 ?_ | refine vc_side ?_ ?_ | refine vc_triv | refine vc_later ?_ | refine vc_caseT ?_ | refine vc_caseF ?_ | refine vc_cons ?_ | refine vc_nil ?_ ?_ | refine vc_seq ?_
              | refine vc_region ?_ | refine vc_cond ?_ | refine vc_block ?_ | refine vc_retc ?_ | refine vc_exit ?_ | refine vc_skip ?_ | refine vc_scope ?_ | refine vc_label ?_ | refine vc_goto ?_ | refine vc_wkSl0
              | refine vc_wkHp0 | refine vc_eqAVs0 | refine vc_preG0 | refine vc_wkSl ?_ ?_ | refine vc_wkHp ?_ ?_ | refine vc_eqAVs ?_ ?_ | refine vc_preG ?_ ?_ | refine vc_side0 ?_ | refine vc_call [false, true] c ?_
              | refine vc_weakf [] ?_ ?_ ?_ | refine vc_and ?_ ?_ | refine vc_ret [] [] ?_)
      | ((with_reducible first | refine vc_caseD (fun h => ?_) (fun h => ?_) | refine vc_caseN (fun h => ?_) (fun h => ?_)) <;> try (exfalso; omega))
      | ((with_reducible refine vc_case (fun h => ?_) (fun h => ?_)) <;> (try simp only [Bool.cond_true_left, Bool.cond_false_right, Bool.cond_true_right, Bool.cond_false_left, Bool.and_eq_true, Bool.or_eq_true, Bool.and_eq_false_iff, Bool.or_eq_false_iff, Bool.not_eq_true', Bool.not_eq_false', Bool.not_eq_true, Bool.not_eq_false, Bool.not_not, decide_eq_true_eq, decide_eq_false_iff_not, beq_iff_eq, beq_eq_false_iff_ne, bne_iff_ne, bne_eq_false_iff_eq, ne_eq, Classical.not_not, reduceCtorEq, false_or, or_false, true_and, and_true, Bool.false_eq_true, Bool.true_eq_false] at h) <;> try (exfalso; first | omega | (simp at h; done)))
      | (conv in Vc _ => arg 1; whnf
         first
          | (with_reducible refine vc_side0 ?_; rfl)
          | (with_reducible first
              | refine vc_true ?_ | refine vc_true2 ?_ | refine vc_side ?_ ?_ | refine vc_triv | refine vc_later ?_ | refine vc_caseT ?_ | refine vc_caseF ?_ | refine vc_cons ?_ | refine vc_nil ?_ ?_ | refine vc_seq ?_
                 | refine vc_region ?_ | refine vc_cond ?_ | refine vc_block ?_ | refine vc_retc ?_ | refine vc_exit ?_ | refine vc_skip ?_ | refine vc_scope ?_ | refine vc_label ?_ | refine vc_goto ?_ | refine vc_wkSl0
                 | refine vc_wkHp0 | refine vc_eqAVs0 | refine vc_preG0 | refine vc_wkSl ?_ ?_ | refine vc_wkHp ?_ ?_ | refine vc_eqAVs ?_ ?_ | refine vc_preG ?_ ?_ | refine vc_side0 ?_ | refine vc_call [false, true] c ?_
                 | refine vc_weakf [] ?_ ?_ ?_ | refine vc_and ?_ ?_ | refine vc_ret [] [] ?_)
          | ((with_reducible first | refine vc_caseD (fun h => ?_) (fun h => ?_) | refine vc_caseN (fun h => ?_) (fun h => ?_)) <;> try (exfalso; omega))
          | ((with_reducible refine vc_case (fun h => ?_) (fun h => ?_)) <;> (try simp only [Bool.cond_true_left, Bool.cond_false_right, Bool.cond_true_right, Bool.cond_false_left, Bool.and_eq_true, Bool.or_eq_true, Bool.and_eq_false_iff, Bool.or_eq_false_iff, Bool.not_eq_true', Bool.not_eq_false', Bool.not_eq_true, Bool.not_eq_false, Bool.not_not, decide_eq_true_eq, decide_eq_false_iff_not, beq_iff_eq, beq_eq_false_iff_ne, bne_iff_ne, bne_eq_false_iff_eq, ne_eq, Classical.not_not, reduceCtorEq, false_or, or_false, true_and, and_true, Bool.false_eq_true, Bool.true_eq_false] at h) <;> try (exfalso; first | omega | (simp at h; done)))))
  all_goals first
    | with_reducible rfl
    | omega
    | exact ⟨trivial, trivial⟩
    | exact ⟨trivial, trivial, trivial⟩
    | exact ⟨trivial, trivial, trivial, trivial⟩
    | exact ⟨⟨by decide, by decide, by decide⟩, trivial⟩
    | exact ⟨Nat.le_of_eq (Nat.zero_add _), trivial⟩
    | exact ⟨Nat.le_refl _, trivial, trivial⟩
    | (rw [wrap64_id (by omega) (by omega)]; rfl)
    | exact ⟨by decide, by decide, by decide⟩
    | (show D.sl [.sl (cutD (a.map byteD) 0 ((32 : Nat) : Int)), .sl (cutD (b.map byteD) 0 ((32 : Nat) : Int))] = _; rw [e1, e2]; rfl)
    | rfl
    | (exfalso; simp at h; done)
    | skip
  all_goals trace_state
theorem nodeBytes_ok : LocalCall Try.prog 53 [.d (digD a), .d (digD b)] [] [] (one [.d (.sl ((nodeB a b).map byteD))]) [] := by
  have e : (78 : UInt8) :: [a, b].flatten = nodeB a b := by simp [nodeB]
  have c := begin_ok 78 78 rfl [a, b] (by show 2 < 2 ^ 63; decide) (by rw [e, nodeB_length ha hb]; decide)
  rw [e] at c
  have e1 := cut32d ha
  have e2 := cut32d hb
  refine vc_fn mixed Try.func53 rfl rfl [(1, [500002, 500003])] (vc_chk rfl) ?_
  repeat' (first
      | ((with_reducible refine vc_chk ?_); first | decide +kernel | rfl)
      | (with_reducible refine vc_side0 ?_; rfl)
      | (with_reducible first
           | refine vc_true ?_ | refine vc_true2 ?_ | refine vc_side ?_ ?_ | refine vc_triv | refine vc_later ?_ | refine vc_caseT ?_ | refine vc_caseF ?_ | refine vc_cons ?_ | refine vc_nil ?_ ?_ | refine vc_seq ?_
              | refine vc_region ?_ | refine vc_cond ?_ | refine vc_block ?_ | refine vc_retc ?_ | refine vc_exit ?_ | refine vc_skip ?_ | refine vc_scope ?_ | refine vc_label ?_ | refine vc_goto ?_ | refine vc_wkSl0
              | refine vc_wkHp0 | refine vc_eqAVs0 | refine vc_preG0 | refine vc_wkSl ?_ ?_ | refine vc_wkHp ?_ ?_ | refine vc_eqAVs ?_ ?_ | refine vc_preG ?_ ?_ | refine vc_side0 ?_ | refine vc_call [false, true] c ?_
              | refine vc_weakf [] ?_ ?_ ?_ | refine vc_and ?_ ?_ | refine vc_ret [] [] ?_)
      | ((with_reducible first | refine vc_caseD (fun h => ?_) (fun h => ?_) | refine vc_caseN (fun h => ?_) (fun h => ?_)) <;> try (exfalso; omega))
      | ((with_reducible refine vc_case (fun h => ?_) (fun h => ?_)) <;> (try simp only [Bool.cond_true_left, Bool.cond_false_right, Bool.cond_true_right, Bool.cond_false_left, Bool.and_eq_true, Bool.or_eq_true, Bool.and_eq_false_iff, Bool.or_eq_false_iff, Bool.not_eq_true', Bool.not_eq_false', Bool.not_eq_true, Bool.not_eq_false, Bool.not_not, decide_eq_true_eq, decide_eq_false_iff_not, beq_iff_eq, beq_eq_false_iff_ne, bne_iff_ne, bne_eq_false_iff_eq, ne_eq, Classical.not_not, reduceCtorEq, false_or, or_false, true_and, and_true, Bool.false_eq_true, Bool.true_eq_false] at h) <;> try (exfalso; first | omega | (simp at h; done)))
      | (conv in Vc _ => arg 1; whnf
         first
          | (with_reducible refine vc_side0 ?_; rfl)
          | (with_reducible first
              | refine vc_true ?_ | refine vc_true2 ?_ | refine vc_side ?_ ?_ | refine vc_triv | refine vc_later ?_ | refine vc_caseT ?_ | refine vc_caseF ?_ | refine vc_cons ?_ | refine vc_nil ?_ ?_ | refine vc_seq ?_
                 | refine vc_region ?_ | refine vc_cond ?_ | refine vc_block ?_ | refine vc_retc ?_ | refine vc_exit ?_ | refine vc_skip ?_ | refine vc_scope ?_ | refine vc_label ?_ | refine vc_goto ?_ | refine vc_wkSl0
                 | refine vc_wkHp0 | refine vc_eqAVs0 | refine vc_preG0 | refine vc_wkSl ?_ ?_ | refine vc_wkHp ?_ ?_ | refine vc_eqAVs ?_ ?_ | refine vc_preG ?_ ?_ | refine vc_side0 ?_ | refine vc_call [false, true] c ?_
                 | refine vc_weakf [] ?_ ?_ ?_ | refine vc_and ?_ ?_ | refine vc_ret [] [] ?_)
          | ((with_reducible first | refine vc_caseD (fun h => ?_) (fun h => ?_) | refine vc_caseN (fun h => ?_) (fun h => ?_)) <;> try (exfalso; omega))
          | ((with_reducible refine vc_case (fun h => ?_) (fun h => ?_)) <;> (try simp only [Bool.cond_true_left, Bool.cond_false_right, Bool.cond_true_right, Bool.cond_false_left, Bool.and_eq_true, Bool.or_eq_true, Bool.and_eq_false_iff, Bool.or_eq_false_iff, Bool.not_eq_true', Bool.not_eq_false', Bool.not_eq_true, Bool.not_eq_false, Bool.not_not, decide_eq_true_eq, decide_eq_false_iff_not, beq_iff_eq, beq_eq_false_iff_ne, bne_iff_ne, bne_eq_false_iff_eq, ne_eq, Classical.not_not, reduceCtorEq, false_or, or_false, true_and, and_true, Bool.false_eq_true, Bool.true_eq_false] at h) <;> try (exfalso; first | omega | (simp at h; done)))))
  all_goals first
    | with_reducible rfl
    | omega
    | exact ⟨trivial, trivial⟩
    | exact ⟨trivial, trivial, trivial⟩
    | exact ⟨trivial, trivial, trivial, trivial⟩
    | exact ⟨⟨by decide, by decide, by decide⟩, trivial⟩
    | exact ⟨Nat.le_of_eq (Nat.zero_add _), trivial⟩
    | exact ⟨Nat.le_refl _, trivial, trivial⟩
    | (rw [wrap64_id (by omega) (by omega)]; rfl)
    | exact ⟨by decide, by decide, by decide⟩
    | (show D.sl [.sl (cutD (a.map byteD) 0 ((32 : Nat) : Int)), .sl (cutD (b.map byteD) 0 ((32 : Nat) : Int))] = _; rw [e1, e2]; rfl)
    | rfl
    | (exfalso; simp at h; done)
    | skip
  all_goals trace_state
theorem rLeafBytes_ok : LocalCall Try.prog 50 [.d (digD a), .d (digD b)] [] [] (one [.d (.sl ((leafB a b).map byteD))]) [] := by
  have e : (76 : UInt8) :: [a, b].flatten = leafB a b := by simp [leafB]
  have c := sign_ok 76 76 rfl [a, b] (by show 2 < 2 ^ 62; decide) (by rw [e, leafB_length ha hb]; decide)
  rw [e] at c
  have e1 := cut32d ha
  have e2 := cut32d hb
  refine vc_fn mixed Try.func50 rfl rfl [(1, [500002, 500003])] (vc_chk rfl) ?_
  repeat' (first
      | ((with_reducible refine vc_chk ?_); first | decide +kernel | rfl)
      | (with_reducible refine vc_side0 ?_; rfl)
      | (with_reducible first
           | refine vc_true ?_ | refine vc_true2 ?_ | refine vc_side ?_ ?_ | refine vc_triv | refine vc_later ?_ | refine vc_caseT ?_ | refine vc_caseF ?_ | refine vc_cons ?_ | refine vc_nil ?_ ?_ | refine vc_seq ?_
              | refine vc_region ?_ | refine vc_cond ?_ | refine vc_block ?_ | refine vc_retc ?_ | refine vc_exit ?_ | refine vc_skip ?_ | refine vc_scope ?_ | refine vc_label ?_ | refine vc_goto ?_ | refine vc_wkSl0
              | refine vc_wkHp0 | refine vc_eqAVs0 | refine vc_preG0 | refine vc_wkSl ?_ ?_ | refine vc_wkHp ?_ ?_ | refine vc_eqAVs ?_ ?_ | refine vc_preG ?_ ?_ | refine vc_side0 ?_ | refine vc_call [false, true] c ?_
              | refine vc_weakf [] ?_ ?_ ?_ | refine vc_and ?_ ?_ | refine vc_ret [] [] ?_)
      | ((with_reducible first | refine vc_caseD (fun h => ?_) (fun h => ?_) | refine vc_caseN (fun h => ?_) (fun h => ?_)) <;> try (exfalso; omega))
      | ((with_reducible refine vc_case (fun h => ?_) (fun h => ?_)) <;> (try simp only [Bool.cond_true_left, Bool.cond_false_right, Bool.cond_true_right, Bool.cond_false_left, Bool.and_eq_true, Bool.or_eq_true, Bool.and_eq_false_iff, Bool.or_eq_false_iff, Bool.not_eq_true', Bool.not_eq_false', Bool.not_eq_true, Bool.not_eq_false, Bool.not_not, decide_eq_true_eq, decide_eq_false_iff_not, beq_iff_eq, beq_eq_false_iff_ne, bne_iff_ne, bne_eq_false_iff_eq, ne_eq, Classical.not_not, reduceCtorEq, false_or, or_false, true_and, and_true, Bool.false_eq_true, Bool.true_eq_false] at h) <;> try (exfalso; first | omega | (simp at h; done)))
      | (conv in Vc _ => arg 1; whnf
         first
          | (with_reducible refine vc_side0 ?_; rfl)
          | (with_reducible first
              | refine vc_true ?_ | refine vc_true2 ?_ | refine vc_side ?_ ?_ | refine vc_triv | refine vc_later ?_ | refine vc_caseT ?_ | refine vc_caseF ?_ | refine vc_cons ?_ | refine vc_nil ?_ ?_ | refine vc_seq ?_
                 | refine vc_region ?_ | refine vc_cond ?_ | refine vc_block ?_ | refine vc_retc ?_ | refine vc_exit ?_ | refine vc_skip ?_ | refine vc_scope ?_ | refine vc_label ?_ | refine vc_goto ?_ | refine vc_wkSl0
                 | refine vc_wkHp0 | refine vc_eqAVs0 | refine vc_preG0 | refine vc_wkSl ?_ ?_ | refine vc_wkHp ?_ ?_ | refine vc_eqAVs ?_ ?_ | refine vc_preG ?_ ?_ | refine vc_side0 ?_ | refine vc_call [false, true] c ?_
                 | refine vc_weakf [] ?_ ?_ ?_ | refine vc_and ?_ ?_ | refine vc_ret [] [] ?_)
          | ((with_reducible first | refine vc_caseD (fun h => ?_) (fun h => ?_) | refine vc_caseN (fun h => ?_) (fun h => ?_)) <;> try (exfalso; omega))
          | ((with_reducible refine vc_case (fun h => ?_) (fun h => ?_)) <;> (try simp only [Bool.cond_true_left, Bool.cond_false_right, Bool.cond_true_right, Bool.cond_false_left, Bool.and_eq_true, Bool.or_eq_true, Bool.and_eq_false_iff, Bool.or_eq_false_iff, Bool.not_eq_true', Bool.not_eq_false', Bool.not_eq_true, Bool.not_eq_false, Bool.not_not, decide_eq_true_eq, decide_eq_false_iff_not, beq_iff_eq, beq_eq_false_iff_ne, bne_iff_ne, bne_eq_false_iff_eq, ne_eq, Classical.not_not, reduceCtorEq, false_or, or_false, true_and, and_true, Bool.false_eq_true, Bool.true_eq_false] at h) <;> try (exfalso; first | omega | (simp at h; done)))))
  all_goals first
    | with_reducible rfl
    | omega
    | exact ⟨trivial, trivial⟩
    | exact ⟨trivial, trivial, trivial⟩
    | exact ⟨trivial, trivial, trivial, trivial⟩
    | exact ⟨⟨by decide, by decide, by decide⟩, trivial⟩
    | exact ⟨Nat.le_of_eq (Nat.zero_add _), trivial⟩
    | exact ⟨Nat.le_refl _, trivial, trivial⟩
    | (rw [wrap64_id (by omega) (by omega)]; rfl)
    | exact ⟨by decide, by decide, by decide⟩
    | (show D.sl [.sl (cutD (a.map byteD) 0 ((32 : Nat) : Int)), .sl (cutD (b.map byteD) 0 ((32 : Nat) : Int))] = _; rw [e1, e2]; rfl)
    | rfl
    | (exfalso; simp at h; done)
    | skip
  all_goals trace_state
theorem rNodeBytes_ok : LocalCall Try.prog 56 [.d (digD a), .d (digD b)] [] [] (one [.d (.sl ((nodeB a b).map byteD))]) [] := by
  have e : (78 : UInt8) :: [a, b].flatten = nodeB a b := by simp [nodeB]
  have c := sign_ok 78 78 rfl [a, b] (by show 2 < 2 ^ 62; decide) (by rw [e, nodeB_length ha hb]; decide)
  rw [e] at c
  have e1 := cut32d ha
  have e2 := cut32d hb
  refine vc_fn mixed Try.func56 rfl rfl [(1, [500002, 500003])] (vc_chk rfl) ?_
  repeat' (first
      | ((with_reducible refine vc_chk ?_); first | decide +kernel | rfl)
      | (with_reducible refine vc_side0 ?_; rfl)
      | (with_reducible first
           | refine vc_true ?_ | refine vc_true2 ?_ | refine vc_side ?_ ?_ | refine vc_triv | refine vc_later ?_ | refine vc_caseT ?_ | refine vc_caseF ?_ | refine vc_cons ?_ | refine vc_nil ?_ ?_ | refine vc_seq ?_
              | refine vc_region ?_ | refine vc_cond ?_ | refine vc_block ?_ | refine vc_retc ?_ | refine vc_exit ?_ | refine vc_skip ?_ | refine vc_scope ?_ | refine vc_label ?_ | refine vc_goto ?_ | refine vc_wkSl0
              | refine vc_wkHp0 | refine vc_eqAVs0 | refine vc_preG0 | refine vc_wkSl ?_ ?_ | refine vc_wkHp ?_ ?_ | refine vc_eqAVs ?_ ?_ | refine vc_preG ?_ ?_ | refine vc_side0 ?_ | refine vc_call [false, true] c ?_
              | refine vc_weakf [] ?_ ?_ ?_ | refine vc_and ?_ ?_ | refine vc_ret [] [] ?_)
      | ((with_reducible first | refine vc_caseD (fun h => ?_) (fun h => ?_) | refine vc_caseN (fun h => ?_) (fun h => ?_)) <;> try (exfalso; omega))
      | ((with_reducible refine vc_case (fun h => ?_) (fun h => ?_)) <;> (try simp only [Bool.cond_true_left, Bool.cond_false_right, Bool.cond_true_right, Bool.cond_false_left, Bool.and_eq_true, Bool.or_eq_true, Bool.and_eq_false_iff, Bool.or_eq_false_iff, Bool.not_eq_true', Bool.not_eq_false', Bool.not_eq_true, Bool.not_eq_false, Bool.not_not, decide_eq_true_eq, decide_eq_false_iff_not, beq_iff_eq, beq_eq_false_iff_ne, bne_iff_ne, bne_eq_false_iff_eq, ne_eq, Classical.not_not, reduceCtorEq, false_or, or_false, true_and, and_true, Bool.false_eq_true, Bool.true_eq_false] at h) <;> try (exfalso; first | omega | (simp at h; done)))
      | (conv in Vc _ => arg 1; whnf
         first
          | (with_reducible refine vc_side0 ?_; rfl)
          | (with_reducible first
              | refine vc_true ?_ | refine vc_true2 ?_ | refine vc_side ?_ ?_ | refine vc_triv | refine vc_later ?_ | refine vc_caseT ?_ | refine vc_caseF ?_ | refine vc_cons ?_ | refine vc_nil ?_ ?_ | refine vc_seq ?_
                 | refine vc_region ?_ | refine vc_cond ?_ | refine vc_block ?_ | refine vc_retc ?_ | refine vc_exit ?_ | refine vc_skip ?_ | refine vc_scope ?_ | refine vc_label ?_ | refine vc_goto ?_ | refine vc_wkSl0
                 | refine vc_wkHp0 | refine vc_eqAVs0 | refine vc_preG0 | refine vc_wkSl ?_ ?_ | refine vc_wkHp ?_ ?_ | refine vc_eqAVs ?_ ?_ | refine vc_preG ?_ ?_ | refine vc_side0 ?_ | refine vc_call [false, true] c ?_
                 | refine vc_weakf [] ?_ ?_ ?_ | refine vc_and ?_ ?_ | refine vc_ret [] [] ?_)
          | ((with_reducible first | refine vc_caseD (fun h => ?_) (fun h => ?_) | refine vc_caseN (fun h => ?_) (fun h => ?_)) <;> try (exfalso; omega))
          | ((with_reducible refine vc_case (fun h => ?_) (fun h => ?_)) <;> (try simp only [Bool.cond_true_left, Bool.cond_false_right, Bool.cond_true_right, Bool.cond_false_left, Bool.and_eq_true, Bool.or_eq_true, Bool.and_eq_false_iff, Bool.or_eq_false_iff, Bool.not_eq_true', Bool.not_eq_false', Bool.not_eq_true, Bool.not_eq_false, Bool.not_not, decide_eq_true_eq, decide_eq_false_iff_not, beq_iff_eq, beq_eq_false_iff_ne, bne_iff_ne, bne_eq_false_iff_eq, ne_eq, Classical.not_not, reduceCtorEq, false_or, or_false, true_and, and_true, Bool.false_eq_true, Bool.true_eq_false] at h) <;> try (exfalso; first | omega | (simp at h; done)))))
  all_goals first
    | with_reducible rfl
    | omega
    | exact ⟨trivial, trivial⟩
    | exact ⟨trivial, trivial, trivial⟩
    | exact ⟨trivial, trivial, trivial, trivial⟩
    | exact ⟨⟨by decide, by decide, by decide⟩, trivial⟩
    | exact ⟨Nat.le_of_eq (Nat.zero_add _), trivial⟩
    | exact ⟨Nat.le_refl _, trivial, trivial⟩
    | (rw [wrap64_id (by omega) (by omega)]; rfl)
    | exact ⟨by decide, by decide, by decide⟩
    | (show D.sl [.sl (cutD (a.map byteD) 0 ((32 : Nat) : Int)), .sl (cutD (b.map byteD) 0 ((32 : Nat) : Int))] = _; rw [e1, e2]; rfl)
    | rfl
    | (exfalso; simp at h; done)
    | skip
  all_goals trace_state
theorem rLeaf_ok : LocalCall Try.prog 33 [.d (digD a), .d (digD b)] [] [] (one [.d (digD (shaB (leafB a b)))]) [] := by
  have c1 := rLeafBytes_ok a b ha hb
  have c2 := rOf_ok (leafB a b) (by rw [leafB_length ha hb]; decide)
  refine vc_fn mixed Try.func33 rfl rfl [] (vc_chk rfl) ?_
  repeat' (first
      | ((with_reducible refine vc_chk ?_); first | decide +kernel | rfl)
      | (with_reducible refine vc_side0 ?_; rfl)
      | (with_reducible first
           | refine vc_true ?_ | refine vc_true2 ?_ | refine vc_side ?_ ?_ | refine vc_triv | refine vc_later ?_ | refine vc_caseT ?_ | refine vc_caseF ?_ | refine vc_cons ?_ | refine vc_nil ?_ ?_ | refine vc_seq ?_
              | refine vc_region ?_ | refine vc_cond ?_ | refine vc_block ?_ | refine vc_retc ?_ | refine vc_exit ?_ | refine vc_skip ?_ | refine vc_scope ?_ | refine vc_label ?_ | refine vc_goto ?_ | refine vc_wkSl0
              | refine vc_wkHp0 | refine vc_eqAVs0 | refine vc_preG0 | refine vc_wkSl ?_ ?_ | refine vc_wkHp ?_ ?_ | refine vc_eqAVs ?_ ?_ | refine vc_preG ?_ ?_ | refine vc_side0 ?_ | refine vc_pure c1 ?_ ?_ ?_
              | refine vc_pure c2 ?_ ?_ ?_ | refine vc_weakf [] ?_ ?_ ?_ | refine vc_and ?_ ?_ | refine vc_ret [] [] ?_)
      | ((with_reducible first | refine vc_caseD (fun h => ?_) (fun h => ?_) | refine vc_caseN (fun h => ?_) (fun h => ?_)) <;> try (exfalso; omega))
      | ((with_reducible refine vc_case (fun h => ?_) (fun h => ?_)) <;> (try simp only [Bool.cond_true_left, Bool.cond_false_right, Bool.cond_true_right, Bool.cond_false_left, Bool.and_eq_true, Bool.or_eq_true, Bool.and_eq_false_iff, Bool.or_eq_false_iff, Bool.not_eq_true', Bool.not_eq_false', Bool.not_eq_true, Bool.not_eq_false, Bool.not_not, decide_eq_true_eq, decide_eq_false_iff_not, beq_iff_eq, beq_eq_false_iff_ne, bne_iff_ne, bne_eq_false_iff_eq, ne_eq, Classical.not_not, reduceCtorEq, false_or, or_false, true_and, and_true, Bool.false_eq_true, Bool.true_eq_false] at h) <;> try (exfalso; first | omega | (simp at h; done)))
      | (conv in Vc _ => arg 1; whnf
         first
          | (with_reducible refine vc_side0 ?_; rfl)
          | (with_reducible first
              | refine vc_true ?_ | refine vc_true2 ?_ | refine vc_side ?_ ?_ | refine vc_triv | refine vc_later ?_ | refine vc_caseT ?_ | refine vc_caseF ?_ | refine vc_cons ?_ | refine vc_nil ?_ ?_ | refine vc_seq ?_
                 | refine vc_region ?_ | refine vc_cond ?_ | refine vc_block ?_ | refine vc_retc ?_ | refine vc_exit ?_ | refine vc_skip ?_ | refine vc_scope ?_ | refine vc_label ?_ | refine vc_goto ?_ | refine vc_wkSl0
                 | refine vc_wkHp0 | refine vc_eqAVs0 | refine vc_preG0 | refine vc_wkSl ?_ ?_ | refine vc_wkHp ?_ ?_ | refine vc_eqAVs ?_ ?_ | refine vc_preG ?_ ?_ | refine vc_side0 ?_ | refine vc_pure c1 ?_ ?_ ?_
                 | refine vc_pure c2 ?_ ?_ ?_ | refine vc_weakf [] ?_ ?_ ?_ | refine vc_and ?_ ?_ | refine vc_ret [] [] ?_)
          | ((with_reducible first | refine vc_caseD (fun h => ?_) (fun h => ?_) | refine vc_caseN (fun h => ?_) (fun h => ?_)) <;> try (exfalso; omega))
          | ((with_reducible refine vc_case (fun h => ?_) (fun h => ?_)) <;> (try simp only [Bool.cond_true_left, Bool.cond_false_right, Bool.cond_true_right, Bool.cond_false_left, Bool.and_eq_true, Bool.or_eq_true, Bool.and_eq_false_iff, Bool.or_eq_false_iff, Bool.not_eq_true', Bool.not_eq_false', Bool.not_eq_true, Bool.not_eq_false, Bool.not_not, decide_eq_true_eq, decide_eq_false_iff_not, beq_iff_eq, beq_eq_false_iff_ne, bne_iff_ne, bne_eq_false_iff_eq, ne_eq, Classical.not_not, reduceCtorEq, false_or, or_false, true_and, and_true, Bool.false_eq_true, Bool.true_eq_false] at h) <;> try (exfalso; first | omega | (simp at h; done)))))
  all_goals first
    | with_reducible rfl
    | omega
    | exact ⟨trivial, trivial⟩
    | exact ⟨trivial, trivial, trivial⟩
    | exact ⟨trivial, trivial, trivial, trivial⟩
    | exact ⟨⟨by decide, by decide, by decide⟩, trivial⟩
    | exact ⟨Nat.le_of_eq (Nat.zero_add _), trivial⟩
    | exact ⟨Nat.le_refl _, trivial, trivial⟩
    | (rw [wrap64_id (by omega) (by omega)]; rfl)
    | rfl
    | (exfalso; simp at h; done)
    | skip
theorem rNode_ok : LocalCall Try.prog 41 [.d (digD a), .d (digD b)] [] [] (one [.d (digD (shaB (nodeB a b)))]) [] := by
  have c1 := rNodeBytes_ok a b ha hb
  have c2 := rOf_ok (nodeB a b) (by rw [nodeB_length ha hb]; decide)
  refine vc_fn mixed Try.func41 rfl rfl [] (vc_chk rfl) ?_
  repeat' (first
      | ((with_reducible refine vc_chk ?_); first | decide +kernel | rfl)
      | (with_reducible refine vc_side0 ?_; rfl)
      | (with_reducible first
           | refine vc_true ?_ | refine vc_true2 ?_ | refine vc_side ?_ ?_ | refine vc_triv | refine vc_later ?_ | refine vc_caseT ?_ | refine vc_caseF ?_ | refine vc_cons ?_ | refine vc_nil ?_ ?_ | refine vc_seq ?_
              | refine vc_region ?_ | refine vc_cond ?_ | refine vc_block ?_ | refine vc_retc ?_ | refine vc_exit ?_ | refine vc_skip ?_ | refine vc_scope ?_ | refine vc_label ?_ | refine vc_goto ?_ | refine vc_wkSl0
              | refine vc_wkHp0 | refine vc_eqAVs0 | refine vc_preG0 | refine vc_wkSl ?_ ?_ | refine vc_wkHp ?_ ?_ | refine vc_eqAVs ?_ ?_ | refine vc_preG ?_ ?_ | refine vc_side0 ?_ | refine vc_pure c1 ?_ ?_ ?_
              | refine vc_pure c2 ?_ ?_ ?_ | refine vc_weakf [] ?_ ?_ ?_ | refine vc_and ?_ ?_ | refine vc_ret [] [] ?_)
      | ((with_reducible first | refine vc_caseD (fun h => ?_) (fun h => ?_) | refine vc_caseN (fun h => ?_) (fun h => ?_)) <;> try (exfalso; omega))
      | ((with_reducible refine vc_case (fun h => ?_) (fun h => ?_)) <;> (try simp only [Bool.cond_true_left, Bool.cond_false_right, Bool.cond_true_right, Bool.cond_false_left, Bool.and_eq_true, Bool.or_eq_true, Bool.and_eq_false_iff, Bool.or_eq_false_iff, Bool.not_eq_true', Bool.not_eq_false', Bool.not_eq_true, Bool.not_eq_false, Bool.not_not, decide_eq_true_eq, decide_eq_false_iff_not, beq_iff_eq, beq_eq_false_iff_ne, bne_iff_ne, bne_eq_false_iff_eq, ne_eq, Classical.not_not, reduceCtorEq, false_or, or_false, true_and, and_true, Bool.false_eq_true, Bool.true_eq_false] at h) <;> try (exfalso; first | omega | (simp at h; done)))
      | (conv in Vc _ => arg 1; whnf
         first
          | (with_reducible refine vc_side0 ?_; rfl)
          | (with_reducible first
              | refine vc_true ?_ | refine vc_true2 ?_ | refine vc_side ?_ ?_ | refine vc_triv | refine vc_later ?_ | refine vc_caseT ?_ | refine vc_caseF ?_ | refine vc_cons ?_ | refine vc_nil ?_ ?_ | refine vc_seq ?_
                 | refine vc_region ?_ | refine vc_cond ?_ | refine vc_block ?_ | refine vc_retc ?_ | refine vc_exit ?_ | refine vc_skip ?_ | refine vc_scope ?_ | refine vc_label ?_ | refine vc_goto ?_ | refine vc_wkSl0
                 | refine vc_wkHp0 | refine vc_eqAVs0 | refine vc_preG0 | refine vc_wkSl ?_ ?_ | refine vc_wkHp ?_ ?_ | refine vc_eqAVs ?_ ?_ | refine vc_preG ?_ ?_ | refine vc_side0 ?_ | refine vc_pure c1 ?_ ?_ ?_
                 | refine vc_pure c2 ?_ ?_ ?_ | refine vc_weakf [] ?_ ?_ ?_ | refine vc_and ?_ ?_ | refine vc_ret [] [] ?_)
          | ((with_reducible first | refine vc_caseD (fun h => ?_) (fun h => ?_) | refine vc_caseN (fun h => ?_) (fun h => ?_)) <;> try (exfalso; omega))
          | ((with_reducible refine vc_case (fun h => ?_) (fun h => ?_)) <;> (try simp only [Bool.cond_true_left, Bool.cond_false_right, Bool.cond_true_right, Bool.cond_false_left, Bool.and_eq_true, Bool.or_eq_true, Bool.and_eq_false_iff, Bool.or_eq_false_iff, Bool.not_eq_true', Bool.not_eq_false', Bool.not_eq_true, Bool.not_eq_false, Bool.not_not, decide_eq_true_eq, decide_eq_false_iff_not, beq_iff_eq, beq_eq_false_iff_ne, bne_iff_ne, bne_eq_false_iff_eq, ne_eq, Classical.not_not, reduceCtorEq, false_or, or_false, true_and, and_true, Bool.false_eq_true, Bool.true_eq_false] at h) <;> try (exfalso; first | omega | (simp at h; done)))))
  all_goals first
    | with_reducible rfl
    | omega
    | exact ⟨trivial, trivial⟩
    | exact ⟨trivial, trivial, trivial⟩
    | exact ⟨trivial, trivial, trivial, trivial⟩
    | exact ⟨⟨by decide, by decide, by decide⟩, trivial⟩
    | exact ⟨Nat.le_of_eq (Nat.zero_add _), trivial⟩
    | exact ⟨Nat.le_refl _, trivial, trivial⟩
    | (rw [wrap64_id (by omega) (by omega)]; rfl)
    | rfl
    | (exfalso; simp at h; done)
    | skip
end
theorem rEmpty_ok : LocalCall Try.prog 40 [] [] [] (one [.d (digD (shaB emptyB))]) [] := by
  have c1 := rEmptyBytes_ok
  have c2 := rOf_ok emptyB (by decide)
  refine vc_fn mixed Try.func40 rfl rfl [] (vc_chk rfl) ?_
  repeat' (first
      | ((with_reducible refine vc_chk ?_); first | decide +kernel | rfl)
      | (with_reducible refine vc_side0 ?_; rfl)
      | (with_reducible first
           | refine vc_true ?_ | refine vc_true2 ?_ | refine vc_side ?_ ?_ | refine vc_triv | refine vc_later ?_ | refine vc_caseT ?_ | refine vc_caseF ?_ | refine vc_cons ?_ | refine vc_nil ?_ ?_ | refine vc_seq ?_
              | refine vc_region ?_ | refine vc_cond ?_ | refine vc_block ?_ | refine vc_retc ?_ | refine vc_exit ?_ | refine vc_skip ?_ | refine vc_scope ?_ | refine vc_label ?_ | refine vc_goto ?_ | refine vc_wkSl0
              | refine vc_wkHp0 | refine vc_eqAVs0 | refine vc_preG0 | refine vc_wkSl ?_ ?_ | refine vc_wkHp ?_ ?_ | refine vc_eqAVs ?_ ?_ | refine vc_preG ?_ ?_ | refine vc_side0 ?_ | refine vc_pure c1 ?_ ?_ ?_
              | refine vc_pure c2 ?_ ?_ ?_ | refine vc_weakf [] ?_ ?_ ?_ | refine vc_and ?_ ?_ | refine vc_ret [] [] ?_)
      | ((with_reducible first | refine vc_caseD (fun h => ?_) (fun h => ?_) | refine vc_caseN (fun h => ?_) (fun h => ?_)) <;> try (exfalso; omega))
      | ((with_reducible refine vc_case (fun h => ?_) (fun h => ?_)) <;> (try simp only [Bool.cond_true_left, Bool.cond_false_right, Bool.cond_true_right, Bool.cond_false_left, Bool.and_eq_true, Bool.or_eq_true, Bool.and_eq_false_iff, Bool.or_eq_false_iff, Bool.not_eq_true', Bool.not_eq_false', Bool.not_eq_true, Bool.not_eq_false, Bool.not_not, decide_eq_true_eq, decide_eq_false_iff_not, beq_iff_eq, beq_eq_false_iff_ne, bne_iff_ne, bne_eq_false_iff_eq, ne_eq, Classical.not_not, reduceCtorEq, false_or, or_false, true_and, and_true, Bool.false_eq_true, Bool.true_eq_false] at h) <;> try (exfalso; first | omega | (simp at h; done)))
      | (conv in Vc _ => arg 1; whnf
         first
          | (with_reducible refine vc_side0 ?_; rfl)
          | (with_reducible first
              | refine vc_true ?_ | refine vc_true2 ?_ | refine vc_side ?_ ?_ | refine vc_triv | refine vc_later ?_ | refine vc_caseT ?_ | refine vc_caseF ?_ | refine vc_cons ?_ | refine vc_nil ?_ ?_ | refine vc_seq ?_
                 | refine vc_region ?_ | refine vc_cond ?_ | refine vc_block ?_ | refine vc_retc ?_ | refine vc_exit ?_ | refine vc_skip ?_ | refine vc_scope ?_ | refine vc_label ?_ | refine vc_goto ?_ | refine vc_wkSl0
                 | refine vc_wkHp0 | refine vc_eqAVs0 | refine vc_preG0 | refine vc_wkSl ?_ ?_ | refine vc_wkHp ?_ ?_ | refine vc_eqAVs ?_ ?_ | refine vc_preG ?_ ?_ | refine vc_side0 ?_ | refine vc_pure c1 ?_ ?_ ?_
                 | refine vc_pure c2 ?_ ?_ ?_ | refine vc_weakf [] ?_ ?_ ?_ | refine vc_and ?_ ?_ | refine vc_ret [] [] ?_)
          | ((with_reducible first | refine vc_caseD (fun h => ?_) (fun h => ?_) | refine vc_caseN (fun h => ?_) (fun h => ?_)) <;> try (exfalso; omega))
          | ((with_reducible refine vc_case (fun h => ?_) (fun h => ?_)) <;> (try simp only [Bool.cond_true_left, Bool.cond_false_right, Bool.cond_true_right, Bool.cond_false_left, Bool.and_eq_true, Bool.or_eq_true, Bool.and_eq_false_iff, Bool.or_eq_false_iff, Bool.not_eq_true', Bool.not_eq_false', Bool.not_eq_true, Bool.not_eq_false, Bool.not_not, decide_eq_true_eq, decide_eq_false_iff_not, beq_iff_eq, beq_eq_false_iff_ne, bne_iff_ne, bne_eq_false_iff_eq, ne_eq, Classical.not_not, reduceCtorEq, false_or, or_false, true_and, and_true, Bool.false_eq_true, Bool.true_eq_false] at h) <;> try (exfalso; first | omega | (simp at h; done)))))
  all_goals first
    | with_reducible rfl
    | omega
    | exact ⟨trivial, trivial⟩
    | exact ⟨trivial, trivial, trivial⟩
    | exact ⟨trivial, trivial, trivial, trivial⟩
    | exact ⟨⟨by decide, by decide, by decide⟩, trivial⟩
    | exact ⟨Nat.le_of_eq (Nat.zero_add _), trivial⟩
    | exact ⟨Nat.le_refl _, trivial, trivial⟩
    | (rw [wrap64_id (by omega) (by omega)]; rfl)
    | rfl
    | (exfalso; simp at h; done)
    | skip

end Go.Proofs.Ytdceegllpcepnaa

/-
What path.Bit, path.Set and path.Bits do.
-/
set_option linter.unusedSimpArgs false
set_option linter.unusedVariables false
namespace Go.Proofs.Ytdceegllpcepnaa
open Go.Sym
set_option maxRecDepth 10000


theorem bit_ok (xs : List D) (bs : List UInt8) (hx : xs = bs.map byteD) (hb : bs.length = 32) (i : Int) : LocalCall Try.prog 52 [.d (.arr 32 1 xs), .d (.int .i64 i)] [] [] (one [.d (.bool (bitI bs i))]) [] := by
  subst hx
  refine vc_fn mixed Try.func52 rfl rfl [] (vc_chk rfl) ?_
  repeat' (first
      | ((with_reducible refine vc_chk ?_); first | decide +kernel | rfl)
      | (with_reducible refine vc_side0 ?_; rfl)
      | (with_reducible first
           | refine vc_true ?_ | refine vc_true2 ?_ | refine vc_side ?_ ?_ | refine vc_triv | refine vc_later ?_ | refine vc_caseT ?_ | refine vc_caseF ?_ | refine vc_cons ?_ | refine vc_nil ?_ ?_ | refine vc_seq ?_
              | refine vc_region ?_ | refine vc_cond ?_ | refine vc_block ?_ | refine vc_retc ?_ | refine vc_exit ?_ | refine vc_skip ?_ | refine vc_scope ?_ | refine vc_label ?_ | refine vc_goto ?_ | refine vc_wkSl0
              | refine vc_wkHp0 | refine vc_eqAVs0 | refine vc_preG0 | refine vc_wkSl ?_ ?_ | refine vc_wkHp ?_ ?_ | refine vc_eqAVs ?_ ?_ | refine vc_preG ?_ ?_ | refine vc_side0 ?_ | refine vc_weakf [] ?_ ?_ ?_
              | refine vc_and ?_ ?_ | refine vc_ret [] [] ?_)
      | ((with_reducible first | refine vc_caseD (fun h => ?_) (fun h => ?_) | refine vc_caseN (fun h => ?_) (fun h => ?_)) <;> try (exfalso; omega))
      | ((with_reducible refine vc_case (fun h => ?_) (fun h => ?_)) <;> (try simp at h) <;> try (exfalso; omega))
      | (conv in Vc _ => arg 1; whnf
         first
          | (with_reducible refine vc_side0 ?_; rfl)
          | (with_reducible first
              | refine vc_true ?_ | refine vc_true2 ?_ | refine vc_side ?_ ?_ | refine vc_triv | refine vc_later ?_ | refine vc_caseT ?_ | refine vc_caseF ?_ | refine vc_cons ?_ | refine vc_nil ?_ ?_ | refine vc_seq ?_
                 | refine vc_region ?_ | refine vc_cond ?_ | refine vc_block ?_ | refine vc_retc ?_ | refine vc_exit ?_ | refine vc_skip ?_ | refine vc_scope ?_ | refine vc_label ?_ | refine vc_goto ?_ | refine vc_wkSl0
                 | refine vc_wkHp0 | refine vc_eqAVs0 | refine vc_preG0 | refine vc_wkSl ?_ ?_ | refine vc_wkHp ?_ ?_ | refine vc_eqAVs ?_ ?_ | refine vc_preG ?_ ?_ | refine vc_side0 ?_ | refine vc_weakf [] ?_ ?_ ?_
                 | refine vc_and ?_ ?_ | refine vc_ret [] [] ?_)
          | ((with_reducible first | refine vc_caseD (fun h => ?_) (fun h => ?_) | refine vc_caseN (fun h => ?_) (fun h => ?_)) <;> try (exfalso; omega))
          | ((with_reducible refine vc_case (fun h => ?_) (fun h => ?_)) <;> (try simp at h) <;> try (exfalso; omega))))
  all_goals first | rw [bitI_neg bs (by omega)] | rw [bitI_big bs (by omega)] | skip
  all_goals
    obtain ⟨n, rfl⟩ : ∃ n : Nat, i = n := ⟨i.toNat, by omega⟩
    have hn : n < 256 := by omega
    try simp only [div8 hn, mod8, Int.toNat_natCast, getD_byte (show n / 8 < bs.length by omega)]
  all_goals first
    | omega
    | exact ⟨⟨by omega, trivial⟩, rfl⟩
    | (rw [bitI_nat bs (by omega)]; exact congrArg D.bool (and_bit _ _ (by omega)))

theorem bits_ok (xs : List D) : LocalCall Try.prog 71 [.d (.arr 32 1 xs)] [] [7] (one [.fn (.func 79) [.ptr 7 []]]) [(7, .var (.d (.arr 32 1 xs)))] := by
  refine vc_fn mixed Try.func71 rfl rfl [] (vc_chk rfl) ?_
  repeat' (first
      | ((with_reducible refine vc_chk ?_); first | decide +kernel | rfl)
      | (with_reducible refine vc_side0 ?_; rfl)
      | (with_reducible first
           | refine vc_true ?_ | refine vc_true2 ?_ | refine vc_side ?_ ?_ | refine vc_triv | refine vc_later ?_ | refine vc_caseT ?_ | refine vc_caseF ?_ | refine vc_cons ?_ | refine vc_nil ?_ ?_ | refine vc_seq ?_
              | refine vc_region ?_ | refine vc_cond ?_ | refine vc_block ?_ | refine vc_retc ?_ | refine vc_exit ?_ | refine vc_skip ?_ | refine vc_scope ?_ | refine vc_label ?_ | refine vc_goto ?_ | refine vc_wkSl0
              | refine vc_wkHp0 | refine vc_eqAVs0 | refine vc_preG0 | refine vc_wkSl ?_ ?_ | refine vc_wkHp ?_ ?_ | refine vc_eqAVs ?_ ?_ | refine vc_preG ?_ ?_ | refine vc_side0 ?_ | refine vc_ret [] [(7, 1000)] ?_
              | refine vc_weakf [] ?_ ?_ ?_ | refine vc_and ?_ ?_ | refine vc_ret [] [] ?_)
      | ((with_reducible first | refine vc_caseD (fun h => ?_) (fun h => ?_) | refine vc_caseN (fun h => ?_) (fun h => ?_)) <;> try (exfalso; omega))
      | ((with_reducible refine vc_case (fun h => ?_) (fun h => ?_)) <;> (try simp at h) <;> try (exfalso; omega))
      | (conv in Vc _ => arg 1; whnf
         first
          | (with_reducible refine vc_side0 ?_; rfl)
          | (with_reducible first
              | refine vc_true ?_ | refine vc_true2 ?_ | refine vc_side ?_ ?_ | refine vc_triv | refine vc_later ?_ | refine vc_caseT ?_ | refine vc_caseF ?_ | refine vc_cons ?_ | refine vc_nil ?_ ?_ | refine vc_seq ?_
                 | refine vc_region ?_ | refine vc_cond ?_ | refine vc_block ?_ | refine vc_retc ?_ | refine vc_exit ?_ | refine vc_skip ?_ | refine vc_scope ?_ | refine vc_label ?_ | refine vc_goto ?_ | refine vc_wkSl0
                 | refine vc_wkHp0 | refine vc_eqAVs0 | refine vc_preG0 | refine vc_wkSl ?_ ?_ | refine vc_wkHp ?_ ?_ | refine vc_eqAVs ?_ ?_ | refine vc_preG ?_ ?_ | refine vc_side0 ?_ | refine vc_ret [] [(7, 1000)] ?_
                 | refine vc_weakf [] ?_ ?_ ?_ | refine vc_and ?_ ?_ | refine vc_ret [] [] ?_)
          | ((with_reducible first | refine vc_caseD (fun h => ?_) (fun h => ?_) | refine vc_caseN (fun h => ?_) (fun h => ?_)) <;> try (exfalso; omega))
          | ((with_reducible refine vc_case (fun h => ?_) (fun h => ?_)) <;> (try simp at h) <;> try (exfalso; omega))))
  all_goals rfl

end Go.Proofs.Ytdceegllpcepnaa

/-
What path.Bits hands to its round: the 256 bits, in their order.
-/
set_option linter.unusedSimpArgs false
set_option linter.unusedVariables false
namespace Go.Proofs.Ytdceegllpcepnaa
open Go.Sym
set_option maxRecDepth 10000

section
variable (l : Nat) (xs : List D)
def bsY : AV := .fn (.yield l) []
def bsO (k : Nat) : List (Nat × AV) := [(0, .fn (.yield l) []), (6, .d (.arr 32 1 xs)), (7, .d (.int .i64 (k : Int)))]
def bsO1 (k : Nat) : List (Nat × AV) := (8, .d (.bool (decide ((k : Int) < 32)))) :: bsO l xs k
def bsI0 (c k : Nat) : List (Nat × AV) := [(0, .fn (.yield l) []), (6, .d (.arr 32 1 xs)), (7, .d (.int .i64 (k : Int))), (3, .d (.int .i64 (k : Int))), (4, .d (.int .u8 (c : Int)))]
def bsI (c k m : Nat) : List (Nat × AV) := [(0, .fn (.yield l) []), (6, .d (.arr 32 1 xs)), (7, .d (.int .i64 (k : Int))), (3, .d (.int .i64 (k : Int))), (4, .d (.int .u8 (c : Int))), (5, .d (.int .i64 (m : Int)))]
def bsI1 (c k m : Nat) : List (Nat × AV) := (12, .d (.bool (decide ((m : Int) < 8)))) :: bsI l xs c k m
def bsI2 (c k m : Nat) : List (Nat × AV) := (15, .fn (.yield l) []) :: (19, .d (.int .i64 (8 * k + m : Nat))) :: (24, .d (.bool (c.testBit (7 - m)))) :: bsI l xs c k m
end

theorem flat_bsI {l : Nat} {xs : List D} {c k m : Nat} (hs : ∀ x, x ∈ xs → x.scal = true) : ∀ p, p ∈ bsI l xs c k m → FlatA p.2 := by
  intro p hp
  simp only [bsI, List.mem_cons, List.not_mem_nil, or_false] at hp
  rcases hp with rfl | rfl | rfl | rfl | rfl | rfl
  · exact flatA_fn
  · exact flatA_arr hs
  all_goals exact flatA_d rfl
theorem flat_bsO {l : Nat} {xs : List D} {k : Nat} (hs : ∀ x, x ∈ xs → x.scal = true) : ∀ p, p ∈ bsO l xs k → FlatA p.2 := by
  intro p hp
  simp only [bsO, List.mem_cons, List.not_mem_nil, or_false] at hp
  rcases hp with rfl | rfl | rfl
  · exact flatA_fn
  · exact flatA_arr hs
  all_goals exact flatA_d rfl

theorem flat_bsI0 {l : Nat} {xs : List D} {c k : Nat} (hs : ∀ x, x ∈ xs → x.scal = true) : ∀ p, p ∈ bsI0 l xs c k → FlatA p.2 := by
  intro p hp
  simp only [bsI0, List.mem_cons, List.not_mem_nil, or_false] at hp
  rcases hp with rfl | rfl | rfl | rfl | rfl
  · exact flatA_fn
  · exact flatA_arr hs
  all_goals exact flatA_d rfl

theorem bits_seq (bs : List UInt8) (hb : bs.length = 32) : SeqOK Try.prog 79 (.arr 32 1 (bs.map byteD)) 256 (fun i => [.int .i64 (i : Int), .bool (bitB bs i)]) := by
  intro J Jd l b w X cs hrep hrow s1 s2 hJ hy
  have hs : ∀ x, x ∈ bs.map byteD → x.scal = true := fun x hx => by
    obtain ⟨y, _, rfl⟩ := List.mem_map.1 hx; rfl
  refine calls_of_wp_marks Try.func79 rfl ?_
  have hbl : b < w.heap.size := row_lt hrow (by rw [hrep.length]; show 0 < 32 * 1; omega)
  have hstart := fl_start (n := 28) (l := l) (by omega) hrep hrow hbl
  refine wpIn_scope_straight (wpIn_seq (wpIn_label (wpIn_seq ?_)))
  refine flat_norm mixed (sl' := bsO l (bs.map byteD) 0) (flat_bsO hs) hstart ?_ fun a w0 hI hx => ?_
  ·
    repeat' (first
        | ((with_reducible refine vc_chk ?_); first | decide +kernel | rfl)
        | (with_reducible refine vc_side0 ?_; rfl)
        | (with_reducible first
             | refine vc_true ?_ | refine vc_true2 ?_ | refine vc_side ?_ ?_ | refine vc_triv | refine vc_later ?_ | refine vc_caseT ?_ | refine vc_caseF ?_ | refine vc_cons ?_ | refine vc_nil ?_ ?_ | refine vc_seq ?_
                | refine vc_region ?_ | refine vc_cond ?_ | refine vc_block ?_ | refine vc_retc ?_ | refine vc_exit ?_ | refine vc_skip ?_ | refine vc_scope ?_ | refine vc_label ?_ | refine vc_goto ?_ | refine vc_wkSl0
                | refine vc_wkHp0 | refine vc_eqAVs0 | refine vc_preG0 | refine vc_wkSl ?_ ?_ | refine vc_wkHp ?_ ?_ | refine vc_eqAVs ?_ ?_ | refine vc_preG ?_ ?_ | refine vc_side0 ?_ | refine vc_weakf [] ?_ ?_ ?_
                | refine vc_and ?_ ?_ | refine vc_ret [] [] ?_)
        | ((with_reducible first | refine vc_caseD (fun h => ?_) (fun h => ?_) | refine vc_caseN (fun h => ?_) (fun h => ?_)) <;> try (exfalso; omega))
        | ((with_reducible refine vc_case (fun h => ?_) (fun h => ?_)) <;> (try simp at h) <;> try (exfalso; omega))
        | (conv in Vc _ => arg 1; whnf
           first
            | (with_reducible refine vc_side0 ?_; rfl)
            | (with_reducible first
                | refine vc_true ?_ | refine vc_true2 ?_ | refine vc_side ?_ ?_ | refine vc_triv | refine vc_later ?_ | refine vc_caseT ?_ | refine vc_caseF ?_ | refine vc_cons ?_ | refine vc_nil ?_ ?_ | refine vc_seq ?_
                   | refine vc_region ?_ | refine vc_cond ?_ | refine vc_block ?_ | refine vc_retc ?_ | refine vc_exit ?_ | refine vc_skip ?_ | refine vc_scope ?_ | refine vc_label ?_ | refine vc_goto ?_ | refine vc_wkSl0
                   | refine vc_wkHp0 | refine vc_eqAVs0 | refine vc_preG0 | refine vc_wkSl ?_ ?_ | refine vc_wkHp ?_ ?_ | refine vc_eqAVs ?_ ?_ | refine vc_preG ?_ ?_ | refine vc_side0 ?_ | refine vc_weakf [] ?_ ?_ ?_
                   | refine vc_and ?_ ?_ | refine vc_ret [] [] ?_)
            | ((with_reducible first | refine vc_caseD (fun h => ?_) (fun h => ?_) | refine vc_caseN (fun h => ?_) (fun h => ?_)) <;> try (exfalso; omega))
            | ((with_reducible refine vc_case (fun h => ?_) (fun h => ?_)) <;> (try simp at h) <;> try (exfalso; omega))))
    all_goals rfl
  replace hJ := s1 _ _ _ hJ hx
  clear hx hstart
  -- the outer loop
  refine wpIn_block (wpIn_loopI (fun (k : Nat) a w => k ≤ 32 ∧ Fl 28 (bsO l (bs.map byteD) k) a w ∧ J (8 * k) w) (fun k => 32 - k) (x0 := 0) ⟨Nat.zero_le _, hI, hJ⟩ fun k a w hk => ?_)
  obtain ⟨hk, hI, hJ⟩ := hk
  refine wpIn_seq (flat_norm mixed (sl' := bsO1 l (bs.map byteD) k) (fun p hp => ?_) hI ?_ fun a w1 hI hx => ?_)
  · rcases List.mem_cons.1 hp with rfl | hp
    · exact flatA_d rfl
    · exact flat_bsO hs p hp
  ·
    repeat' (first
        | ((with_reducible refine vc_chk ?_); first | decide +kernel | rfl)
        | (with_reducible refine vc_side0 ?_; rfl)
        | (with_reducible first
             | refine vc_true ?_ | refine vc_true2 ?_ | refine vc_side ?_ ?_ | refine vc_triv | refine vc_later ?_ | refine vc_caseT ?_ | refine vc_caseF ?_ | refine vc_cons ?_ | refine vc_nil ?_ ?_ | refine vc_seq ?_
                | refine vc_region ?_ | refine vc_cond ?_ | refine vc_block ?_ | refine vc_retc ?_ | refine vc_exit ?_ | refine vc_skip ?_ | refine vc_scope ?_ | refine vc_label ?_ | refine vc_goto ?_ | refine vc_wkSl0
                | refine vc_wkHp0 | refine vc_eqAVs0 | refine vc_preG0 | refine vc_wkSl ?_ ?_ | refine vc_wkHp ?_ ?_ | refine vc_eqAVs ?_ ?_ | refine vc_preG ?_ ?_ | refine vc_side0 ?_ | refine vc_weakf [] ?_ ?_ ?_
                | refine vc_and ?_ ?_ | refine vc_ret [] [] ?_)
        | ((with_reducible first | refine vc_caseD (fun h => ?_) (fun h => ?_) | refine vc_caseN (fun h => ?_) (fun h => ?_)) <;> try (exfalso; omega))
        | ((with_reducible refine vc_case (fun h => ?_) (fun h => ?_)) <;> (try simp at h) <;> try (exfalso; omega))
        | (conv in Vc _ => arg 1; whnf
           first
            | (with_reducible refine vc_side0 ?_; rfl)
            | (with_reducible first
                | refine vc_true ?_ | refine vc_true2 ?_ | refine vc_side ?_ ?_ | refine vc_triv | refine vc_later ?_ | refine vc_caseT ?_ | refine vc_caseF ?_ | refine vc_cons ?_ | refine vc_nil ?_ ?_ | refine vc_seq ?_
                   | refine vc_region ?_ | refine vc_cond ?_ | refine vc_block ?_ | refine vc_retc ?_ | refine vc_exit ?_ | refine vc_skip ?_ | refine vc_scope ?_ | refine vc_label ?_ | refine vc_goto ?_ | refine vc_wkSl0
                   | refine vc_wkHp0 | refine vc_eqAVs0 | refine vc_preG0 | refine vc_wkSl ?_ ?_ | refine vc_wkHp ?_ ?_ | refine vc_eqAVs ?_ ?_ | refine vc_preG ?_ ?_ | refine vc_side0 ?_ | refine vc_weakf [] ?_ ?_ ?_
                   | refine vc_and ?_ ?_ | refine vc_ret [] [] ?_)
            | ((with_reducible first | refine vc_caseD (fun h => ?_) (fun h => ?_) | refine vc_caseN (fun h => ?_) (fun h => ?_)) <;> try (exfalso; omega))
            | ((with_reducible refine vc_case (fun h => ?_) (fun h => ?_)) <;> (try simp at h) <;> try (exfalso; omega))))
    all_goals rfl
  replace hJ := s1 _ _ _ hJ hx
  refine wpIn_seq (fl_cond hI (b := decide ((k : Int) < 32)) rfl (fun ht => wpIn_skip ?_) (fun ht => wpIn_exit ?_))
  case refine_2 =>
    have : k = 32 := by simp at ht; omega
    subst this
    show LeavesInM _ _ _ _ _ _ _ _ _
    rw [fl_defers hI]
    exact ⟨_, results_run (vs := []) rfl, _, rfl, .inl hJ⟩
  have hlt : k < 32 := by simp at ht; omega
  refine wpIn_seq (wpIn_block (wpIn_seq ?_))
  have hgk : (bs.map byteD).getD k .nilp = byteD (bs.getD k 0) := getD_byte (by omega)
  refine flat_norm mixed (sl' := bsI0 l (bs.map byteD) (bs.getD k 0).toNat k) (flat_bsI0 hs) hI ?_ fun a w2 hI hx => ?_
  ·
    repeat' (first
        | ((with_reducible refine vc_chk ?_); first | decide +kernel | rfl)
        | (with_reducible refine vc_side0 ?_; rfl)
        | (with_reducible first
             | refine vc_true ?_ | refine vc_true2 ?_ | refine vc_side ?_ ?_ | refine vc_triv | refine vc_later ?_ | refine vc_caseT ?_ | refine vc_caseF ?_ | refine vc_cons ?_ | refine vc_nil ?_ ?_ | refine vc_seq ?_
                | refine vc_region ?_ | refine vc_cond ?_ | refine vc_block ?_ | refine vc_retc ?_ | refine vc_exit ?_ | refine vc_skip ?_ | refine vc_scope ?_ | refine vc_label ?_ | refine vc_goto ?_ | refine vc_wkSl0
                | refine vc_wkHp0 | refine vc_eqAVs0 | refine vc_preG0 | refine vc_wkSl ?_ ?_ | refine vc_wkHp ?_ ?_ | refine vc_eqAVs ?_ ?_ | refine vc_preG ?_ ?_ | refine vc_side0 ?_ | refine vc_weakf [] ?_ ?_ ?_
                | refine vc_and ?_ ?_ | refine vc_ret [] [] ?_)
        | ((with_reducible first | refine vc_caseD (fun h => ?_) (fun h => ?_) | refine vc_caseN (fun h => ?_) (fun h => ?_)) <;> try (exfalso; omega))
        | ((with_reducible refine vc_case (fun h => ?_) (fun h => ?_)) <;> (try simp at h) <;> try (exfalso; omega))
        | (conv in Vc _ => arg 1; whnf
           first
            | (with_reducible refine vc_side0 ?_; rfl)
            | (with_reducible first
                | refine vc_true ?_ | refine vc_true2 ?_ | refine vc_side ?_ ?_ | refine vc_triv | refine vc_later ?_ | refine vc_caseT ?_ | refine vc_caseF ?_ | refine vc_cons ?_ | refine vc_nil ?_ ?_ | refine vc_seq ?_
                   | refine vc_region ?_ | refine vc_cond ?_ | refine vc_block ?_ | refine vc_retc ?_ | refine vc_exit ?_ | refine vc_skip ?_ | refine vc_scope ?_ | refine vc_label ?_ | refine vc_goto ?_ | refine vc_wkSl0
                   | refine vc_wkHp0 | refine vc_eqAVs0 | refine vc_preG0 | refine vc_wkSl ?_ ?_ | refine vc_wkHp ?_ ?_ | refine vc_eqAVs ?_ ?_ | refine vc_preG ?_ ?_ | refine vc_side0 ?_ | refine vc_weakf [] ?_ ?_ ?_
                   | refine vc_and ?_ ?_ | refine vc_ret [] [] ?_)
            | ((with_reducible first | refine vc_caseD (fun h => ?_) (fun h => ?_) | refine vc_caseN (fun h => ?_) (fun h => ?_)) <;> try (exfalso; omega))
            | ((with_reducible refine vc_case (fun h => ?_) (fun h => ?_)) <;> (try simp at h) <;> try (exfalso; omega))))
    all_goals (try simp only [Int.toNat_natCast, hgk])
    all_goals first | rfl | exact ⟨⟨by omega, by omega⟩, rfl⟩
  replace hJ := s1 _ _ _ hJ hx
  refine wpIn_seq (flat_norm mixed (sl' := bsI l (bs.map byteD) (bs.getD k 0).toNat k 0) (flat_bsI hs) hI ?_ fun a w3 hI hx => ?_)
  ·
    repeat' (first
        | ((with_reducible refine vc_chk ?_); first | decide +kernel | rfl)
        | (with_reducible refine vc_side0 ?_; rfl)
        | (with_reducible first
             | refine vc_true ?_ | refine vc_true2 ?_ | refine vc_side ?_ ?_ | refine vc_triv | refine vc_later ?_ | refine vc_caseT ?_ | refine vc_caseF ?_ | refine vc_cons ?_ | refine vc_nil ?_ ?_ | refine vc_seq ?_
                | refine vc_region ?_ | refine vc_cond ?_ | refine vc_block ?_ | refine vc_retc ?_ | refine vc_exit ?_ | refine vc_skip ?_ | refine vc_scope ?_ | refine vc_label ?_ | refine vc_goto ?_ | refine vc_wkSl0
                | refine vc_wkHp0 | refine vc_eqAVs0 | refine vc_preG0 | refine vc_wkSl ?_ ?_ | refine vc_wkHp ?_ ?_ | refine vc_eqAVs ?_ ?_ | refine vc_preG ?_ ?_ | refine vc_side0 ?_ | refine vc_weakf [] ?_ ?_ ?_
                | refine vc_and ?_ ?_ | refine vc_ret [] [] ?_)
        | ((with_reducible first | refine vc_caseD (fun h => ?_) (fun h => ?_) | refine vc_caseN (fun h => ?_) (fun h => ?_)) <;> try (exfalso; omega))
        | ((with_reducible refine vc_case (fun h => ?_) (fun h => ?_)) <;> (try simp at h) <;> try (exfalso; omega))
        | (conv in Vc _ => arg 1; whnf
           first
            | (with_reducible refine vc_side0 ?_; rfl)
            | (with_reducible first
                | refine vc_true ?_ | refine vc_true2 ?_ | refine vc_side ?_ ?_ | refine vc_triv | refine vc_later ?_ | refine vc_caseT ?_ | refine vc_caseF ?_ | refine vc_cons ?_ | refine vc_nil ?_ ?_ | refine vc_seq ?_
                   | refine vc_region ?_ | refine vc_cond ?_ | refine vc_block ?_ | refine vc_retc ?_ | refine vc_exit ?_ | refine vc_skip ?_ | refine vc_scope ?_ | refine vc_label ?_ | refine vc_goto ?_ | refine vc_wkSl0
                   | refine vc_wkHp0 | refine vc_eqAVs0 | refine vc_preG0 | refine vc_wkSl ?_ ?_ | refine vc_wkHp ?_ ?_ | refine vc_eqAVs ?_ ?_ | refine vc_preG ?_ ?_ | refine vc_side0 ?_ | refine vc_weakf [] ?_ ?_ ?_
                   | refine vc_and ?_ ?_ | refine vc_ret [] [] ?_)
            | ((with_reducible first | refine vc_caseD (fun h => ?_) (fun h => ?_) | refine vc_caseN (fun h => ?_) (fun h => ?_)) <;> try (exfalso; omega))
            | ((with_reducible refine vc_case (fun h => ?_) (fun h => ?_)) <;> (try simp at h) <;> try (exfalso; omega))))
    all_goals rfl
  replace hJ := s1 _ _ _ hJ hx
  clear hx
  -- the inner loop
  refine wpIn_block (wpIn_loopI (fun (m : Nat) a w => m ≤ 8 ∧ Fl 28 (bsI l (bs.map byteD) (bs.getD k 0).toNat k m) a w ∧ J (8 * k + m) w) (fun m => 8 - m) (x0 := 0) ⟨Nat.zero_le _, hI, hJ⟩ fun m a w hm => ?_)
  obtain ⟨hm, hI, hJ⟩ := hm
  refine wpIn_seq (wpIn_seq (flat_norm mixed (sl' := bsI1 l (bs.map byteD) (bs.getD k 0).toNat k m) (fun p hp => ?_) hI ?_ fun a w1 hI hx => ?_))
  · rcases List.mem_cons.1 hp with rfl | hp
    · exact flatA_d rfl
    · exact flat_bsI hs p hp
  ·
    repeat' (first
        | ((with_reducible refine vc_chk ?_); first | decide +kernel | rfl)
        | (with_reducible refine vc_side0 ?_; rfl)
        | (with_reducible first
             | refine vc_true ?_ | refine vc_true2 ?_ | refine vc_side ?_ ?_ | refine vc_triv | refine vc_later ?_ | refine vc_caseT ?_ | refine vc_caseF ?_ | refine vc_cons ?_ | refine vc_nil ?_ ?_ | refine vc_seq ?_
                | refine vc_region ?_ | refine vc_cond ?_ | refine vc_block ?_ | refine vc_retc ?_ | refine vc_exit ?_ | refine vc_skip ?_ | refine vc_scope ?_ | refine vc_label ?_ | refine vc_goto ?_ | refine vc_wkSl0
                | refine vc_wkHp0 | refine vc_eqAVs0 | refine vc_preG0 | refine vc_wkSl ?_ ?_ | refine vc_wkHp ?_ ?_ | refine vc_eqAVs ?_ ?_ | refine vc_preG ?_ ?_ | refine vc_side0 ?_ | refine vc_weakf [] ?_ ?_ ?_
                | refine vc_and ?_ ?_ | refine vc_ret [] [] ?_)
        | ((with_reducible first | refine vc_caseD (fun h => ?_) (fun h => ?_) | refine vc_caseN (fun h => ?_) (fun h => ?_)) <;> try (exfalso; omega))
        | ((with_reducible refine vc_case (fun h => ?_) (fun h => ?_)) <;> (try simp at h) <;> try (exfalso; omega))
        | (conv in Vc _ => arg 1; whnf
           first
            | (with_reducible refine vc_side0 ?_; rfl)
            | (with_reducible first
                | refine vc_true ?_ | refine vc_true2 ?_ | refine vc_side ?_ ?_ | refine vc_triv | refine vc_later ?_ | refine vc_caseT ?_ | refine vc_caseF ?_ | refine vc_cons ?_ | refine vc_nil ?_ ?_ | refine vc_seq ?_
                   | refine vc_region ?_ | refine vc_cond ?_ | refine vc_block ?_ | refine vc_retc ?_ | refine vc_exit ?_ | refine vc_skip ?_ | refine vc_scope ?_ | refine vc_label ?_ | refine vc_goto ?_ | refine vc_wkSl0
                   | refine vc_wkHp0 | refine vc_eqAVs0 | refine vc_preG0 | refine vc_wkSl ?_ ?_ | refine vc_wkHp ?_ ?_ | refine vc_eqAVs ?_ ?_ | refine vc_preG ?_ ?_ | refine vc_side0 ?_ | refine vc_weakf [] ?_ ?_ ?_
                   | refine vc_and ?_ ?_ | refine vc_ret [] [] ?_)
            | ((with_reducible first | refine vc_caseD (fun h => ?_) (fun h => ?_) | refine vc_caseN (fun h => ?_) (fun h => ?_)) <;> try (exfalso; omega))
            | ((with_reducible refine vc_case (fun h => ?_) (fun h => ?_)) <;> (try simp at h) <;> try (exfalso; omega))))
    all_goals rfl
  replace hJ := s1 _ _ _ hJ hx
  refine fl_cond hI (b := decide ((m : Int) < 8)) rfl (fun ht => wpIn_skip ?_) (fun ht => wpIn_exit ?_)
  case refine_2 =>
    have : m = 8 := by simp at ht; omega
    subst this
    -- behind the inner loop
    show (Code.region _ _ _).wpIn _ _ _ _ _ _
    refine flat_norm mixed (sl' := bsO l (bs.map byteD) (k + 1)) (flat_bsO hs) hI ?_ fun a w2 hI hx => ?_
    ·
      repeat' (first
          | ((with_reducible refine vc_chk ?_); first | decide +kernel | rfl)
          | (with_reducible refine vc_side0 ?_; rfl)
          | (with_reducible first
               | refine vc_true ?_ | refine vc_true2 ?_ | refine vc_side ?_ ?_ | refine vc_triv | refine vc_later ?_ | refine vc_caseT ?_ | refine vc_caseF ?_ | refine vc_cons ?_ | refine vc_nil ?_ ?_ | refine vc_seq ?_
                  | refine vc_region ?_ | refine vc_cond ?_ | refine vc_block ?_ | refine vc_retc ?_ | refine vc_exit ?_ | refine vc_skip ?_ | refine vc_scope ?_ | refine vc_label ?_ | refine vc_goto ?_ | refine vc_wkSl0
                  | refine vc_wkHp0 | refine vc_eqAVs0 | refine vc_preG0 | refine vc_wkSl ?_ ?_ | refine vc_wkHp ?_ ?_ | refine vc_eqAVs ?_ ?_ | refine vc_preG ?_ ?_ | refine vc_side0 ?_ | refine vc_weakf [] ?_ ?_ ?_
                  | refine vc_and ?_ ?_ | refine vc_ret [] [] ?_)
          | ((with_reducible first | refine vc_caseD (fun h => ?_) (fun h => ?_) | refine vc_caseN (fun h => ?_) (fun h => ?_)) <;> try (exfalso; omega))
          | ((with_reducible refine vc_case (fun h => ?_) (fun h => ?_)) <;> (try simp at h) <;> try (exfalso; omega))
          | (conv in Vc _ => arg 1; whnf
             first
              | (with_reducible refine vc_side0 ?_; rfl)
              | (with_reducible first
                  | refine vc_true ?_ | refine vc_true2 ?_ | refine vc_side ?_ ?_ | refine vc_triv | refine vc_later ?_ | refine vc_caseT ?_ | refine vc_caseF ?_ | refine vc_cons ?_ | refine vc_nil ?_ ?_ | refine vc_seq ?_
                     | refine vc_region ?_ | refine vc_cond ?_ | refine vc_block ?_ | refine vc_retc ?_ | refine vc_exit ?_ | refine vc_skip ?_ | refine vc_scope ?_ | refine vc_label ?_ | refine vc_goto ?_ | refine vc_wkSl0
                     | refine vc_wkHp0 | refine vc_eqAVs0 | refine vc_preG0 | refine vc_wkSl ?_ ?_ | refine vc_wkHp ?_ ?_ | refine vc_eqAVs ?_ ?_ | refine vc_preG ?_ ?_ | refine vc_side0 ?_ | refine vc_weakf [] ?_ ?_ ?_
                     | refine vc_and ?_ ?_ | refine vc_ret [] [] ?_)
              | ((with_reducible first | refine vc_caseD (fun h => ?_) (fun h => ?_) | refine vc_caseN (fun h => ?_) (fun h => ?_)) <;> try (exfalso; omega))
              | ((with_reducible refine vc_case (fun h => ?_) (fun h => ?_)) <;> (try simp at h) <;> try (exfalso; omega))))
      all_goals first | rfl | (rw [wrap64_id (by omega) (by omega)]; rfl)
    exact ⟨k + 1, ⟨by omega, hI, s1 _ _ _ hJ hx⟩, by omega⟩
  have hlt : m < 8 := by simp at ht; omega
  have hi : 8 * k + m < 256 := by omega
  have hbit : bitB bs (8 * k + m) = (bs.getD k 0).toNat.testBit (7 - m) := by
    unfold bitB
    rw [show (8 * k + m) / 8 = k by omega, show (8 * k + m) % 8 = m by omega]
  refine wpIn_seq (wpIn_block (wpIn_seq (wpIn_region ?_)))
  rw [show List.range _ = List.range' 0 10 ++ (10 :: List.range' 11 1) from rfl]
  refine wpOpsIn_append _ (flat_pre (id := 6) (sl' := bsI2 l (bs.map byteD) (bs.getD k 0).toNat k m) (fun p hp => ?_) rfl hI ?_ fun a w2 hI hx => ?_)
  · simp only [bsI2, List.mem_cons] at hp
    rcases hp with rfl | rfl | rfl | hp
    · exact flatA_fn
    · exact flatA_d rfl
    · exact flatA_d rfl
    · exact flat_bsI hs p hp
  · simp only [List.take_succ_cons, List.take_zero]
    repeat' (first
        | ((with_reducible refine vc_chk ?_); first | decide +kernel | rfl)
        | (with_reducible refine vc_side0 ?_; rfl)
        | (with_reducible first
             | refine vc_true ?_ | refine vc_true2 ?_ | refine vc_side ?_ ?_ | refine vc_triv | refine vc_later ?_ | refine vc_caseT ?_ | refine vc_caseF ?_ | refine vc_cons ?_ | refine vc_nil ?_ ?_ | refine vc_seq ?_
                | refine vc_region ?_ | refine vc_cond ?_ | refine vc_block ?_ | refine vc_retc ?_ | refine vc_exit ?_ | refine vc_skip ?_ | refine vc_scope ?_ | refine vc_label ?_ | refine vc_goto ?_ | refine vc_wkSl0
                | refine vc_wkHp0 | refine vc_eqAVs0 | refine vc_preG0 | refine vc_wkSl ?_ ?_ | refine vc_wkHp ?_ ?_ | refine vc_eqAVs ?_ ?_ | refine vc_preG ?_ ?_ | refine vc_side0 ?_ | refine vc_weakf [] ?_ ?_ ?_
                | refine vc_and ?_ ?_ | refine vc_ret [] [] ?_)
        | ((with_reducible first | refine vc_caseD (fun h => ?_) (fun h => ?_) | refine vc_caseN (fun h => ?_) (fun h => ?_)) <;> try (exfalso; omega))
        | ((with_reducible refine vc_case (fun h => ?_) (fun h => ?_)) <;> (try simp at h) <;> try (exfalso; omega))
        | (conv in Vc _ => arg 1; whnf
           first
            | (with_reducible refine vc_side0 ?_; rfl)
            | (with_reducible first
                | refine vc_true ?_ | refine vc_true2 ?_ | refine vc_side ?_ ?_ | refine vc_triv | refine vc_later ?_ | refine vc_caseT ?_ | refine vc_caseF ?_ | refine vc_cons ?_ | refine vc_nil ?_ ?_ | refine vc_seq ?_
                   | refine vc_region ?_ | refine vc_cond ?_ | refine vc_block ?_ | refine vc_retc ?_ | refine vc_exit ?_ | refine vc_skip ?_ | refine vc_scope ?_ | refine vc_label ?_ | refine vc_goto ?_ | refine vc_wkSl0
                   | refine vc_wkHp0 | refine vc_eqAVs0 | refine vc_preG0 | refine vc_wkSl ?_ ?_ | refine vc_wkHp ?_ ?_ | refine vc_eqAVs ?_ ?_ | refine vc_preG ?_ ?_ | refine vc_side0 ?_ | refine vc_weakf [] ?_ ?_ ?_
                   | refine vc_and ?_ ?_ | refine vc_ret [] [] ?_)
            | ((with_reducible first | refine vc_caseD (fun h => ?_) (fun h => ?_) | refine vc_caseN (fun h => ?_) (fun h => ?_)) <;> try (exfalso; omega))
            | ((with_reducible refine vc_case (fun h => ?_) (fun h => ?_)) <;> (try simp at h) <;> try (exfalso; omega))))
    all_goals first | rfl | omega | exact congrArg D.bool (and_bit _ _ hlt) | (rw [wrap64_id (n := 8 * (k : Int)) (by omega) (by omega), wrap64_id (by omega) (by omega)]; congr 1)
  replace hJ := s1 _ _ _ hJ hx
  rw [wpOpsIn_cons]
  refine fl_yield (i := 8 * k + m) hy rfl rfl rfl rfl rfl hI rfl (by show _ = [AV.d (.int .i64 ((8 * k + m : Nat) : Int)), AV.d (.bool (bitB bs (8 * k + m)))]; rw [hbit]; rfl) rfl hi hJ (fun p hp => ?_) fun t a w3 hI j1 j2 => ?_
  · simp only [bsI2, List.mem_cons] at hp
    rcases hp with rfl | rfl | rfl | hp
    · exact flatA_fn
    · exact flatA_d rfl
    · exact flatA_d rfl
    · exact flat_bsI hs p hp
  refine flat_suf (id := 6) (sl' := (26, .d (.bool (!t))) :: bsI l (bs.map byteD) (bs.getD k 0).toNat k m) (fun p hp => ?_) rfl hI ?_ fun a w4 hI hx => ?_
  · rcases List.mem_cons.1 hp with rfl | hp
    · exact flatA_d rfl
    · exact flat_bsI hs p hp
  · simp only [List.drop_succ_cons, List.drop_zero]
    repeat' (first
        | ((with_reducible refine vc_chk ?_); first | decide +kernel | rfl)
        | (with_reducible refine vc_side0 ?_; rfl)
        | (with_reducible first
             | refine vc_true ?_ | refine vc_true2 ?_ | refine vc_side ?_ ?_ | refine vc_triv | refine vc_later ?_ | refine vc_caseT ?_ | refine vc_caseF ?_ | refine vc_cons ?_ | refine vc_nil ?_ ?_ | refine vc_seq ?_
                | refine vc_region ?_ | refine vc_cond ?_ | refine vc_block ?_ | refine vc_retc ?_ | refine vc_exit ?_ | refine vc_skip ?_ | refine vc_scope ?_ | refine vc_label ?_ | refine vc_goto ?_ | refine vc_wkSl0
                | refine vc_wkHp0 | refine vc_eqAVs0 | refine vc_preG0 | refine vc_wkSl ?_ ?_ | refine vc_wkHp ?_ ?_ | refine vc_eqAVs ?_ ?_ | refine vc_preG ?_ ?_ | refine vc_side0 ?_ | refine vc_weakf [] ?_ ?_ ?_
                | refine vc_and ?_ ?_ | refine vc_ret [] [] ?_)
        | ((with_reducible first | refine vc_caseD (fun h => ?_) (fun h => ?_) | refine vc_caseN (fun h => ?_) (fun h => ?_)) <;> try (exfalso; omega))
        | ((with_reducible refine vc_case (fun h => ?_) (fun h => ?_)) <;> (try simp at h) <;> try (exfalso; omega))
        | (conv in Vc _ => arg 1; whnf
           first
            | (with_reducible refine vc_side0 ?_; rfl)
            | (with_reducible first
                | refine vc_true ?_ | refine vc_true2 ?_ | refine vc_side ?_ ?_ | refine vc_triv | refine vc_later ?_ | refine vc_caseT ?_ | refine vc_caseF ?_ | refine vc_cons ?_ | refine vc_nil ?_ ?_ | refine vc_seq ?_
                   | refine vc_region ?_ | refine vc_cond ?_ | refine vc_block ?_ | refine vc_retc ?_ | refine vc_exit ?_ | refine vc_skip ?_ | refine vc_scope ?_ | refine vc_label ?_ | refine vc_goto ?_ | refine vc_wkSl0
                   | refine vc_wkHp0 | refine vc_eqAVs0 | refine vc_preG0 | refine vc_wkSl ?_ ?_ | refine vc_wkHp ?_ ?_ | refine vc_eqAVs ?_ ?_ | refine vc_preG ?_ ?_ | refine vc_side0 ?_ | refine vc_weakf [] ?_ ?_ ?_
                   | refine vc_and ?_ ?_ | refine vc_ret [] [] ?_)
            | ((with_reducible first | refine vc_caseD (fun h => ?_) (fun h => ?_) | refine vc_caseN (fun h => ?_) (fun h => ?_)) <;> try (exfalso; omega))
            | ((with_reducible refine vc_case (fun h => ?_) (fun h => ?_)) <;> (try simp at h) <;> try (exfalso; omega))))
    all_goals rfl
  refine fl_cond hI (b := !t) rfl (fun ht => wpIn_exit ?_) (fun ht => wpIn_skip ?_)
  · have htf : t = false := by simpa using ht
    show LeavesInM _ _ _ _ _ _ _ _ _
    rw [fl_defers hI]
    exact ⟨_, results_run (vs := []) rfl, _, rfl, .inr (s2 _ _ (j2 htf) hx)⟩
  · have htt : t = true := by simpa using ht
    have hJ' := s1 _ _ _ (j1 htt) hx
    show (Code.region _ _ _).wpIn _ _ _ _ _ _
    refine flat_norm mixed (sl' := bsI l (bs.map byteD) (bs.getD k 0).toNat k (m + 1)) (flat_bsI hs) hI ?_ fun a w5 hI hx => ?_
    ·
      repeat' (first
          | ((with_reducible refine vc_chk ?_); first | decide +kernel | rfl)
          | (with_reducible refine vc_side0 ?_; rfl)
          | (with_reducible first
               | refine vc_true ?_ | refine vc_true2 ?_ | refine vc_side ?_ ?_ | refine vc_triv | refine vc_later ?_ | refine vc_caseT ?_ | refine vc_caseF ?_ | refine vc_cons ?_ | refine vc_nil ?_ ?_ | refine vc_seq ?_
                  | refine vc_region ?_ | refine vc_cond ?_ | refine vc_block ?_ | refine vc_retc ?_ | refine vc_exit ?_ | refine vc_skip ?_ | refine vc_scope ?_ | refine vc_label ?_ | refine vc_goto ?_ | refine vc_wkSl0
                  | refine vc_wkHp0 | refine vc_eqAVs0 | refine vc_preG0 | refine vc_wkSl ?_ ?_ | refine vc_wkHp ?_ ?_ | refine vc_eqAVs ?_ ?_ | refine vc_preG ?_ ?_ | refine vc_side0 ?_ | refine vc_weakf [] ?_ ?_ ?_
                  | refine vc_and ?_ ?_ | refine vc_ret [] [] ?_)
          | ((with_reducible first | refine vc_caseD (fun h => ?_) (fun h => ?_) | refine vc_caseN (fun h => ?_) (fun h => ?_)) <;> try (exfalso; omega))
          | ((with_reducible refine vc_case (fun h => ?_) (fun h => ?_)) <;> (try simp at h) <;> try (exfalso; omega))
          | (conv in Vc _ => arg 1; whnf
             first
              | (with_reducible refine vc_side0 ?_; rfl)
              | (with_reducible first
                  | refine vc_true ?_ | refine vc_true2 ?_ | refine vc_side ?_ ?_ | refine vc_triv | refine vc_later ?_ | refine vc_caseT ?_ | refine vc_caseF ?_ | refine vc_cons ?_ | refine vc_nil ?_ ?_ | refine vc_seq ?_
                     | refine vc_region ?_ | refine vc_cond ?_ | refine vc_block ?_ | refine vc_retc ?_ | refine vc_exit ?_ | refine vc_skip ?_ | refine vc_scope ?_ | refine vc_label ?_ | refine vc_goto ?_ | refine vc_wkSl0
                     | refine vc_wkHp0 | refine vc_eqAVs0 | refine vc_preG0 | refine vc_wkSl ?_ ?_ | refine vc_wkHp ?_ ?_ | refine vc_eqAVs ?_ ?_ | refine vc_preG ?_ ?_ | refine vc_side0 ?_ | refine vc_weakf [] ?_ ?_ ?_
                     | refine vc_and ?_ ?_ | refine vc_ret [] [] ?_)
              | ((with_reducible first | refine vc_caseD (fun h => ?_) (fun h => ?_) | refine vc_caseN (fun h => ?_) (fun h => ?_)) <;> try (exfalso; omega))
              | ((with_reducible refine vc_case (fun h => ?_) (fun h => ?_)) <;> (try simp at h) <;> try (exfalso; omega))))
      all_goals first | rfl | (rw [wrap64_id (by omega) (by omega)]; rfl)
    exact ⟨m + 1, ⟨by omega, hI, s1 _ _ _ hJ' hx⟩, by omega⟩

end Go.Proofs.Ytdceegllpcepnaa

/-
What path.Common, path.Cut, path.Under and path.Less do.
-/
set_option linter.unusedSimpArgs false
set_option linter.unusedVariables false
namespace Go.Proofs.Ytdceegllpcepnaa
open Go.Sym
set_option maxRecDepth 10000

theorem common_ok (xs ys : List D) (a b : List UInt8) (hx : xs = a.map byteD) (hy : ys = b.map byteD) (ha : a.length = 32) (hb : b.length = 32) :
    LocalCall Try.prog 57 [.d (.arr 32 1 xs), .d (.arr 32 1 ys)] [] [] (one [.d (.int .i64 (common a b : Nat))]) [] := by
  subst hx hy
  refine vc_fn mixed Try.func57 rfl rfl [] (vc_chk rfl) ?_
  repeat' (first
      | ((with_reducible refine vc_chk ?_); first | decide +kernel | rfl)
      | (with_reducible refine vc_side0 ?_; rfl)
      | (with_reducible first
           | refine vc_true ?_ | refine vc_true2 ?_ | refine vc_side ?_ ?_ | refine vc_triv | refine vc_later ?_ | refine vc_caseT ?_ | refine vc_caseF ?_ | refine vc_cons ?_ | refine vc_nil ?_ ?_ | refine vc_seq ?_
              | refine vc_region ?_ | refine vc_cond ?_ | refine vc_block ?_ | refine vc_retc ?_ | refine vc_exit ?_ | refine vc_skip ?_ | refine vc_scope ?_ | refine vc_label ?_ | refine vc_goto ?_ | refine vc_wkSl0
              | refine vc_wkHp0 | refine vc_eqAVs0 | refine vc_preG0 | refine vc_wkSl ?_ ?_ | refine vc_wkHp ?_ ?_ | refine vc_eqAVs ?_ ?_ | refine vc_preG ?_ ?_ | refine vc_side0 ?_ | refine vc_callU (bits_ok _) ?_ ?_
              | refine vc_pure (bit_ok _ b rfl hb _) ?_ ?_ ?_
              | refine vc_range 20 79 7 (.arr 32 1 (a.map byteD)) 256 (fun i => [.int .i64 (i : Int), .bool (bitB a i)]) [(2, .ptr 1000 []), (3, .ptr 1004 []), (5, .ptr 2000 [])] (fun i => [(1000, .var (.d (.arr 32 1 (a.map byteD)))), (1004, .var (.d (.arr 32 1 (b.map byteD)))), (2000, .var (.d (.int .i64 (i : Int))))]) (fun i => ∀ j, j < i → bitB a j = bitB b j) [] ?_ ?_ ?_ ?_ (bits_seq a ha) (fun _ => ⟨rfl, rfl⟩) ?_ ?_ ?_ ?_ ?_ (fun i hi hI => ?_) (fun hI => ?_)
              | refine vc_endc [] ?_ ?_ ?_ ?_ | refine vc_weakf [] ?_ ?_ ?_ | refine vc_and ?_ ?_ | refine vc_ret [] [] ?_)
      | ((with_reducible first | refine vc_caseD (fun h => ?_) (fun h => ?_) | refine vc_caseN (fun h => ?_) (fun h => ?_)) <;> try (exfalso; omega))
      | ((with_reducible refine vc_case (fun h => ?_) (fun h => ?_)) <;> (try simp at h) <;> try (exfalso; omega))
      | (conv in Vc _ => arg 1; whnf
         first
          | (with_reducible refine vc_side0 ?_; rfl)
          | (with_reducible first
              | refine vc_true ?_ | refine vc_true2 ?_ | refine vc_side ?_ ?_ | refine vc_triv | refine vc_later ?_ | refine vc_caseT ?_ | refine vc_caseF ?_ | refine vc_cons ?_ | refine vc_nil ?_ ?_ | refine vc_seq ?_
                 | refine vc_region ?_ | refine vc_cond ?_ | refine vc_block ?_ | refine vc_retc ?_ | refine vc_exit ?_ | refine vc_skip ?_ | refine vc_scope ?_ | refine vc_label ?_ | refine vc_goto ?_ | refine vc_wkSl0
                 | refine vc_wkHp0 | refine vc_eqAVs0 | refine vc_preG0 | refine vc_wkSl ?_ ?_ | refine vc_wkHp ?_ ?_ | refine vc_eqAVs ?_ ?_ | refine vc_preG ?_ ?_ | refine vc_side0 ?_ | refine vc_callU (bits_ok _) ?_ ?_
                 | refine vc_pure (bit_ok _ b rfl hb _) ?_ ?_ ?_
                 | refine vc_range 20 79 7 (.arr 32 1 (a.map byteD)) 256 (fun i => [.int .i64 (i : Int), .bool (bitB a i)]) [(2, .ptr 1000 []), (3, .ptr 1004 []), (5, .ptr 2000 [])] (fun i => [(1000, .var (.d (.arr 32 1 (a.map byteD)))), (1004, .var (.d (.arr 32 1 (b.map byteD)))), (2000, .var (.d (.int .i64 (i : Int))))]) (fun i => ∀ j, j < i → bitB a j = bitB b j) [] ?_ ?_ ?_ ?_ (bits_seq a ha) (fun _ => ⟨rfl, rfl⟩) ?_ ?_ ?_ ?_ ?_ (fun i hi hI => ?_) (fun hI => ?_)
                 | refine vc_endc [] ?_ ?_ ?_ ?_ | refine vc_weakf [] ?_ ?_ ?_ | refine vc_and ?_ ?_ | refine vc_ret [] [] ?_)
          | ((with_reducible first | refine vc_caseD (fun h => ?_) (fun h => ?_) | refine vc_caseN (fun h => ?_) (fun h => ?_)) <;> try (exfalso; omega))
          | ((with_reducible refine vc_case (fun h => ?_) (fun h => ?_)) <;> (try simp at h) <;> try (exfalso; omega))))
  all_goals (try rfl)
  · exact fun j hj => by omega
  · rw [bitI_nat b hi] at h
    rw [common_at hI hi fun e => h e.symm]
  · rw [bitI_nat b hi] at h
    intro j hj
    by_cases hji : j < i
    · exact hI j hji
    · obtain rfl : j = i := by omega
      exact h.symm
  · rw [wrap64_id (by omega) (by omega)]; rfl
  · rw [common_all hI]

theorem under_ok (xs ys : List D) (a b : List UInt8) (hx : xs = a.map byteD) (hy : ys = b.map byteD) (ha : a.length = 32) (hb : b.length = 32) (n : Int) :
    LocalCall Try.prog 37 [.d (.arr 32 1 xs), .d (.arr 32 1 ys), .d (.int .i64 n)] [] [] (one [.d (.bool (decide ((common a b : Int) ≥ n)))]) [] := by
  subst hx hy
  refine vc_fn mixed Try.func37 rfl rfl [] (vc_chk rfl) ?_
  repeat' (first
      | ((with_reducible refine vc_chk ?_); first | decide +kernel | rfl)
      | (with_reducible refine vc_side0 ?_; rfl)
      | (with_reducible first
           | refine vc_true ?_ | refine vc_true2 ?_ | refine vc_side ?_ ?_ | refine vc_triv | refine vc_later ?_ | refine vc_caseT ?_ | refine vc_caseF ?_ | refine vc_cons ?_ | refine vc_nil ?_ ?_ | refine vc_seq ?_
              | refine vc_region ?_ | refine vc_cond ?_ | refine vc_block ?_ | refine vc_retc ?_ | refine vc_exit ?_ | refine vc_skip ?_ | refine vc_scope ?_ | refine vc_label ?_ | refine vc_goto ?_ | refine vc_wkSl0
              | refine vc_wkHp0 | refine vc_eqAVs0 | refine vc_preG0 | refine vc_wkSl ?_ ?_ | refine vc_wkHp ?_ ?_ | refine vc_eqAVs ?_ ?_ | refine vc_preG ?_ ?_ | refine vc_side0 ?_
              | refine vc_pure (common_ok _ _ a b rfl rfl ha hb) ?_ ?_ ?_ | refine vc_weakf [] ?_ ?_ ?_ | refine vc_and ?_ ?_ | refine vc_ret [] [] ?_)
      | ((with_reducible first | refine vc_caseD (fun h => ?_) (fun h => ?_) | refine vc_caseN (fun h => ?_) (fun h => ?_)) <;> try (exfalso; omega))
      | ((with_reducible refine vc_case (fun h => ?_) (fun h => ?_)) <;> (try simp at h) <;> try (exfalso; omega))
      | (conv in Vc _ => arg 1; whnf
         first
          | (with_reducible refine vc_side0 ?_; rfl)
          | (with_reducible first
              | refine vc_true ?_ | refine vc_true2 ?_ | refine vc_side ?_ ?_ | refine vc_triv | refine vc_later ?_ | refine vc_caseT ?_ | refine vc_caseF ?_ | refine vc_cons ?_ | refine vc_nil ?_ ?_ | refine vc_seq ?_
                 | refine vc_region ?_ | refine vc_cond ?_ | refine vc_block ?_ | refine vc_retc ?_ | refine vc_exit ?_ | refine vc_skip ?_ | refine vc_scope ?_ | refine vc_label ?_ | refine vc_goto ?_ | refine vc_wkSl0
                 | refine vc_wkHp0 | refine vc_eqAVs0 | refine vc_preG0 | refine vc_wkSl ?_ ?_ | refine vc_wkHp ?_ ?_ | refine vc_eqAVs ?_ ?_ | refine vc_preG ?_ ?_ | refine vc_side0 ?_
                 | refine vc_pure (common_ok _ _ a b rfl rfl ha hb) ?_ ?_ ?_ | refine vc_weakf [] ?_ ?_ ?_ | refine vc_and ?_ ?_ | refine vc_ret [] [] ?_)
          | ((with_reducible first | refine vc_caseD (fun h => ?_) (fun h => ?_) | refine vc_caseN (fun h => ?_) (fun h => ?_)) <;> try (exfalso; omega))
          | ((with_reducible refine vc_case (fun h => ?_) (fun h => ?_)) <;> (try simp at h) <;> try (exfalso; omega))))

end Go.Proofs.Ytdceegllpcepnaa

/-
Ways and what is hashed along them: plain words; a list turned around.
-/
set_option linter.unusedSimpArgs false
set_option linter.unusedVariables false
namespace Go.Proofs.Ytdceegllpcepnaa
open Go.Sym
set_option maxRecDepth 10000
set_option maxHeartbeats 1000000

def stepB (idx : List UInt8) (d : Nat) (y x : List UInt8) : List UInt8 := bif bitI idx (d : Int) then nodeB y x else nodeB x y
/-- What is hashed along a way, from the root on. -/
def wayL (idx : List UInt8) : Nat → List (List UInt8) → List UInt8 → List (List UInt8)
  | _, [], b => [b]
  | d, y :: ys, b => stepB idx d y (shaB ((wayL idx (d + 1) ys b).headD [])) :: wayL idx (d + 1) ys b
def endB (p : Prf) : List UInt8 := bif decide (p.fin = 1) then leafB p.index p.value else emptyB
def hashedP (idx : List UInt8) (p : Prf) : List (List UInt8) := wayL idx 0 p.sides (endB p)
def rootP (idx : List UInt8) (p : Prf) : List UInt8 := shaB ((hashedP idx p).headD [])

theorem stepB_length (idx : List UInt8) (d : Nat) {y x : List UInt8} (hy : y.length = 32) (hx : x.length = 32) : (stepB idx d y x).length = 65 := by
  unfold stepB
  cases bitI idx (d : Int)
  · exact nodeB_length hx hy
  · exact nodeB_length hy hx
theorem wayL_length (idx : List UInt8) : ∀ (ys : List (List UInt8)) (d : Nat) (b : List UInt8), (wayL idx d ys b).length = ys.length + 1
  | [], _, _ => rfl
  | y :: ys, d, b => by simp only [wayL, List.length_cons, wayL_length idx ys]
theorem wayL_le (idx : List UInt8) : ∀ (ys : List (List UInt8)) (d : Nat) (b : List UInt8), b.length ≤ 65 → (∀ y, y ∈ ys → y.length = 32) → ∀ t, t ∈ wayL idx d ys b → t.length ≤ 65
  | [], _, b, hb, _, t, ht => by rw [wayL, List.mem_singleton] at ht; rw [ht]; exact hb
  | y :: ys, d, b, hb, hy, t, ht => by
    rw [wayL, List.mem_cons] at ht
    rcases ht with rfl | ht
    · rw [stepB_length idx d (hy y (by simp)) (shaB_length _)]; omega
    · exact wayL_le idx ys (d + 1) b hb (fun y h => hy y (by simp [h])) t ht
theorem endB_le {p : Prf} (hp : p.index.length = 32) (hv : p.value.length = 32) : (endB p).length ≤ 65 := by
  unfold endB
  cases decide (p.fin = 1)
  · show emptyB.length ≤ 65; decide
  · rw [cond_true, leafB_length hp hv]; omega
theorem headD_mem {l : List (List UInt8)} (h : 0 < l.length) : l.headD [] ∈ l := by
  cases l with
  | nil => simp at h
  | cons x l => simp

/-- The texts from a place on. -/
def wayN (idx : List UInt8) (p : Prf) (k : Nat) : List (List UInt8) := wayL idx k (p.sides.drop k) (endB p)
theorem wayN_zero (idx : List UInt8) (p : Prf) : wayN idx p 0 = hashedP idx p := rfl
theorem wayN_end (idx : List UInt8) (p : Prf) : wayN idx p p.sides.length = [endB p] := by unfold wayN; rw [List.drop_length]; rfl
theorem wayN_step (idx : List UInt8) (p : Prf) {k : Nat} (hk : 0 < k) (hl : k ≤ p.sides.length) : wayN idx p (k - 1) = stepB idx (k - 1) (p.sides.getD (k - 1) []) (shaB ((wayN idx p k).headD [])) :: wayN idx p k := by
  unfold wayN
  have hd : p.sides.drop (k - 1) = p.sides.getD (k - 1) [] :: p.sides.drop k := by
    rw [List.drop_eq_getElem_cons (by omega), List.getD_eq_getElem?_getD, List.getElem?_eq_getElem (by omega), show k - 1 + 1 = k by omega]; rfl
  rw [hd, wayL, show k - 1 + 1 = k by omega]
theorem wayN_length (idx : List UInt8) (p : Prf) {k : Nat} (hl : k ≤ p.sides.length) : (wayN idx p k).length = p.sides.length - k + 1 := by
  unfold wayN; rw [wayL_length, List.length_drop]
theorem wayN_head {idx : List UInt8} {p : Prf} (hw : wfP p) {k : Nat} (hl : k ≤ p.sides.length) : ((wayN idx p k).headD []).length ≤ 65 :=
  wayL_le idx _ _ _ (endB_le hw.2 hw.3) (fun y hy => hw.1 y (List.mem_of_mem_drop hy)) _ (headD_mem (by rw [wayL_length]; omega))

/-! ### A list turned around -/

def swapL (ls : List (List UInt8)) (i : Nat) : List (List UInt8) := (List.range ls.length).map fun t => bif decide (t < i) || decide (ls.length ≤ t + i) then ls.getD (ls.length - 1 - t) [] else ls.getD t []
theorem swapL_length (ls : List (List UInt8)) (i : Nat) : (swapL ls i).length = ls.length := by simp [swapL]
theorem swapL_get (ls : List (List UInt8)) (i : Nat) {t : Nat} (h : t < ls.length) : (swapL ls i).getD t [] = bif decide (t < i) || decide (ls.length ≤ t + i) then ls.getD (ls.length - 1 - t) [] else ls.getD t [] := by
  unfold swapL
  rw [List.getD_eq_getElem?_getD, List.getElem?_map, List.getElem?_range h]; rfl
theorem list_ext {a b : List (List UInt8)} (hl : a.length = b.length) (h : ∀ t, t < a.length → a.getD t [] = b.getD t []) : a = b := by
  apply List.ext_getElem hl
  intro t h1 h2
  have := h t h1
  rwa [List.getD_eq_getElem?_getD, List.getElem?_eq_getElem h1, List.getD_eq_getElem?_getD, List.getElem?_eq_getElem h2] at this
theorem swapL_zero (ls : List (List UInt8)) : swapL ls 0 = ls := by
  refine list_ext (swapL_length ls 0) fun t ht => ?_
  rw [swapL_length] at ht
  rw [swapL_get ls 0 ht, decide_eq_false (by omega), decide_eq_false (by omega)]; rfl
theorem swapL_end (ls : List (List UInt8)) {i : Nat} (h : ls.length ≤ 2 * i + 1) : swapL ls i = ls.reverse := by
  refine list_ext (by rw [swapL_length, List.length_reverse]) fun t ht => ?_
  rw [swapL_length] at ht
  rw [swapL_get ls i ht]
  have hr : ls.reverse.getD t [] = ls.getD (ls.length - 1 - t) [] := by
    rw [List.getD_eq_getElem?_getD, List.getElem?_reverse ht, List.getD_eq_getElem?_getD]
  rw [hr]
  by_cases h1 : t < i
  · rw [decide_eq_true h1]; rfl
  · by_cases h2 : ls.length ≤ t + i
    · rw [decide_eq_true h2, Bool.or_true]; rfl
    · rw [decide_eq_false h1, decide_eq_false h2]
      show ls.getD t [] = _
      rw [show ls.length - 1 - t = t by omega]
theorem swapL_step (ls : List (List UInt8)) {i : Nat} (h : 2 * i + 1 < ls.length) :
    ((swapL ls i).set i ((swapL ls i).getD (ls.length - 1 - i) [])).set (ls.length - 1 - i) ((swapL ls i).getD i []) = swapL ls (i + 1) := by
  have g1 : (swapL ls i).getD (ls.length - 1 - i) [] = ls.getD (ls.length - 1 - i) [] := by
    rw [swapL_get ls i (by omega), decide_eq_false (by omega), decide_eq_false (by omega)]; rfl
  have g2 : (swapL ls i).getD i [] = ls.getD i [] := by
    rw [swapL_get ls i (by omega), decide_eq_false (by omega), decide_eq_false (by omega)]; rfl
  rw [g1, g2]
  refine list_ext (by rw [List.length_set, List.length_set, swapL_length, swapL_length]) fun t ht => ?_
  rw [List.length_set, List.length_set, swapL_length] at ht
  rw [swapL_get ls (i + 1) ht, List.getD_eq_getElem?_getD, List.getElem?_set]
  by_cases e1 : ls.length - 1 - i = t
  · rw [if_pos e1, if_pos (by rw [List.length_set, swapL_length]; omega), decide_eq_true (show ls.length ≤ t + (i + 1) by omega), Bool.or_true, cond_true, show ls.length - 1 - t = i by omega]; rfl
  · rw [if_neg e1, List.getElem?_set]
    by_cases e2 : i = t
    · rw [if_pos e2, if_pos (by rw [swapL_length]; omega), decide_eq_true (show t < i + 1 by omega), Bool.true_or, cond_true, ← e2]; rfl
    · rw [if_neg e2, ← List.getD_eq_getElem?_getD, swapL_get ls i ht]
      have d1 : decide (t < i + 1) = decide (t < i) := decide_eq_decide.2 (by omega)
      have d2 : decide (ls.length ≤ t + (i + 1)) = decide (ls.length ≤ t + i) := decide_eq_decide.2 (by omega)
      rw [d1, d2]

theorem reverse_ok (ls : List (List UInt8)) (hl : ls.length < 2 ^ 62) : LocalCall Try.prog 54 [.sl 9 [] 1 0 (ls.map tD).length] [(9, .row 1 (ls.map tD))] [] (one []) [(9, .row 1 (ls.reverse.map tD))] := by
  have lm : (ls.map tD).length = ls.length := List.length_map _
  refine vc_fn mixed Try.func54 rfl rfl [] (vc_chk rfl) ?_
  repeat' (first
      | ((with_reducible refine vc_chk ?_); first | decide +kernel | rfl)
      | (with_reducible refine vc_side0 ?_; rfl)
      | (with_reducible first
           | refine vc_true ?_ | refine vc_true2 ?_ | refine vc_side ?_ ?_ | refine vc_triv | refine vc_later ?_ | refine vc_caseT ?_ | refine vc_caseF ?_ | refine vc_cons ?_ | refine vc_nil ?_ ?_ | refine vc_seq ?_
              | refine vc_region ?_ | refine vc_cond ?_ | refine vc_block ?_ | refine vc_retc ?_ | refine vc_exit ?_ | refine vc_skip ?_ | refine vc_scope ?_ | refine vc_label ?_ | refine vc_goto ?_ | refine vc_wkSl0
              | refine vc_wkHp0 | refine vc_eqAVs0 | refine vc_preG0 | refine vc_wkSl ?_ ?_ | refine vc_wkHp ?_ ?_ | refine vc_eqAVs ?_ ?_ | refine vc_preG ?_ ?_ | refine vc_side0 ?_
              | refine vc_loopI 28 (fun (i : Nat) => [(0, .sl 9 [] 1 0 (ls.map tD).length), (2, .d (.int .i64 (i : Int))), (3, .d (.int .i64 ((ls.length : Int) - 1 - i)))]) (fun i => [(9, .row 1 ((swapL ls i).map tD))]) (fun i => ls.length - i) (fun i => i ≤ ls.length) 0 [] ?_ ?_ ?_ ?_ ?_ (fun i hI => ?_)
              | refine vc_nextI (i + 1) [] ?_ ?_ ?_ ?_ ?_ ?_ | refine vc_weakf [] ?_ ?_ ?_ | refine vc_and ?_ ?_ | refine vc_ret [] [] ?_)
      | ((with_reducible first | refine vc_caseD (fun h => ?_) (fun h => ?_) | refine vc_caseN (fun h => ?_) (fun h => ?_)) <;> try (exfalso; omega))
      | ((with_reducible refine vc_case (fun h => ?_) (fun h => ?_)) <;> (try simp only [Bool.cond_true_left, Bool.cond_false_right, Bool.cond_true_right, Bool.cond_false_left, Bool.and_eq_true, Bool.or_eq_true, Bool.and_eq_false_iff, Bool.or_eq_false_iff, Bool.not_eq_true', Bool.not_eq_false', Bool.not_eq_true, Bool.not_eq_false, Bool.not_not, decide_eq_true_eq, decide_eq_false_iff_not, beq_iff_eq, beq_eq_false_iff_ne, bne_iff_ne, bne_eq_false_iff_eq, ne_eq, Classical.not_not, reduceCtorEq, false_or, or_false, true_and, and_true, Bool.false_eq_true, Bool.true_eq_false] at h) <;> try (exfalso; first | omega | (simp at h; done)))
      | (conv in Vc _ => arg 1; whnf
         first
          | (with_reducible refine vc_side0 ?_; rfl)
          | (with_reducible first
              | refine vc_true ?_ | refine vc_true2 ?_ | refine vc_side ?_ ?_ | refine vc_triv | refine vc_later ?_ | refine vc_caseT ?_ | refine vc_caseF ?_ | refine vc_cons ?_ | refine vc_nil ?_ ?_ | refine vc_seq ?_
                 | refine vc_region ?_ | refine vc_cond ?_ | refine vc_block ?_ | refine vc_retc ?_ | refine vc_exit ?_ | refine vc_skip ?_ | refine vc_scope ?_ | refine vc_label ?_ | refine vc_goto ?_ | refine vc_wkSl0
                 | refine vc_wkHp0 | refine vc_eqAVs0 | refine vc_preG0 | refine vc_wkSl ?_ ?_ | refine vc_wkHp ?_ ?_ | refine vc_eqAVs ?_ ?_ | refine vc_preG ?_ ?_ | refine vc_side0 ?_
                 | refine vc_loopI 28 (fun (i : Nat) => [(0, .sl 9 [] 1 0 (ls.map tD).length), (2, .d (.int .i64 (i : Int))), (3, .d (.int .i64 ((ls.length : Int) - 1 - i)))]) (fun i => [(9, .row 1 ((swapL ls i).map tD))]) (fun i => ls.length - i) (fun i => i ≤ ls.length) 0 [] ?_ ?_ ?_ ?_ ?_ (fun i hI => ?_)
                 | refine vc_nextI (i + 1) [] ?_ ?_ ?_ ?_ ?_ ?_ | refine vc_weakf [] ?_ ?_ ?_ | refine vc_and ?_ ?_ | refine vc_ret [] [] ?_)
          | ((with_reducible first | refine vc_caseD (fun h => ?_) (fun h => ?_) | refine vc_caseN (fun h => ?_) (fun h => ?_)) <;> try (exfalso; omega))
          | ((with_reducible refine vc_case (fun h => ?_) (fun h => ?_)) <;> (try simp only [Bool.cond_true_left, Bool.cond_false_right, Bool.cond_true_right, Bool.cond_false_left, Bool.and_eq_true, Bool.or_eq_true, Bool.and_eq_false_iff, Bool.or_eq_false_iff, Bool.not_eq_true', Bool.not_eq_false', Bool.not_eq_true, Bool.not_eq_false, Bool.not_not, decide_eq_true_eq, decide_eq_false_iff_not, beq_iff_eq, beq_eq_false_iff_ne, bne_iff_ne, bne_eq_false_iff_eq, ne_eq, Classical.not_not, reduceCtorEq, false_or, or_false, true_and, and_true, Bool.false_eq_true, Bool.true_eq_false] at h) <;> try (exfalso; first | omega | (simp at h; done)))))
  all_goals (try have t1 : 0 + ((ls.length : Int) - 1 - (i : Int)).toNat = ls.length - 1 - i := (by omega))
  all_goals (try have t2 : 0 + ((i : Int)).toNat = i := (by omega))
  all_goals (try have el : ∀ t, t < ls.length → ((swapL ls i).map tD).getD t .nilp = tD ((swapL ls i).getD t []) := fun t ht => (map_at (f := tD) (d := []) (by rw [swapL_length]; exact ht)).1)
  all_goals (try simp only [t1, t2, el i (by omega), el (ls.length - 1 - i) (by omega)])
  all_goals first
    | with_reducible rfl
    | omega
    | (rw [List.length_map, wrap64_id (by omega) (by omega)]; congr 1; omega)
    | (rw [swapL_zero]; done)
    | (show 0 ≤ _ ∧ _ < _; rw [lm]; omega)
    | (show ls.length - 1 - i < _; rw [List.length_map, swapL_length]; omega)
    | (show i < _; rw [List.length_map, swapL_length]; omega)
    | (show ls.length - 1 - i < _; rw [List.length_set, List.length_map, swapL_length]; omega)
    | exact ⟨⟨by rw [List.length_map, swapL_length]; omega, trivial⟩, rfl⟩
    | (rw [wrap64_id (by omega) (by omega)]; rfl)
    | (rw [wrap64_id (by omega) (by omega)]; congr 1; omega)
    | (rw [← swapL_step ls (show 2 * i + 1 < ls.length by omega), List.map_set, List.map_set]; rfl)
    | (rw [swapL_end ls (by omega)]; done)
    | rfl
    | trace_state

end Go.Proofs.Ytdceegllpcepnaa

/-
Trees by definition: leaves, their root, the way to an index; no program in sight.
-/
set_option linter.unusedSimpArgs false
set_option linter.unusedVariables false
namespace Go.Proofs.Ytdceegllpcepnaa
open Go.Sym
set_option maxRecDepth 10000
set_option maxHeartbeats 1000000

/-- Leaves: indexes with values. -/
abbrev Lvs := List (List UInt8 × List UInt8)
def keysL (l : Lvs) : List (List UInt8) := l.map (·.1)
def wfL (l : Lvs) : Prop := ∀ x, x ∈ l → x.1.length = 32 ∧ x.2.length = 32

/-- One leaf more: ahead of the first that does not stand ahead of it; another one of its index goes. -/
def putL (idx val : List UInt8) : Lvs → Lvs
  | [] => [(idx, val)]
  | x :: l => bif lessB x.1 idx then x :: putL idx val l else (idx, val) :: (x :: l).filter fun y => !decide (y.1 = idx)
theorem less_self (a : List UInt8) : lessB a a = false := by
  unfold lessB
  rw [common_all fun j _ => rfl]; rfl
theorem putL_mem (idx val : List UInt8) : ∀ (l : Lvs) (y : List UInt8 × List UInt8), y ∈ putL idx val l → y = (idx, val) ∨ (y ∈ l)
  | [], y, h => by simp [putL] at h; exact .inl h
  | x :: l, y, h => by
    unfold putL at h
    cases hb : lessB x.1 idx with
    | true =>
      rw [hb, cond_true, List.mem_cons] at h
      rcases h with rfl | h
      · exact .inr (by simp)
      · rcases putL_mem idx val l y h with h | h
        · exact .inl h
        · exact .inr (by simp [h])
    | false =>
      rw [hb, cond_false, List.mem_cons] at h
      rcases h with rfl | h
      · exact .inl rfl
      · exact .inr (List.mem_filter.1 h).1
theorem putL_wf {idx val : List UInt8} {l : Lvs} (hi : idx.length = 32) (hv : val.length = 32) (hl : wfL l) : wfL (putL idx val l) := fun y hy => by
  rcases putL_mem idx val l y hy with rfl | h
  · exact ⟨hi, hv⟩
  · exact hl y h
theorem putL_nodup (idx val : List UInt8) : ∀ l : Lvs, (keysL l).Nodup → (keysL (putL idx val l)).Nodup
  | [], _ => by simp [putL, keysL]
  | x :: l, h => by
    have h' : x.1 ∉ keysL l ∧ (keysL l).Nodup := List.nodup_cons.1 h
    unfold putL
    cases hb : lessB x.1 idx with
    | true =>
      rw [cond_true]
      refine List.nodup_cons.2 ⟨fun hm => ?_, putL_nodup idx val l h'.2⟩
      obtain ⟨y, hy, e⟩ := List.mem_map.1 hm
      rcases putL_mem idx val l y hy with rfl | hy
      · simp only at e
        rw [← e, less_self] at hb; cases hb
      · exact h'.1 (List.mem_map.2 ⟨y, hy, e⟩)
    | false =>
      rw [cond_false]
      refine List.nodup_cons.2 ⟨fun hm => ?_, ?_⟩
      · obtain ⟨y, hy, e⟩ := List.mem_map.1 hm
        have := (List.mem_filter.1 hy).2
        simp only [Bool.not_eq_true', decide_eq_false_iff_not] at this
        exact this e
      · exact List.Nodup.sublist ((List.filter_sublist (l := x :: l)).map _) h
theorem putL_length (idx val : List UInt8) : ∀ l : Lvs, (putL idx val l).length ≤ l.length + 1
  | [] => by simp [putL]
  | x :: l => by
    unfold putL
    cases lessB x.1 idx with
    | true => rw [cond_true, List.length_cons, List.length_cons]; have := putL_length idx val l; omega
    | false =>
      rw [cond_false, List.length_cons]
      have := List.length_filter_le (fun y : List UInt8 × List UInt8 => !decide (y.1 = idx)) (x :: l)
      omega

/-- The leaves of two lists, put one by one. -/
def ofL (at' val : List (List UInt8)) : Lvs := (at'.zip val).foldl (fun l x => putL x.1 x.2 l) []

def getL (l : Lvs) (idx : List UInt8) : Option (List UInt8) := (l.find? fun x => decide (x.1 = idx)).map (·.2)

def halfL (l : Lvs) (d : Nat) (on : Bool) : Lvs := l.filter fun x => bitI x.1 (d : Int) == on
theorem halfL_mem {l : Lvs} {d : Nat} {on : Bool} {x : List UInt8 × List UInt8} (h : x ∈ halfL l d on) : x ∈ l ∧ bitI x.1 (d : Int) = on := by
  obtain ⟨h1, h2⟩ := List.mem_filter.1 h
  exact ⟨h1, eq_of_beq h2⟩
theorem halfL_wf {l : Lvs} (h : wfL l) (d : Nat) (on : Bool) : wfL (halfL l d on) := fun x hx => h x (halfL_mem hx).1
theorem halfL_nodup {l : Lvs} (h : (keysL l).Nodup) (d : Nat) (on : Bool) : (keysL (halfL l d on)).Nodup := List.Nodup.sublist (List.filter_sublist.map _) h
theorem halfL_length (l : Lvs) (d : Nat) (on : Bool) : (halfL l d on).length ≤ l.length := List.length_filter_le _ _

/-- All indexes agree in so many bits. -/
def agree (l : Lvs) (d : Nat) : Prop := ∀ x y, x ∈ l → y ∈ l → ∀ j, j < d → bitB x.1 j = bitB y.1 j
theorem agree_zero (l : Lvs) : agree l 0 := fun _ _ _ _ j hj => absurd hj (Nat.not_lt_zero j)
theorem agree_half {l : Lvs} {d : Nat} (h : agree l d) (hd : d < 256) (on : Bool) : agree (halfL l d on) (d + 1) := fun x y hx hy j hj => by
  obtain ⟨h1, h2⟩ := halfL_mem hx
  obtain ⟨h3, h4⟩ := halfL_mem hy
  by_cases e : j = d
  · subst e
    rw [← bitI_nat x.1 hd, ← bitI_nat y.1 hd, h2, h4]
  · exact h x y h1 h3 j (by omega)
theorem agree_all {l : Lvs} (hw : wfL l) (hn : (keysL l).Nodup) (h : agree l 256) : l.length ≤ 1 := by
  match l, hw, hn, h with
  | [], _, _, _ => simp
  | [_], _, _, _ => simp
  | x :: y :: l, hw, hn, h =>
    have e : x.1 = y.1 := dig_ext (hw x (by simp)).1 (hw y (by simp)).1 fun n hn => h x y (by simp) (by simp) n hn
    have := (List.nodup_cons.1 hn).1
    exact absurd (show x.1 ∈ List.map (fun x => x.1) (y :: l) by rw [e]; simp) this

/-- The root of leaves below so many bits (n: what is left of the bits, and one). -/
def rootF : Nat → Nat → Lvs → List UInt8
  | 0, _, _ => zero32
  | _ + 1, _, [] => shaB emptyB
  | _ + 1, _, [x] => shaB (leafB x.1 x.2)
  | n + 1, d, l => shaB (nodeB (rootF n (d + 1) (halfL l d false)) (rootF n (d + 1) (halfL l d true)))
theorem rootF_length : ∀ (n d : Nat) (l : Lvs), (rootF n d l).length = 32
  | 0, _, _ => rfl
  | _ + 1, _, [] => shaB_length _
  | _ + 1, _, [x] => shaB_length _
  | n + 1, d, x :: y :: l => shaB_length _
theorem rootF_two (n d : Nat) {l : Lvs} (h : 2 ≤ l.length) : rootF (n + 1) d l = shaB (nodeB (rootF n (d + 1) (halfL l d false)) (rootF n (d + 1) (halfL l d true))) := by
  match l, h with
  | x :: y :: l, _ => rfl

/-- The way to an index, from a depth on: the digests beside it, and the leaf at its end. -/
def proveF : Nat → Nat → Lvs → List UInt8 → List (List UInt8) × Option (List UInt8 × List UInt8)
  | 0, _, l, _ => ([], l.head?)
  | n + 1, d, l, idx => bif decide (l.length ≤ 1) then ([], l.head?) else
      (rootF n (d + 1) (halfL l d (!bitI idx (d : Int))) :: (proveF n (d + 1) (halfL l d (bitI idx (d : Int))) idx).1, (proveF n (d + 1) (halfL l d (bitI idx (d : Int))) idx).2)

def endO : Option (List UInt8 × List UInt8) → List UInt8
  | some x => leafB x.1 x.2
  | none => emptyB

theorem deep {d : Nat} {l : Lvs} (hw : wfL l) (hn : (keysL l).Nodup) (ha : agree l d) (hl : ¬ l.length ≤ 1) : d < 256 := by
  rcases Nat.lt_or_ge d 256 with h | h
  · exact h
  · exact absurd (agree_all hw hn fun x y hx hy j hj => ha x y hx hy j (by omega)) hl

/-- The way leads from the tree's root. -/
theorem prove_root (idx : List UInt8) : ∀ (n d : Nat) (l : Lvs), d + n = 256 → wfL l → (keysL l).Nodup → agree l d →
    shaB ((wayL idx d (proveF (n + 1) d l idx).1 (endO (proveF (n + 1) d l idx).2)).headD []) = rootF (n + 1) d l := by
  intro n
  induction n with
  | zero =>
    intro d l hd hw hn ha
    have hl : l.length ≤ 1 := agree_all hw hn fun x y hx hy j hj => ha x y hx hy j (by omega)
    unfold proveF
    rw [decide_eq_true hl, cond_true]
    match l, hl with
    | [], _ => rfl
    | [x], _ => rfl
  | succ n ih =>
    intro d l hd hw hn ha
    by_cases hl : l.length ≤ 1
    · unfold proveF
      rw [decide_eq_true hl, cond_true]
      match l, hl with
      | [], _ => rfl
      | [x], _ => rfl
    · have hd2 := deep hw hn ha hl
      have ih := ih (d + 1) (halfL l d (bitI idx (d : Int))) (by omega) (halfL_wf hw d _) (halfL_nodup hn d _) (agree_half ha hd2 _)
      rw [proveF, decide_eq_false hl, cond_false, rootF_two (n + 1) d (by omega)]
      simp only [wayL, List.headD_cons]
      rw [ih]
      unfold stepB
      cases bitI idx (d : Int) <;> rfl

theorem prove_length (idx : List UInt8) : ∀ (n d : Nat) (l : Lvs), d + n = 256 → wfL l → (keysL l).Nodup → agree l d → (proveF (n + 1) d l idx).1.length ≤ n := by
  intro n
  induction n with
  | zero =>
    intro d l hd hw hn ha
    have hl : l.length ≤ 1 := agree_all hw hn fun x y hx hy j hj => ha x y hx hy j (by omega)
    rw [proveF, decide_eq_true hl, cond_true]; exact Nat.le_refl _
  | succ n ih =>
    intro d l hd hw hn ha
    by_cases hl : l.length ≤ 1
    · rw [proveF, decide_eq_true hl, cond_true]; exact Nat.zero_le _
    · have hd2 := deep hw hn ha hl
      have ih := ih (d + 1) (halfL l d (bitI idx (d : Int))) (by omega) (halfL_wf hw d _) (halfL_nodup hn d _) (agree_half ha hd2 _)
      rw [proveF, decide_eq_false hl, cond_false]
      simp only [List.length_cons]; omega

theorem prove_sides (idx : List UInt8) : ∀ (n d : Nat) (l : Lvs) (y : List UInt8), y ∈ (proveF n d l idx).1 → y.length = 32
  | 0, _, _, y, h => by simp [proveF] at h
  | n + 1, d, l, y, h => by
    rw [proveF] at h
    by_cases hl : l.length ≤ 1
    · rw [decide_eq_true hl, cond_true] at h; simp at h
    · rw [decide_eq_false hl, cond_false, List.mem_cons] at h
      rcases h with rfl | h
      · exact rootF_length _ _ _
      · exact prove_sides idx n _ _ y h

theorem common_ge {a b : List UInt8} {m : Nat} (hm : m ≤ 256) (h : ∀ j, j < m → bitB a j = bitB b j) : m ≤ common a b := by
  rcases Nat.lt_or_ge (common a b) m with h1 | h1
  · exact absurd (h _ h1) (common_ne a b (by omega))
  · exact h1

/-- The leaf at the end is one of the tree's, and begins as the index does. -/
theorem prove_leaf (idx : List UInt8) : ∀ (n d : Nat) (l : Lvs), d + n = 256 → wfL l → (keysL l).Nodup → agree l d → (∀ x, x ∈ l → ∀ j, j < d → bitB x.1 j = bitB idx j) → ∀ x, (proveF (n + 1) d l idx).2 = some x →
    x ∈ l ∧ ∀ j, j < d + (proveF (n + 1) d l idx).1.length → bitB x.1 j = bitB idx j := by
  intro n
  induction n with
  | zero =>
    intro d l hd hw hn ha hx x h
    have hl : l.length ≤ 1 := agree_all hw hn fun x y hx hy j hj => ha x y hx hy j (by omega)
    rw [proveF, decide_eq_true hl, cond_true] at h ⊢
    have hm := List.mem_of_mem_head? h
    exact ⟨hm, fun j hj => hx x hm j hj⟩
  | succ n ih =>
    intro d l hd hw hn ha hx x h
    by_cases hl : l.length ≤ 1
    · rw [proveF, decide_eq_true hl, cond_true] at h ⊢
      have hm := List.mem_of_mem_head? h
      exact ⟨hm, fun j hj => hx x hm j hj⟩
    · have hd2 := deep hw hn ha hl
      rw [proveF, decide_eq_false hl, cond_false] at h ⊢
      obtain ⟨h1, h2⟩ := ih (d + 1) (halfL l d (bitI idx (d : Int))) (by omega) (halfL_wf hw d _) (halfL_nodup hn d _) (agree_half ha hd2 _) (fun x hm j hj => by
        obtain ⟨q1, q2⟩ := halfL_mem hm
        by_cases e : j = d
        · subst e; rw [← bitI_nat x.1 hd2, q2, bitI_nat idx hd2]
        · exact hx x q1 j (by omega)) x h
      refine ⟨(halfL_mem h1).1, fun j hj => h2 j ?_⟩
      simp only [List.length_cons] at hj
      omega

theorem find_filter {α : Type} {p q : α → Bool} (h : ∀ x, q x = true → p x = true) : ∀ l : List α, (l.filter p).find? q = l.find? q
  | [] => rfl
  | x :: l => by
    cases hq : q x with
    | true => rw [List.filter_cons_of_pos (h x hq), List.find?_cons_of_pos hq, List.find?_cons_of_pos hq]
    | false =>
      rw [List.find?_cons_of_neg (by simp [hq])]
      cases hp : p x with
      | true => rw [List.filter_cons_of_pos hp, List.find?_cons_of_neg (by simp [hq])]; exact find_filter h l
      | false => rw [List.filter_cons_of_neg (by simp [hp])]; exact find_filter h l
theorem getL_half (l : Lvs) (d : Nat) (idx : List UInt8) : getL (halfL l d (bitI idx (d : Int))) idx = getL l idx := by
  unfold getL halfL
  rw [find_filter fun x hx => by rw [of_decide_eq_true hx]; simp]
theorem getL_le {l : Lvs} (h : l.length ≤ 1) (idx : List UInt8) : getL l idx = l.head?.bind fun x => bif decide (x.1 = idx) then some x.2 else none := by
  match l, h with
  | [], _ => rfl
  | [x], _ =>
    unfold getL
    by_cases e : x.1 = idx
    · rw [List.find?_cons_of_pos (by simp [e])]; simp [e]
    · rw [List.find?_cons_of_neg (by simp [e])]; simp [e]

/-- The leaf at the end says what the tree has. -/
theorem prove_get (idx : List UInt8) : ∀ (n d : Nat) (l : Lvs), d + n = 256 → wfL l → (keysL l).Nodup → agree l d → getL l idx = (proveF (n + 1) d l idx).2.bind fun x => bif decide (x.1 = idx) then some x.2 else none := by
  intro n
  induction n with
  | zero =>
    intro d l hd hw hn ha
    have hl : l.length ≤ 1 := agree_all hw hn fun x y hx hy j hj => ha x y hx hy j (by omega)
    rw [proveF, decide_eq_true hl, cond_true]; exact getL_le hl idx
  | succ n ih =>
    intro d l hd hw hn ha
    by_cases hl : l.length ≤ 1
    · rw [proveF, decide_eq_true hl, cond_true]; exact getL_le hl idx
    · have hd2 := deep hw hn ha hl
      have ih := ih (d + 1) (halfL l d (bitI idx (d : Int))) (by omega) (halfL_wf hw d _) (halfL_nodup hn d _) (agree_half ha hd2 _)
      rw [proveF, decide_eq_false hl, cond_false, ← getL_half l d idx]
      exact ih

/-- The way that a tree tells. -/
def prfO (ys : List (List UInt8)) : Option (List UInt8 × List UInt8) → Prf
  | some x => ⟨ys, 1, x.1, x.2⟩
  | none => ⟨ys, 0, zero32, zero32⟩
def prfL (l : Lvs) (idx : List UInt8) : Prf := prfO (proveF 257 0 l idx).1 (proveF 257 0 l idx).2
def rootL (l : Lvs) : List UInt8 := rootF 257 0 l
theorem prfO_sides (ys : List (List UInt8)) (o : Option (List UInt8 × List UInt8)) : (prfO ys o).sides = ys := by cases o <;> rfl
theorem prfO_end (ys : List (List UInt8)) (o : Option (List UInt8 × List UInt8)) : endB (prfO ys o) = endO o := by cases o <;> rfl

section
variable {l : Lvs} (hw : wfL l) (hn : (keysL l).Nodup)
include hw hn
theorem prfL_root (idx : List UInt8) : rootP idx (prfL l idx) = rootL l := by
  unfold rootP hashedP prfL rootL
  rw [prfO_sides, prfO_end]
  exact prove_root idx 256 0 l rfl hw hn (agree_zero l)
theorem prfL_wf (idx : List UInt8) : wfP (prfL l idx) := by
  have hl := prove_leaf idx 256 0 l rfl hw hn (agree_zero l) (fun x _ j hj => absurd hj (Nat.not_lt_zero j))
  have hs := prove_sides idx 257 0 l
  unfold prfL
  show wfP (prfO (proveF 257 0 l idx).1 (proveF 257 0 l idx).2)
  generalize proveF 257 0 l idx = r at *
  cases h : r.2 with
  | none => exact ⟨hs, rfl, rfl⟩
  | some x => exact ⟨hs, (hw x (hl x h).1).1, (hw x (hl x h).1).2⟩
theorem prfL_len (idx : List UInt8) : (prfL l idx).sides.length ≤ 256 := by
  unfold prfL
  rw [prfO_sides]
  exact prove_length idx 256 0 l rfl hw hn (agree_zero l)
theorem prfL_right (idx : List UInt8) : rightP (prfL l idx) := by
  refine ⟨prfL_len hw hn idx, ?_⟩
  unfold prfL
  cases (proveF 257 0 l idx).2 with
  | none => exact .inr ⟨rfl, rfl, rfl⟩
  | some x => exact .inl rfl
end

end Go.Proofs.Ytdceegllpcepnaa

/-
Two unlike texts of one digest.
-/
set_option linter.unusedSimpArgs false
set_option linter.unusedVariables false
namespace Go.Proofs.Ytdceegllpcepnaa
open Go.Sym
set_option maxRecDepth 10000
set_option maxHeartbeats 4000000

/-- Two unlike texts of one digest. -/
def pairB (a b : List UInt8) : Bool := !decide (a = b) && decide (shaB a = shaB b)
theorem rPair_ok (a b : List UInt8) (ha : a.length < 2 ^ 28) (hb : b.length < 2 ^ 28) : LocalCall Try.prog 12 [.d (.sl (a.map byteD)), .d (.sl (b.map byteD))] [] [] (one [.d (.bool (pairB a b))]) [] := by
  have c1 := rOf_ok a ha
  have c2 := rOf_ok b hb
  refine vc_fn mixed Try.func12 rfl rfl [] (vc_chk rfl) ?_
  repeat' (first
      | ((with_reducible refine vc_chk ?_); first | decide +kernel | rfl)
      | (with_reducible refine vc_side0 ?_; rfl)
      | (with_reducible first
           | refine vc_true ?_ | refine vc_true2 ?_ | refine vc_side ?_ ?_ | refine vc_triv | refine vc_later ?_ | refine vc_caseT ?_ | refine vc_caseF ?_ | refine vc_cons ?_ | refine vc_nil ?_ ?_ | refine vc_seq ?_
              | refine vc_region ?_ | refine vc_cond ?_ | refine vc_block ?_ | refine vc_retc ?_ | refine vc_exit ?_ | refine vc_skip ?_ | refine vc_scope ?_ | refine vc_label ?_ | refine vc_goto ?_ | refine vc_wkSl0
              | refine vc_wkHp0 | refine vc_eqAVs0 | refine vc_preG0 | refine vc_wkSl ?_ ?_ | refine vc_wkHp ?_ ?_ | refine vc_eqAVs ?_ ?_ | refine vc_preG ?_ ?_ | refine vc_side0 ?_ | refine vc_pure c1 ?_ ?_ ?_
              | refine vc_pure c2 ?_ ?_ ?_ | refine vc_weakf [] ?_ ?_ ?_ | refine vc_and ?_ ?_ | refine vc_ret [] [] ?_)
      | ((with_reducible first | refine vc_caseD (fun h => ?_) (fun h => ?_) | refine vc_caseN (fun h => ?_) (fun h => ?_)) <;> try (exfalso; omega))
      | ((with_reducible refine vc_case (fun h => ?_) (fun h => ?_)) <;> (try simp only [Bool.cond_true_left, Bool.cond_false_right, Bool.cond_true_right, Bool.cond_false_left, Bool.and_eq_true, Bool.or_eq_true, Bool.and_eq_false_iff, Bool.or_eq_false_iff, Bool.not_eq_true', Bool.not_eq_false', Bool.not_eq_true, Bool.not_eq_false, Bool.not_not, decide_eq_true_eq, decide_eq_false_iff_not, beq_iff_eq, beq_eq_false_iff_ne, bne_iff_ne, bne_eq_false_iff_eq, ne_eq, Classical.not_not, reduceCtorEq, false_or, or_false, true_and, and_true, Bool.false_eq_true, Bool.true_eq_false] at h) <;> try (exfalso; first | omega | (simp at h; done)))
      | (conv in Vc _ => arg 1; whnf
         first
          | (with_reducible refine vc_side0 ?_; rfl)
          | (with_reducible first
              | refine vc_true ?_ | refine vc_true2 ?_ | refine vc_side ?_ ?_ | refine vc_triv | refine vc_later ?_ | refine vc_caseT ?_ | refine vc_caseF ?_ | refine vc_cons ?_ | refine vc_nil ?_ ?_ | refine vc_seq ?_
                 | refine vc_region ?_ | refine vc_cond ?_ | refine vc_block ?_ | refine vc_retc ?_ | refine vc_exit ?_ | refine vc_skip ?_ | refine vc_scope ?_ | refine vc_label ?_ | refine vc_goto ?_ | refine vc_wkSl0
                 | refine vc_wkHp0 | refine vc_eqAVs0 | refine vc_preG0 | refine vc_wkSl ?_ ?_ | refine vc_wkHp ?_ ?_ | refine vc_eqAVs ?_ ?_ | refine vc_preG ?_ ?_ | refine vc_side0 ?_ | refine vc_pure c1 ?_ ?_ ?_
                 | refine vc_pure c2 ?_ ?_ ?_ | refine vc_weakf [] ?_ ?_ ?_ | refine vc_and ?_ ?_ | refine vc_ret [] [] ?_)
          | ((with_reducible first | refine vc_caseD (fun h => ?_) (fun h => ?_) | refine vc_caseN (fun h => ?_) (fun h => ?_)) <;> try (exfalso; omega))
          | ((with_reducible refine vc_case (fun h => ?_) (fun h => ?_)) <;> (try simp only [Bool.cond_true_left, Bool.cond_false_right, Bool.cond_true_right, Bool.cond_false_left, Bool.and_eq_true, Bool.or_eq_true, Bool.and_eq_false_iff, Bool.or_eq_false_iff, Bool.not_eq_true', Bool.not_eq_false', Bool.not_eq_true, Bool.not_eq_false, Bool.not_not, decide_eq_true_eq, decide_eq_false_iff_not, beq_iff_eq, beq_eq_false_iff_ne, bne_iff_ne, bne_eq_false_iff_eq, ne_eq, Classical.not_not, reduceCtorEq, false_or, or_false, true_and, and_true, Bool.false_eq_true, Bool.true_eq_false] at h) <;> try (exfalso; first | omega | (simp at h; done)))))
  all_goals (try simp only [bytesOf_map] at *)
  all_goals first
    | exact ⟨trivial, trivial⟩
    | exact ⟨fits_dig 6 _, fits_dig 6 _⟩
    | (rw [ByteArray.toList_eq, ByteArray.toList_eq] at h
       unfold pairB
       rw [decide_eq_false (show ¬ a = b from h)]
       show D.bool (bif true then (D.arr 32 1 ((shaB a).map byteD)).beq (D.arr 32 1 ((shaB b).map byteD)) else false) = _
       rw [beq_dig]; rfl)
    | (rw [ByteArray.toList_eq, ByteArray.toList_eq] at h
       unfold pairB
       rw [decide_eq_true (show a = b from h)]; rfl)
    | trace_state

end Go.Proofs.Ytdceegllpcepnaa
