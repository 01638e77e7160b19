import Derived.Test.YtcdjheiccefcdaaJ5
import Derived.Test.YtcdjheiccefcdaaJ6
import Derived.Test.YtcdjheiccefcdaaJ7
import Derived.Test.YtcdjheiccefcdaaJ8
set_option linter.unusedSimpArgs false
set_option linter.unusedVariables false
/-
The tags: numbers of eight bytes; a sign and texts behind it; parts of a key.
-/
set_option linter.unusedSimpArgs false
set_option linter.unusedVariables false
namespace Go.Proofs.Ytcdjheiccefcdaa
open Go.Sym
set_option maxRecDepth 10000
set_option maxHeartbeats 1000000

def byt8 (n i : Nat) : UInt8 := UInt8.ofNat (n / 2 ^ (56 - 8 * i) % 256)
/-- A number in eight bytes, the highest first. -/
def num8 (n : Nat) : List UInt8 := (List.range 8).map (byt8 n)
theorem num8_length (n : Nat) : (num8 n).length = 8 := by simp [num8]

/-- The first i of eight bytes; then nothing yet. -/
def row8 (n i : Nat) : List UInt8 := (List.range 8).map fun j => bif decide (j < i) then byt8 n j else 0
theorem row8_all (n : Nat) : row8 n 8 = num8 n := by
  unfold row8 num8
  apply List.map_congr_left
  intro j hj
  rw [decide_eq_true (List.mem_range.1 hj), cond_true]
theorem row8_set (n i : Nat) (hi : i < 8) : ((row8 n i).map byteD).set i (byteD (byt8 n i)) = (row8 n (i + 1)).map byteD := by
  rw [← List.map_set]
  congr 1
  unfold row8
  apply List.ext_getElem
  · simp
  intro j h1 h2
  rw [List.getElem_set]
  simp only [List.getElem_map, List.getElem_range]
  by_cases h : i = j
  · subst h; rw [if_pos rfl, decide_eq_true (by omega), cond_true]
  · rw [if_neg h]
    by_cases h3 : j < i
    · rw [decide_eq_true h3, decide_eq_true (by omega)]
    · rw [decide_eq_false h3, decide_eq_false (by omega)]
theorem row8_length (n i : Nat) : (row8 n i).length = 8 := by simp [row8]
theorem take8 {l : List UInt8} (h : l.length = 8) : List.take (8 - Int.toNat 0) (List.drop (Int.toNat 0) (l.map byteD)) = l.map byteD := by
  show List.take 8 (List.drop 0 _) = _
  rw [List.drop_zero, List.take_of_length_le (by rw [List.length_map]; omega)]
theorem byt8_eq (n i : Nat) (k : Int) (hk : k = ((56 - 8 * i : Nat) : Int)) : D.int .u8 (IntKind.u8.wrap (shrI .u64 (n : Int) k)) = byteD (byt8 n i) := by
  subst hk
  rw [shr_u64 _ _ (by omega), u8_wrap]
  have h : n / 2 ^ (56 - 8 * i) % 256 < 256 := Nat.mod_lt _ (by decide)
  show _ = D.int .u8 (((UInt8.ofNat (n / 2 ^ (56 - 8 * i) % 256)).toNat : Nat) : Int)
  rw [UInt8.toNat_ofNat_of_lt' (by simpa using h)]
  exact congrArg (D.int .u8) (by omega)

theorem number_ok (x : Int) (n : Nat) (hx : x = n) : LocalCall Try.prog 78 [.d (.int .u64 x)] [] [] (one [.d (.sl ((num8 n).map byteD))]) [] := by
  subst hx
  have hw : ∀ i : Nat, i < 8 → IntKind.i64.wrap (56 - IntKind.i64.wrap (8 * (i : Int))) = ((56 - 8 * i : Nat) : Int) := fun i hi => by
    rw [wrap64_id (n := 8 * (i : Int)) (by omega) (by omega), wrap64_id (by omega) (by omega)]; omega
  refine vc_fn mixed Try.func78 rfl rfl [] (vc_chk rfl) ?_
  repeat' (first
      | ((with_reducible refine vc_chk ?_); first | decide +kernel | rfl)
      | (with_reducible refine vc_side0 ?_; rfl)
      | (with_reducible first
           | refine vc_true ?_ | refine vc_true2 ?_ | refine vc_side ?_ ?_ | refine vc_triv | refine vc_later ?_ | refine vc_caseT ?_ | refine vc_caseF ?_ | refine vc_cons ?_ | refine vc_nil ?_ ?_ | refine vc_seq ?_
              | refine vc_region ?_ | refine vc_cond ?_ | refine vc_block ?_ | refine vc_retc ?_ | refine vc_exit ?_ | refine vc_skip ?_ | refine vc_scope ?_ | refine vc_label ?_ | refine vc_goto ?_ | refine vc_wkSl0
              | refine vc_wkHp0 | refine vc_eqAVs0 | refine vc_preG0 | refine vc_wkSl ?_ ?_ | refine vc_wkHp ?_ ?_ | refine vc_eqAVs ?_ ?_ | refine vc_preG ?_ ?_ | refine vc_side0 ?_
              | refine vc_loopI 18 (fun (i : Nat) => [(0, .d (.int .u64 (n : Int))), (3, .ptr 2000 []), (5, .d (.int .i64 (i : Int)))]) (fun i => [(2000, .var (.d (.arr 8 1 ((row8 n i).map byteD))))]) (fun i => 8 - i) (fun i => i ≤ 8) 0 [] ?_ ?_ ?_ ?_ ?_ (fun i hI => ?_)
              | refine vc_nextI (i + 1) [] ?_ ?_ ?_ ?_ ?_ ?_ | refine vc_ret [true] [] ?_ | refine vc_weakf [] ?_ ?_ ?_ | refine vc_and ?_ ?_ | refine vc_ret [] [] ?_)
      | ((with_reducible first | refine vc_caseD (fun h => ?_) (fun h => ?_) | refine vc_caseN (fun h => ?_) (fun h => ?_)) <;> try (exfalso; omega))
      | ((with_reducible refine vc_case (fun h => ?_) (fun h => ?_)) <;> (try simp only [Go.Sym.vs1, reduceCtorEq] at h) <;> try (exfalso; first | omega | (simp at h; done)))
      | (conv in Vc _ => arg 1; whnf
         first
          | (with_reducible refine vc_side0 ?_; rfl)
          | (with_reducible first
              | refine vc_true ?_ | refine vc_true2 ?_ | refine vc_side ?_ ?_ | refine vc_triv | refine vc_later ?_ | refine vc_caseT ?_ | refine vc_caseF ?_ | refine vc_cons ?_ | refine vc_nil ?_ ?_ | refine vc_seq ?_
                 | refine vc_region ?_ | refine vc_cond ?_ | refine vc_block ?_ | refine vc_retc ?_ | refine vc_exit ?_ | refine vc_skip ?_ | refine vc_scope ?_ | refine vc_label ?_ | refine vc_goto ?_ | refine vc_wkSl0
                 | refine vc_wkHp0 | refine vc_eqAVs0 | refine vc_preG0 | refine vc_wkSl ?_ ?_ | refine vc_wkHp ?_ ?_ | refine vc_eqAVs ?_ ?_ | refine vc_preG ?_ ?_ | refine vc_side0 ?_
                 | refine vc_loopI 18 (fun (i : Nat) => [(0, .d (.int .u64 (n : Int))), (3, .ptr 2000 []), (5, .d (.int .i64 (i : Int)))]) (fun i => [(2000, .var (.d (.arr 8 1 ((row8 n i).map byteD))))]) (fun i => 8 - i) (fun i => i ≤ 8) 0 [] ?_ ?_ ?_ ?_ ?_ (fun i hI => ?_)
                 | refine vc_nextI (i + 1) [] ?_ ?_ ?_ ?_ ?_ ?_ | refine vc_ret [true] [] ?_ | refine vc_weakf [] ?_ ?_ ?_ | refine vc_and ?_ ?_ | refine vc_ret [] [] ?_)
          | ((with_reducible first | refine vc_caseD (fun h => ?_) (fun h => ?_) | refine vc_caseN (fun h => ?_) (fun h => ?_)) <;> try (exfalso; omega))
          | ((with_reducible refine vc_case (fun h => ?_) (fun h => ?_)) <;> (try simp only [Go.Sym.vs1, reduceCtorEq] at h) <;> try (exfalso; first | omega | (simp at h; done)))))
  all_goals (try simp only [Int.toNat_natCast])
  all_goals first
    | rfl
    | omega
    | (have hw2 := hw i (by omega); refine Int.le_trans ?_ (Int.le_of_eq hw2.symm); omega)
    | (rw [wrap64_id (by omega) (by omega)]; rfl)
    | (refine congrArg (D.arr 8 1) (Eq.trans (congrArg (List.set _ i) (byt8_eq n i _ (hw i (by omega)))) (row8_set n i (by omega))))
    | exact ⟨⟨by omega, by omega, by omega⟩, trivial⟩
    | (refine ⟨⟨trivial, ?_⟩, trivial⟩; rw [List.length_map, row8_length]; omega)
    | (obtain rfl : i = 8 := by omega
       rw [row8_all]; exact congrArg D.sl (take8 (num8_length n)))
    | skip

/-- The last j of eight bytes; ahead of them nothing yet. -/
def row8r (n j : Nat) : List UInt8 := (List.range 8).map fun t => bif decide (8 - j ≤ t) then byt8 n t else 0
theorem row8r_all (n : Nat) : row8r n 8 = num8 n := by
  unfold row8r num8
  apply List.map_congr_left
  intro j hj
  rw [decide_eq_true (by omega), cond_true]
theorem row8r_length (n j : Nat) : (row8r n j).length = 8 := by simp [row8r]
theorem row8r_set (n j : Nat) (hj : j < 8) : ((row8r n j).map byteD).set (7 - j) (byteD (byt8 n (7 - j))) = (row8r n (j + 1)).map byteD := by
  rw [← List.map_set]
  congr 1
  unfold row8r
  apply List.ext_getElem
  · simp
  intro t h1 h2
  rw [List.getElem_set]
  simp only [List.getElem_map, List.getElem_range]
  by_cases h : 7 - j = t
  · subst h; rw [if_pos rfl, decide_eq_true (by omega), cond_true]
  · rw [if_neg h]
    by_cases h3 : 8 - j ≤ t
    · rw [decide_eq_true h3, decide_eq_true (by omega)]
    · rw [decide_eq_false h3, decide_eq_false (by omega)]
theorem pow_8 (j : Nat) : 2 ^ (8 * j) = 256 ^ j := by rw [Nat.pow_mul]
theorem byt8_low (n j : Nat) (hj : j < 8) : byt8 n (7 - j) = UInt8.ofNat (n / 256 ^ j % 256) := by
  unfold byt8
  rw [← pow_8, show 56 - 8 * (7 - j) = 8 * j by omega]

theorem rNumber_ok (x : Int) (n : Nat) (hx : x = n) (hn : n < 2 ^ 64) : LocalCall Try.prog 43 [.d (.int .u64 x)] [] [] (one [.d (.sl ((num8 n).map byteD))]) [] := by
  subst hx
  have h8 : ∀ j : Nat, ((row8r n j).map byteD).length = 8 := fun j => by rw [List.length_map, row8r_length]
  have hb : ∀ j : Nat, j < 8 → D.int .u8 (IntKind.u8.wrap (((n / 256 ^ j : Nat) : Int).tmod 256)) = byteD (byt8 n (7 - j)) := fun j hj => by
    rw [byt8_low n j hj, Int.tmod_eq_emod_of_nonneg (Int.natCast_nonneg _)]
    have h : n / 256 ^ j % 256 < 256 := Nat.mod_lt _ (by decide)
    have e : ((n / 256 ^ j : Nat) : Int) % 256 = ((n / 256 ^ j % 256 : Nat) : Int) := by omega
    have e2 : (((n / 256 ^ j % 256 : Nat) : Int)) % 256 = ((n / 256 ^ j % 256 : Nat) : Int) := by omega
    rw [e, u8_wrap, e2]
    show _ = D.int .u8 (((UInt8.ofNat (n / 256 ^ j % 256)).toNat : Nat) : Int)
    rw [UInt8.toNat_ofNat_of_lt' (by simpa using h)]
  have hq : ∀ j : Nat, IntKind.u64.wrap (((n / 256 ^ j : Nat) : Int).tdiv 256) = ((n / 256 ^ (j + 1) : Nat) : Int) := fun j => by
    rw [Int.tdiv_eq_ediv_of_nonneg (Int.natCast_nonneg _), Nat.pow_succ, ← Nat.div_div_eq_div_mul]
    have h : n / 256 ^ j ≤ n := Nat.div_le_self _ _
    generalize n / 256 ^ j = q at h
    rw [wrapU64_id (by omega) (by omega)]; omega
  have h8 : ∀ j : Nat, ((row8r n j).map byteD).length = 8 := fun j => by rw [List.length_map, row8r_length]
  refine vc_fn mixed Try.func43 rfl rfl [] (vc_chk rfl) ?_
  repeat' (first
      | ((with_reducible refine vc_chk ?_); first | decide +kernel | rfl)
      | (with_reducible refine vc_side0 ?_; rfl)
      | (with_reducible first
           | refine vc_true ?_ | refine vc_true2 ?_ | refine vc_side ?_ ?_ | refine vc_triv | refine vc_later ?_ | refine vc_caseT ?_ | refine vc_caseF ?_ | refine vc_cons ?_ | refine vc_nil ?_ ?_ | refine vc_seq ?_
              | refine vc_region ?_ | refine vc_cond ?_ | refine vc_block ?_ | refine vc_retc ?_ | refine vc_exit ?_ | refine vc_skip ?_ | refine vc_scope ?_ | refine vc_label ?_ | refine vc_goto ?_ | refine vc_wkSl0
              | refine vc_wkHp0 | refine vc_eqAVs0 | refine vc_preG0 | refine vc_wkSl ?_ ?_ | refine vc_wkHp ?_ ?_ | refine vc_eqAVs ?_ ?_ | refine vc_preG ?_ ?_ | refine vc_side0 ?_
              | refine vc_loopI 19 (fun (j : Nat) => [(0, .d (.int .u64 ((n / 256 ^ j : Nat) : Int))), (3, .sl 2000 [] 1 0 8), (4, .d (.int .i64 (7 - (j : Int))))]) (fun j => [(2000, .row 1 ((row8r n j).map byteD))]) (fun j => 8 - j) (fun j => j ≤ 8) 0 [] ?_ ?_ ?_ ?_ ?_ (fun j hI => ?_)
              | refine vc_nextI (j + 1) [] ?_ ?_ ?_ ?_ ?_ ?_ | refine vc_ret [true] [] ?_ | refine vc_weakf [] ?_ ?_ ?_ | refine vc_and ?_ ?_ | refine vc_ret [] [] ?_)
      | ((with_reducible first | refine vc_caseD (fun h => ?_) (fun h => ?_) | refine vc_caseN (fun h => ?_) (fun h => ?_)) <;> try (exfalso; omega))
      | ((with_reducible refine vc_case (fun h => ?_) (fun h => ?_)) <;> (try simp only [Go.Sym.vs1, reduceCtorEq] at h) <;> try (exfalso; first | omega | (simp at h; done)))
      | (conv in Vc _ => arg 1; whnf
         first
          | (with_reducible refine vc_side0 ?_; rfl)
          | (with_reducible first
              | refine vc_true ?_ | refine vc_true2 ?_ | refine vc_side ?_ ?_ | refine vc_triv | refine vc_later ?_ | refine vc_caseT ?_ | refine vc_caseF ?_ | refine vc_cons ?_ | refine vc_nil ?_ ?_ | refine vc_seq ?_
                 | refine vc_region ?_ | refine vc_cond ?_ | refine vc_block ?_ | refine vc_retc ?_ | refine vc_exit ?_ | refine vc_skip ?_ | refine vc_scope ?_ | refine vc_label ?_ | refine vc_goto ?_ | refine vc_wkSl0
                 | refine vc_wkHp0 | refine vc_eqAVs0 | refine vc_preG0 | refine vc_wkSl ?_ ?_ | refine vc_wkHp ?_ ?_ | refine vc_eqAVs ?_ ?_ | refine vc_preG ?_ ?_ | refine vc_side0 ?_
                 | refine vc_loopI 19 (fun (j : Nat) => [(0, .d (.int .u64 ((n / 256 ^ j : Nat) : Int))), (3, .sl 2000 [] 1 0 8), (4, .d (.int .i64 (7 - (j : Int))))]) (fun j => [(2000, .row 1 ((row8r n j).map byteD))]) (fun j => 8 - j) (fun j => j ≤ 8) 0 [] ?_ ?_ ?_ ?_ ?_ (fun j hI => ?_)
                 | refine vc_nextI (j + 1) [] ?_ ?_ ?_ ?_ ?_ ?_ | refine vc_ret [true] [] ?_ | refine vc_weakf [] ?_ ?_ ?_ | refine vc_and ?_ ?_ | refine vc_ret [] [] ?_)
          | ((with_reducible first | refine vc_caseD (fun h => ?_) (fun h => ?_) | refine vc_caseN (fun h => ?_) (fun h => ?_)) <;> try (exfalso; omega))
          | ((with_reducible refine vc_case (fun h => ?_) (fun h => ?_)) <;> (try simp only [Go.Sym.vs1, reduceCtorEq] at h) <;> try (exfalso; first | omega | (simp at h; done)))))
  all_goals (try simp only [Int.toNat_natCast])
  all_goals first
    | rfl
    | omega
    | exact ⟨by omega, by omega, by decide, by omega⟩
    | (rw [Nat.pow_zero, Nat.div_one]; done)
    | (rw [h8]; omega)
    | exact ⟨Nat.le_of_eq (by rw [h8]), trivial⟩
    | (rw [hq]; done)
    | (rw [wrap64_id (by omega) (by omega)]; congr 1; omega)
    | (rw [hb j (by omega), show 0 + (7 - (j : Int)).toNat = 7 - j by omega, row8r_set n j (by omega)]; done)
    | (obtain rfl : j = 8 := by omega
       rw [row8r_all]; exact congrArg D.sl (take8 (num8_length n)))
    | skip

theorem begin_ok (c : UInt8) (x : Int) (hx : x = c.toNat) (ts : List (List UInt8)) (hl : ts.length < 2 ^ 63) (hroom : (c :: ts.flatten).length ≤ 2 ^ 30) :
    LocalCall Try.prog 77 [.d (.int .u8 x), .d (.sl (ts.map tD))] [] [] (one [.d (.sl ((c :: ts.flatten).map byteD))]) [] := by
  subst hx
  have hJ : ∀ i, i ≤ ts.length → (ts.take i).flatten.length ≤ ts.flatten.length := fun i h => by
    have h : ts.flatten = (ts.take i).flatten ++ (ts.drop i).flatten := by rw [← List.flatten_append, List.take_append_drop]
    rw [h, List.length_append]; omega
  have hN : ∀ i, i < ts.length → (ts.take i).flatten ++ ts.getD i [] = (ts.take (i + 1)).flatten := fun i h => by
    rw [List.take_add_one, List.flatten_append, List.getD_eq_getElem?_getD, List.getElem?_eq_getElem h]; simp
  have lm : (ts.map tD).length = ts.length := List.length_map _
  have hX : ∀ i : Nat, (i : Int) < ((ts.map tD).length : Int) → (ts.map tD).getD i .nilp = tD (ts.getD i []) := fun i h => by
    have h2 : i < ts.length := by rw [List.length_map] at h; omega
    exact (map_at (f := tD) (d := []) h2).1
  have hA : ∀ i : Nat, i < ts.length → (c :: (ts.take i).flatten).map byteD ++ (tD (ts.getD i [])).els = (c :: (ts.take (i + 1)).flatten).map byteD := fun i h => by
    rw [← hN i h, ← List.cons_append, List.map_append]; rfl
  refine vc_fn mixed Try.func77 rfl rfl [] (vc_chk rfl) ?_
  repeat' (first
      | ((with_reducible refine vc_chk ?_); first | decide +kernel | rfl)
      | (with_reducible refine vc_side0 ?_; rfl)
      | (with_reducible first
           | refine vc_true ?_ | refine vc_true2 ?_ | refine vc_side ?_ ?_ | refine vc_triv | refine vc_later ?_ | refine vc_caseT ?_ | refine vc_caseF ?_ | refine vc_cons ?_ | refine vc_nil ?_ ?_ | refine vc_seq ?_
              | refine vc_region ?_ | refine vc_cond ?_ | refine vc_block ?_ | refine vc_retc ?_ | refine vc_exit ?_ | refine vc_skip ?_ | refine vc_scope ?_ | refine vc_label ?_ | refine vc_goto ?_ | refine vc_wkSl0
              | refine vc_wkHp0 | refine vc_eqAVs0 | refine vc_preG0 | refine vc_wkSl ?_ ?_ | refine vc_wkHp ?_ ?_ | refine vc_eqAVs ?_ ?_ | refine vc_preG ?_ ?_ | refine vc_side0 ?_
              | refine vc_loopI 26 (fun (i : Nat) => [(5, .sl 7 [] 1 0 ((c :: (ts.take i).flatten).map byteD).length), (10, .d (.sl (ts.map tD))), (11, .d (.int .i64 ((ts.map tD).length : Nat))), (12, .d (.int .i64 (i : Int)))]) (fun i => [(7, .row 1 ((c :: (ts.take i).flatten).map byteD))]) (fun i => ts.length - i) (fun i => i ≤ ts.length) 0 [(7, 2004)] ?_ ?_ ?_ ?_ ?_ (fun i hI => ?_)
              | refine vc_nextI (i + 1) [(7, 6028)] ?_ ?_ ?_ ?_ ?_ ?_ | refine vc_ret [true] [] ?_ | refine vc_weakf [] ?_ ?_ ?_ | refine vc_and ?_ ?_ | refine vc_ret [] [] ?_)
      | ((with_reducible first | refine vc_caseD (fun h => ?_) (fun h => ?_) | refine vc_caseN (fun h => ?_) (fun h => ?_)) <;> try (exfalso; omega))
      | ((with_reducible refine vc_case (fun h => ?_) (fun h => ?_)) <;> (try simp only [Go.Sym.vs1, reduceCtorEq] at h) <;> try (exfalso; first | omega | (simp at h; done)))
      | (conv in Vc _ => arg 1; whnf
         first
          | (with_reducible refine vc_side0 ?_; rfl)
          | (with_reducible first
              | refine vc_true ?_ | refine vc_true2 ?_ | refine vc_side ?_ ?_ | refine vc_triv | refine vc_later ?_ | refine vc_caseT ?_ | refine vc_caseF ?_ | refine vc_cons ?_ | refine vc_nil ?_ ?_ | refine vc_seq ?_
                 | refine vc_region ?_ | refine vc_cond ?_ | refine vc_block ?_ | refine vc_retc ?_ | refine vc_exit ?_ | refine vc_skip ?_ | refine vc_scope ?_ | refine vc_label ?_ | refine vc_goto ?_ | refine vc_wkSl0
                 | refine vc_wkHp0 | refine vc_eqAVs0 | refine vc_preG0 | refine vc_wkSl ?_ ?_ | refine vc_wkHp ?_ ?_ | refine vc_eqAVs ?_ ?_ | refine vc_preG ?_ ?_ | refine vc_side0 ?_
                 | refine vc_loopI 26 (fun (i : Nat) => [(5, .sl 7 [] 1 0 ((c :: (ts.take i).flatten).map byteD).length), (10, .d (.sl (ts.map tD))), (11, .d (.int .i64 ((ts.map tD).length : Nat))), (12, .d (.int .i64 (i : Int)))]) (fun i => [(7, .row 1 ((c :: (ts.take i).flatten).map byteD))]) (fun i => ts.length - i) (fun i => i ≤ ts.length) 0 [(7, 2004)] ?_ ?_ ?_ ?_ ?_ (fun i hI => ?_)
                 | refine vc_nextI (i + 1) [(7, 6028)] ?_ ?_ ?_ ?_ ?_ ?_ | refine vc_ret [true] [] ?_ | refine vc_weakf [] ?_ ?_ ?_ | refine vc_and ?_ ?_ | refine vc_ret [] [] ?_)
          | ((with_reducible first | refine vc_caseD (fun h => ?_) (fun h => ?_) | refine vc_caseN (fun h => ?_) (fun h => ?_)) <;> try (exfalso; omega))
          | ((with_reducible refine vc_case (fun h => ?_) (fun h => ?_)) <;> (try simp only [Go.Sym.vs1, reduceCtorEq] at h) <;> try (exfalso; first | omega | (simp at h; done)))))
  all_goals (try simp only [Int.toNat_natCast])
  all_goals first
    | rfl
    | omega
    | (rw [hX i h, hA i (by omega)]; done)
    | (rw [hX i h]; exact ⟨⟨by omega, h⟩, rfl⟩)
    | (rw [wrap64_id (by omega) (by omega)]; rfl)
    | (rw [hX i h, hA i (by omega)]
       refine ⟨⟨trivial, rfl, roomJ ?_⟩, fun y hy => size_bytes _ y hy⟩
       have := hJ (i + 1) (by omega)
       simp only [List.length_map, List.length_cons] at hroom ⊢; omega)
    | (obtain rfl : i = ts.length := by omega
       rw [List.take_length]
       first
         | exact congrArg D.sl (by rw [List.drop_zero, List.take_length])
         | exact ⟨Nat.le_of_eq (Nat.zero_add _), trivial⟩
         | skip)
    | skip

theorem sign_ok (c : UInt8) (x : Int) (hx : x = c.toNat) (ts : List (List UInt8)) (hl : ts.length < 2 ^ 62) (hroom : (c :: ts.flatten).length ≤ 2 ^ 30) :
    LocalCall Try.prog 42 [.d (.int .u8 x), .d (.sl (ts.map tD))] [] [] (one [.d (.sl ((c :: ts.flatten).map byteD))]) [] := by
  subst hx
  have c1 := join_b ts hl (roomJ (by simp only [List.length_cons] at hroom; omega))
  have c2 := join_b [[c], ts.flatten] (by show 2 < 2 ^ 62; decide) (roomJ (by simpa using hroom))
  have ef : [[c], ts.flatten].flatten = c :: ts.flatten := by simp
  rw [ef] at c2
  refine vc_fn mixed Try.func42 rfl rfl [] (vc_chk rfl) ?_
  repeat' (first
      | ((with_reducible refine vc_chk ?_); first | decide +kernel | rfl)
      | (with_reducible refine vc_side0 ?_; rfl)
      | (with_reducible first
           | refine vc_true ?_ | refine vc_true2 ?_ | refine vc_side ?_ ?_ | refine vc_triv | refine vc_later ?_ | refine vc_caseT ?_ | refine vc_caseF ?_ | refine vc_cons ?_ | refine vc_nil ?_ ?_ | refine vc_seq ?_
              | refine vc_region ?_ | refine vc_cond ?_ | refine vc_block ?_ | refine vc_retc ?_ | refine vc_exit ?_ | refine vc_skip ?_ | refine vc_scope ?_ | refine vc_label ?_ | refine vc_goto ?_ | refine vc_wkSl0
              | refine vc_wkHp0 | refine vc_eqAVs0 | refine vc_preG0 | refine vc_wkSl ?_ ?_ | refine vc_wkHp ?_ ?_ | refine vc_eqAVs ?_ ?_ | refine vc_preG ?_ ?_ | refine vc_side0 ?_ | refine vc_pure c1 ?_ ?_ ?_
              | refine vc_call [true] c2 ?_ | refine vc_weakf [] ?_ ?_ ?_ | refine vc_and ?_ ?_ | refine vc_ret [] [] ?_)
      | ((with_reducible first | refine vc_caseD (fun h => ?_) (fun h => ?_) | refine vc_caseN (fun h => ?_) (fun h => ?_)) <;> try (exfalso; omega))
      | ((with_reducible refine vc_case (fun h => ?_) (fun h => ?_)) <;> (try simp only [Go.Sym.vs1, reduceCtorEq] at h) <;> try (exfalso; first | omega | (simp at h; done)))
      | (conv in Vc _ => arg 1; whnf
         first
          | (with_reducible refine vc_side0 ?_; rfl)
          | (with_reducible first
              | refine vc_true ?_ | refine vc_true2 ?_ | refine vc_side ?_ ?_ | refine vc_triv | refine vc_later ?_ | refine vc_caseT ?_ | refine vc_caseF ?_ | refine vc_cons ?_ | refine vc_nil ?_ ?_ | refine vc_seq ?_
                 | refine vc_region ?_ | refine vc_cond ?_ | refine vc_block ?_ | refine vc_retc ?_ | refine vc_exit ?_ | refine vc_skip ?_ | refine vc_scope ?_ | refine vc_label ?_ | refine vc_goto ?_ | refine vc_wkSl0
                 | refine vc_wkHp0 | refine vc_eqAVs0 | refine vc_preG0 | refine vc_wkSl ?_ ?_ | refine vc_wkHp ?_ ?_ | refine vc_eqAVs ?_ ?_ | refine vc_preG ?_ ?_ | refine vc_side0 ?_ | refine vc_pure c1 ?_ ?_ ?_
                 | refine vc_call [true] c2 ?_ | refine vc_weakf [] ?_ ?_ ?_ | refine vc_and ?_ ?_ | refine vc_ret [] [] ?_)
          | ((with_reducible first | refine vc_caseD (fun h => ?_) (fun h => ?_) | refine vc_caseN (fun h => ?_) (fun h => ?_)) <;> try (exfalso; omega))
          | ((with_reducible refine vc_case (fun h => ?_) (fun h => ?_)) <;> (try simp only [Go.Sym.vs1, reduceCtorEq] at h) <;> try (exfalso; first | omega | (simp at h; done)))))
  all_goals first
    | rfl
    | omega
    | exact ⟨Nat.le_of_eq (Nat.zero_add _), trivial⟩
    | exact ⟨⟨Nat.le_refl _, trivial, trivial⟩, trivial⟩
    | exact ⟨Nat.le_refl _, trivial, trivial⟩
    | skip

end Go.Proofs.Ytcdjheiccefcdaa

/-
Digests of tagged bytes; parts of a key.
-/
set_option linter.unusedSimpArgs false
set_option linter.unusedVariables false
namespace Go.Proofs.Ytcdjheiccefcdaa
open Go.Sym
set_option maxRecDepth 10000
set_option maxHeartbeats 1000000

theorem of_ok (b : List UInt8) (hl : b.length < 2 ^ 58) : LocalCall Try.prog 53 [.d (.sl (b.map byteD))] [] [] (one [.d (.arr 32 1 ((shaB b).map byteD))]) [] := by
  have c := sum_ok b hl
  refine vc_fn mixed Try.func53 rfl rfl [] (vc_chk rfl) ?_
  repeat' (first
      | ((with_reducible refine vc_chk ?_); first | decide +kernel | rfl)
      | (with_reducible refine vc_side0 ?_; rfl)
      | (with_reducible first
           | refine vc_true ?_ | refine vc_true2 ?_ | refine vc_side ?_ ?_ | refine vc_triv | refine vc_later ?_ | refine vc_caseT ?_ | refine vc_caseF ?_ | refine vc_cons ?_ | refine vc_nil ?_ ?_ | refine vc_seq ?_
              | refine vc_region ?_ | refine vc_cond ?_ | refine vc_block ?_ | refine vc_retc ?_ | refine vc_exit ?_ | refine vc_skip ?_ | refine vc_scope ?_ | refine vc_label ?_ | refine vc_goto ?_ | refine vc_wkSl0
              | refine vc_wkHp0 | refine vc_eqAVs0 | refine vc_preG0 | refine vc_wkSl ?_ ?_ | refine vc_wkHp ?_ ?_ | refine vc_eqAVs ?_ ?_ | refine vc_preG ?_ ?_ | refine vc_side0 ?_ | refine vc_pure c ?_ ?_ ?_
              | refine vc_weakf [] ?_ ?_ ?_ | refine vc_and ?_ ?_ | refine vc_ret [] [] ?_)
      | ((with_reducible first | refine vc_caseD (fun h => ?_) (fun h => ?_) | refine vc_caseN (fun h => ?_) (fun h => ?_)) <;> try (exfalso; omega))
      | ((with_reducible refine vc_case (fun h => ?_) (fun h => ?_)) <;> (try simp only [Go.Sym.vs1, reduceCtorEq] at h) <;> try (exfalso; first | omega | (simp at h; done)))
      | (conv in Vc _ => arg 1; whnf
         first
          | (with_reducible refine vc_side0 ?_; rfl)
          | (with_reducible first
              | refine vc_true ?_ | refine vc_true2 ?_ | refine vc_side ?_ ?_ | refine vc_triv | refine vc_later ?_ | refine vc_caseT ?_ | refine vc_caseF ?_ | refine vc_cons ?_ | refine vc_nil ?_ ?_ | refine vc_seq ?_
                 | refine vc_region ?_ | refine vc_cond ?_ | refine vc_block ?_ | refine vc_retc ?_ | refine vc_exit ?_ | refine vc_skip ?_ | refine vc_scope ?_ | refine vc_label ?_ | refine vc_goto ?_ | refine vc_wkSl0
                 | refine vc_wkHp0 | refine vc_eqAVs0 | refine vc_preG0 | refine vc_wkSl ?_ ?_ | refine vc_wkHp ?_ ?_ | refine vc_eqAVs ?_ ?_ | refine vc_preG ?_ ?_ | refine vc_side0 ?_ | refine vc_pure c ?_ ?_ ?_
                 | refine vc_weakf [] ?_ ?_ ?_ | refine vc_and ?_ ?_ | refine vc_ret [] [] ?_)
          | ((with_reducible first | refine vc_caseD (fun h => ?_) (fun h => ?_) | refine vc_caseN (fun h => ?_) (fun h => ?_)) <;> try (exfalso; omega))
          | ((with_reducible refine vc_case (fun h => ?_) (fun h => ?_)) <;> (try simp only [Go.Sym.vs1, reduceCtorEq] at h) <;> try (exfalso; first | omega | (simp at h; done)))))
  all_goals first
    | rfl
    | skip

theorem rOf_ok (b : List UInt8) (hl : b.length < 2 ^ 28) : LocalCall Try.prog 44 [.d (.sl (b.map byteD))] [] [] (one [.d (.arr 32 1 ((shaB b).map byteD))]) [] := by
  have c := rSum_ok b hl
  refine vc_fn mixed Try.func44 rfl rfl [] (vc_chk rfl) ?_
  repeat' (first
      | ((with_reducible refine vc_chk ?_); first | decide +kernel | rfl)
      | (with_reducible refine vc_side0 ?_; rfl)
      | (with_reducible first
           | refine vc_true ?_ | refine vc_true2 ?_ | refine vc_side ?_ ?_ | refine vc_triv | refine vc_later ?_ | refine vc_caseT ?_ | refine vc_caseF ?_ | refine vc_cons ?_ | refine vc_nil ?_ ?_ | refine vc_seq ?_
              | refine vc_region ?_ | refine vc_cond ?_ | refine vc_block ?_ | refine vc_retc ?_ | refine vc_exit ?_ | refine vc_skip ?_ | refine vc_scope ?_ | refine vc_label ?_ | refine vc_goto ?_ | refine vc_wkSl0
              | refine vc_wkHp0 | refine vc_eqAVs0 | refine vc_preG0 | refine vc_wkSl ?_ ?_ | refine vc_wkHp ?_ ?_ | refine vc_eqAVs ?_ ?_ | refine vc_preG ?_ ?_ | refine vc_side0 ?_ | refine vc_pure c ?_ ?_ ?_
              | refine vc_weakf [] ?_ ?_ ?_ | refine vc_and ?_ ?_ | refine vc_ret [] [] ?_)
      | ((with_reducible first | refine vc_caseD (fun h => ?_) (fun h => ?_) | refine vc_caseN (fun h => ?_) (fun h => ?_)) <;> try (exfalso; omega))
      | ((with_reducible refine vc_case (fun h => ?_) (fun h => ?_)) <;> (try simp only [Go.Sym.vs1, reduceCtorEq] at h) <;> try (exfalso; first | omega | (simp at h; done)))
      | (conv in Vc _ => arg 1; whnf
         first
          | (with_reducible refine vc_side0 ?_; rfl)
          | (with_reducible first
              | refine vc_true ?_ | refine vc_true2 ?_ | refine vc_side ?_ ?_ | refine vc_triv | refine vc_later ?_ | refine vc_caseT ?_ | refine vc_caseF ?_ | refine vc_cons ?_ | refine vc_nil ?_ ?_ | refine vc_seq ?_
                 | refine vc_region ?_ | refine vc_cond ?_ | refine vc_block ?_ | refine vc_retc ?_ | refine vc_exit ?_ | refine vc_skip ?_ | refine vc_scope ?_ | refine vc_label ?_ | refine vc_goto ?_ | refine vc_wkSl0
                 | refine vc_wkHp0 | refine vc_eqAVs0 | refine vc_preG0 | refine vc_wkSl ?_ ?_ | refine vc_wkHp ?_ ?_ | refine vc_eqAVs ?_ ?_ | refine vc_preG ?_ ?_ | refine vc_side0 ?_ | refine vc_pure c ?_ ?_ ?_
                 | refine vc_weakf [] ?_ ?_ ?_ | refine vc_and ?_ ?_ | refine vc_ret [] [] ?_)
          | ((with_reducible first | refine vc_caseD (fun h => ?_) (fun h => ?_) | refine vc_caseN (fun h => ?_) (fun h => ?_)) <;> try (exfalso; omega))
          | ((with_reducible refine vc_case (fun h => ?_) (fun h => ?_)) <;> (try simp only [Go.Sym.vs1, reduceCtorEq] at h) <;> try (exfalso; first | omega | (simp at h; done)))))
  all_goals first
    | rfl
    | skip

/-- What is hashed of a part of a key. -/
def keyB (seed : List UInt8) (key i side : Nat) : List UInt8 := 75 :: (seed ++ num8 key ++ num8 (2 * i + side))
/-- A part of a key. -/
def keyH (seed : List UInt8) (key i : Nat) (on : Bool) : List UInt8 := shaB (keyB seed key i (bif on then 1 else 0))

theorem take32d {d : List UInt8} (h : d.length = 32) : List.take (((32 : Nat) : Int).toNat - Int.toNat 0) (List.drop (Int.toNat 0) (d.map byteD)) = d.map byteD := by
  show List.take 32 (List.drop 0 _) = _
  rw [List.drop_zero, List.take_of_length_le (by rw [List.length_map]; omega)]

end Go.Proofs.Ytcdjheiccefcdaa

/-
What path.Bit, path.Set and path.Bits do.
-/
set_option linter.unusedSimpArgs false
set_option linter.unusedVariables false
namespace Go.Proofs.Ytcdjheiccefcdaa
open Go.Sym
set_option maxRecDepth 10000


theorem bits_ok (xs : List D) : LocalCall Try.prog 90 [.d (.arr 32 1 xs)] [] [7] (one [.fn (.func 97) [.ptr 7 []]]) [(7, .var (.d (.arr 32 1 xs)))] := by
  refine vc_fn mixed Try.func90 rfl rfl [] (vc_chk rfl) ?_
  repeat' (first
      | ((with_reducible refine vc_chk ?_); first | decide +kernel | rfl)
      | (with_reducible refine vc_side0 ?_; rfl)
      | (with_reducible first
           | refine vc_true ?_ | refine vc_true2 ?_ | refine vc_side ?_ ?_ | refine vc_triv | refine vc_later ?_ | refine vc_caseT ?_ | refine vc_caseF ?_ | refine vc_cons ?_ | refine vc_nil ?_ ?_ | refine vc_seq ?_
              | refine vc_region ?_ | refine vc_cond ?_ | refine vc_block ?_ | refine vc_retc ?_ | refine vc_exit ?_ | refine vc_skip ?_ | refine vc_scope ?_ | refine vc_label ?_ | refine vc_goto ?_ | refine vc_wkSl0
              | refine vc_wkHp0 | refine vc_eqAVs0 | refine vc_preG0 | refine vc_wkSl ?_ ?_ | refine vc_wkHp ?_ ?_ | refine vc_eqAVs ?_ ?_ | refine vc_preG ?_ ?_ | refine vc_side0 ?_ | refine vc_ret [] [(7, 1000)] ?_
              | refine vc_weakf [] ?_ ?_ ?_ | refine vc_and ?_ ?_ | refine vc_ret [] [] ?_)
      | ((with_reducible first | refine vc_caseD (fun h => ?_) (fun h => ?_) | refine vc_caseN (fun h => ?_) (fun h => ?_)) <;> try (exfalso; omega))
      | ((with_reducible refine vc_case (fun h => ?_) (fun h => ?_)) <;> (try simp at h) <;> try (exfalso; omega))
      | (conv in Vc _ => arg 1; whnf
         first
          | (with_reducible refine vc_side0 ?_; rfl)
          | (with_reducible first
              | refine vc_true ?_ | refine vc_true2 ?_ | refine vc_side ?_ ?_ | refine vc_triv | refine vc_later ?_ | refine vc_caseT ?_ | refine vc_caseF ?_ | refine vc_cons ?_ | refine vc_nil ?_ ?_ | refine vc_seq ?_
                 | refine vc_region ?_ | refine vc_cond ?_ | refine vc_block ?_ | refine vc_retc ?_ | refine vc_exit ?_ | refine vc_skip ?_ | refine vc_scope ?_ | refine vc_label ?_ | refine vc_goto ?_ | refine vc_wkSl0
                 | refine vc_wkHp0 | refine vc_eqAVs0 | refine vc_preG0 | refine vc_wkSl ?_ ?_ | refine vc_wkHp ?_ ?_ | refine vc_eqAVs ?_ ?_ | refine vc_preG ?_ ?_ | refine vc_side0 ?_ | refine vc_ret [] [(7, 1000)] ?_
                 | refine vc_weakf [] ?_ ?_ ?_ | refine vc_and ?_ ?_ | refine vc_ret [] [] ?_)
          | ((with_reducible first | refine vc_caseD (fun h => ?_) (fun h => ?_) | refine vc_caseN (fun h => ?_) (fun h => ?_)) <;> try (exfalso; omega))
          | ((with_reducible refine vc_case (fun h => ?_) (fun h => ?_)) <;> (try simp at h) <;> try (exfalso; omega))))
  all_goals rfl

end Go.Proofs.Ytcdjheiccefcdaa

/-
What path.Bits hands to its round: the 256 bits, in their order.
-/
set_option linter.unusedSimpArgs false
set_option linter.unusedVariables false
namespace Go.Proofs.Ytcdjheiccefcdaa
open Go.Sym
set_option maxRecDepth 10000

section
variable (l : Nat) (xs : List D)
def bsY : AV := .fn (.yield l) []
def bsO (k : Nat) : List (Nat × AV) := [(0, .fn (.yield l) []), (6, .d (.arr 32 1 xs)), (7, .d (.int .i64 (k : Int)))]
def bsO1 (k : Nat) : List (Nat × AV) := (8, .d (.bool (decide ((k : Int) < 32)))) :: bsO l xs k
def bsI0 (c k : Nat) : List (Nat × AV) := [(0, .fn (.yield l) []), (6, .d (.arr 32 1 xs)), (7, .d (.int .i64 (k : Int))), (3, .d (.int .i64 (k : Int))), (4, .d (.int .u8 (c : Int)))]
def bsI (c k m : Nat) : List (Nat × AV) := [(0, .fn (.yield l) []), (6, .d (.arr 32 1 xs)), (7, .d (.int .i64 (k : Int))), (3, .d (.int .i64 (k : Int))), (4, .d (.int .u8 (c : Int))), (5, .d (.int .i64 (m : Int)))]
def bsI1 (c k m : Nat) : List (Nat × AV) := (12, .d (.bool (decide ((m : Int) < 8)))) :: bsI l xs c k m
def bsI2 (c k m : Nat) : List (Nat × AV) := (15, .fn (.yield l) []) :: (19, .d (.int .i64 (8 * k + m : Nat))) :: (24, .d (.bool (c.testBit (7 - m)))) :: bsI l xs c k m
end

theorem flat_bsI {l : Nat} {xs : List D} {c k m : Nat} (hs : ∀ x, x ∈ xs → x.scal = true) : ∀ p, p ∈ bsI l xs c k m → FlatA p.2 := by
  intro p hp
  simp only [bsI, List.mem_cons, List.not_mem_nil, or_false] at hp
  rcases hp with rfl | rfl | rfl | rfl | rfl | rfl
  · exact flatA_fn
  · exact flatA_arr hs
  all_goals exact flatA_d rfl
theorem flat_bsO {l : Nat} {xs : List D} {k : Nat} (hs : ∀ x, x ∈ xs → x.scal = true) : ∀ p, p ∈ bsO l xs k → FlatA p.2 := by
  intro p hp
  simp only [bsO, List.mem_cons, List.not_mem_nil, or_false] at hp
  rcases hp with rfl | rfl | rfl
  · exact flatA_fn
  · exact flatA_arr hs
  all_goals exact flatA_d rfl

theorem flat_bsI0 {l : Nat} {xs : List D} {c k : Nat} (hs : ∀ x, x ∈ xs → x.scal = true) : ∀ p, p ∈ bsI0 l xs c k → FlatA p.2 := by
  intro p hp
  simp only [bsI0, List.mem_cons, List.not_mem_nil, or_false] at hp
  rcases hp with rfl | rfl | rfl | rfl | rfl
  · exact flatA_fn
  · exact flatA_arr hs
  all_goals exact flatA_d rfl

theorem bits_seq (bs : List UInt8) (hb : bs.length = 32) : SeqOK Try.prog 97 (.arr 32 1 (bs.map byteD)) 256 (fun i => [.int .i64 (i : Int), .bool (bitB bs i)]) := by
  intro J Jd l b w X cs hrep hrow s1 s2 hJ hy
  have hs : ∀ x, x ∈ bs.map byteD → x.scal = true := fun x hx => by
    obtain ⟨y, _, rfl⟩ := List.mem_map.1 hx; rfl
  refine calls_of_wp_marks Try.func97 rfl ?_
  have hbl : b < w.heap.size := row_lt hrow (by rw [hrep.length]; show 0 < 32 * 1; omega)
  have hstart := fl_start (n := 28) (l := l) (by omega) hrep hrow hbl
  refine wpIn_scope_straight (wpIn_seq (wpIn_label (wpIn_seq ?_)))
  refine flat_norm mixed (sl' := bsO l (bs.map byteD) 0) (flat_bsO hs) hstart ?_ fun a w0 hI hx => ?_
  ·
    repeat' (first
        | ((with_reducible refine vc_chk ?_); first | decide +kernel | rfl)
        | (with_reducible refine vc_side0 ?_; rfl)
        | (with_reducible first
             | refine vc_true ?_ | refine vc_true2 ?_ | refine vc_side ?_ ?_ | refine vc_triv | refine vc_later ?_ | refine vc_caseT ?_ | refine vc_caseF ?_ | refine vc_cons ?_ | refine vc_nil ?_ ?_ | refine vc_seq ?_
                | refine vc_region ?_ | refine vc_cond ?_ | refine vc_block ?_ | refine vc_retc ?_ | refine vc_exit ?_ | refine vc_skip ?_ | refine vc_scope ?_ | refine vc_label ?_ | refine vc_goto ?_ | refine vc_wkSl0
                | refine vc_wkHp0 | refine vc_eqAVs0 | refine vc_preG0 | refine vc_wkSl ?_ ?_ | refine vc_wkHp ?_ ?_ | refine vc_eqAVs ?_ ?_ | refine vc_preG ?_ ?_ | refine vc_side0 ?_ | refine vc_weakf [] ?_ ?_ ?_
                | refine vc_and ?_ ?_ | refine vc_ret [] [] ?_)
        | ((with_reducible first | refine vc_caseD (fun h => ?_) (fun h => ?_) | refine vc_caseN (fun h => ?_) (fun h => ?_)) <;> try (exfalso; omega))
        | ((with_reducible refine vc_case (fun h => ?_) (fun h => ?_)) <;> (try simp at h) <;> try (exfalso; omega))
        | (conv in Vc _ => arg 1; whnf
           first
            | (with_reducible refine vc_side0 ?_; rfl)
            | (with_reducible first
                | refine vc_true ?_ | refine vc_true2 ?_ | refine vc_side ?_ ?_ | refine vc_triv | refine vc_later ?_ | refine vc_caseT ?_ | refine vc_caseF ?_ | refine vc_cons ?_ | refine vc_nil ?_ ?_ | refine vc_seq ?_
                   | refine vc_region ?_ | refine vc_cond ?_ | refine vc_block ?_ | refine vc_retc ?_ | refine vc_exit ?_ | refine vc_skip ?_ | refine vc_scope ?_ | refine vc_label ?_ | refine vc_goto ?_ | refine vc_wkSl0
                   | refine vc_wkHp0 | refine vc_eqAVs0 | refine vc_preG0 | refine vc_wkSl ?_ ?_ | refine vc_wkHp ?_ ?_ | refine vc_eqAVs ?_ ?_ | refine vc_preG ?_ ?_ | refine vc_side0 ?_ | refine vc_weakf [] ?_ ?_ ?_
                   | refine vc_and ?_ ?_ | refine vc_ret [] [] ?_)
            | ((with_reducible first | refine vc_caseD (fun h => ?_) (fun h => ?_) | refine vc_caseN (fun h => ?_) (fun h => ?_)) <;> try (exfalso; omega))
            | ((with_reducible refine vc_case (fun h => ?_) (fun h => ?_)) <;> (try simp at h) <;> try (exfalso; omega))))
    all_goals rfl
  replace hJ := s1 _ _ _ hJ hx
  clear hx hstart
  -- the outer loop
  refine wpIn_block (wpIn_loopI (fun (k : Nat) a w => k ≤ 32 ∧ Fl 28 (bsO l (bs.map byteD) k) a w ∧ J (8 * k) w) (fun k => 32 - k) (x0 := 0) ⟨Nat.zero_le _, hI, hJ⟩ fun k a w hk => ?_)
  obtain ⟨hk, hI, hJ⟩ := hk
  refine wpIn_seq (flat_norm mixed (sl' := bsO1 l (bs.map byteD) k) (fun p hp => ?_) hI ?_ fun a w1 hI hx => ?_)
  · rcases List.mem_cons.1 hp with rfl | hp
    · exact flatA_d rfl
    · exact flat_bsO hs p hp
  ·
    repeat' (first
        | ((with_reducible refine vc_chk ?_); first | decide +kernel | rfl)
        | (with_reducible refine vc_side0 ?_; rfl)
        | (with_reducible first
             | refine vc_true ?_ | refine vc_true2 ?_ | refine vc_side ?_ ?_ | refine vc_triv | refine vc_later ?_ | refine vc_caseT ?_ | refine vc_caseF ?_ | refine vc_cons ?_ | refine vc_nil ?_ ?_ | refine vc_seq ?_
                | refine vc_region ?_ | refine vc_cond ?_ | refine vc_block ?_ | refine vc_retc ?_ | refine vc_exit ?_ | refine vc_skip ?_ | refine vc_scope ?_ | refine vc_label ?_ | refine vc_goto ?_ | refine vc_wkSl0
                | refine vc_wkHp0 | refine vc_eqAVs0 | refine vc_preG0 | refine vc_wkSl ?_ ?_ | refine vc_wkHp ?_ ?_ | refine vc_eqAVs ?_ ?_ | refine vc_preG ?_ ?_ | refine vc_side0 ?_ | refine vc_weakf [] ?_ ?_ ?_
                | refine vc_and ?_ ?_ | refine vc_ret [] [] ?_)
        | ((with_reducible first | refine vc_caseD (fun h => ?_) (fun h => ?_) | refine vc_caseN (fun h => ?_) (fun h => ?_)) <;> try (exfalso; omega))
        | ((with_reducible refine vc_case (fun h => ?_) (fun h => ?_)) <;> (try simp at h) <;> try (exfalso; omega))
        | (conv in Vc _ => arg 1; whnf
           first
            | (with_reducible refine vc_side0 ?_; rfl)
            | (with_reducible first
                | refine vc_true ?_ | refine vc_true2 ?_ | refine vc_side ?_ ?_ | refine vc_triv | refine vc_later ?_ | refine vc_caseT ?_ | refine vc_caseF ?_ | refine vc_cons ?_ | refine vc_nil ?_ ?_ | refine vc_seq ?_
                   | refine vc_region ?_ | refine vc_cond ?_ | refine vc_block ?_ | refine vc_retc ?_ | refine vc_exit ?_ | refine vc_skip ?_ | refine vc_scope ?_ | refine vc_label ?_ | refine vc_goto ?_ | refine vc_wkSl0
                   | refine vc_wkHp0 | refine vc_eqAVs0 | refine vc_preG0 | refine vc_wkSl ?_ ?_ | refine vc_wkHp ?_ ?_ | refine vc_eqAVs ?_ ?_ | refine vc_preG ?_ ?_ | refine vc_side0 ?_ | refine vc_weakf [] ?_ ?_ ?_
                   | refine vc_and ?_ ?_ | refine vc_ret [] [] ?_)
            | ((with_reducible first | refine vc_caseD (fun h => ?_) (fun h => ?_) | refine vc_caseN (fun h => ?_) (fun h => ?_)) <;> try (exfalso; omega))
            | ((with_reducible refine vc_case (fun h => ?_) (fun h => ?_)) <;> (try simp at h) <;> try (exfalso; omega))))
    all_goals rfl
  replace hJ := s1 _ _ _ hJ hx
  refine wpIn_seq (fl_cond hI (b := decide ((k : Int) < 32)) rfl (fun ht => wpIn_skip ?_) (fun ht => wpIn_exit ?_))
  case refine_2 =>
    have : k = 32 := by simp at ht; omega
    subst this
    show LeavesInM _ _ _ _ _ _ _ _ _
    rw [fl_defers hI]
    exact ⟨_, results_run (vs := []) rfl, _, rfl, .inl hJ⟩
  have hlt : k < 32 := by simp at ht; omega
  refine wpIn_seq (wpIn_block (wpIn_seq ?_))
  have hgk : (bs.map byteD).getD k .nilp = byteD (bs.getD k 0) := getD_byte (by omega)
  refine flat_norm mixed (sl' := bsI0 l (bs.map byteD) (bs.getD k 0).toNat k) (flat_bsI0 hs) hI ?_ fun a w2 hI hx => ?_
  ·
    repeat' (first
        | ((with_reducible refine vc_chk ?_); first | decide +kernel | rfl)
        | (with_reducible refine vc_side0 ?_; rfl)
        | (with_reducible first
             | refine vc_true ?_ | refine vc_true2 ?_ | refine vc_side ?_ ?_ | refine vc_triv | refine vc_later ?_ | refine vc_caseT ?_ | refine vc_caseF ?_ | refine vc_cons ?_ | refine vc_nil ?_ ?_ | refine vc_seq ?_
                | refine vc_region ?_ | refine vc_cond ?_ | refine vc_block ?_ | refine vc_retc ?_ | refine vc_exit ?_ | refine vc_skip ?_ | refine vc_scope ?_ | refine vc_label ?_ | refine vc_goto ?_ | refine vc_wkSl0
                | refine vc_wkHp0 | refine vc_eqAVs0 | refine vc_preG0 | refine vc_wkSl ?_ ?_ | refine vc_wkHp ?_ ?_ | refine vc_eqAVs ?_ ?_ | refine vc_preG ?_ ?_ | refine vc_side0 ?_ | refine vc_weakf [] ?_ ?_ ?_
                | refine vc_and ?_ ?_ | refine vc_ret [] [] ?_)
        | ((with_reducible first | refine vc_caseD (fun h => ?_) (fun h => ?_) | refine vc_caseN (fun h => ?_) (fun h => ?_)) <;> try (exfalso; omega))
        | ((with_reducible refine vc_case (fun h => ?_) (fun h => ?_)) <;> (try simp at h) <;> try (exfalso; omega))
        | (conv in Vc _ => arg 1; whnf
           first
            | (with_reducible refine vc_side0 ?_; rfl)
            | (with_reducible first
                | refine vc_true ?_ | refine vc_true2 ?_ | refine vc_side ?_ ?_ | refine vc_triv | refine vc_later ?_ | refine vc_caseT ?_ | refine vc_caseF ?_ | refine vc_cons ?_ | refine vc_nil ?_ ?_ | refine vc_seq ?_
                   | refine vc_region ?_ | refine vc_cond ?_ | refine vc_block ?_ | refine vc_retc ?_ | refine vc_exit ?_ | refine vc_skip ?_ | refine vc_scope ?_ | refine vc_label ?_ | refine vc_goto ?_ | refine vc_wkSl0
                   | refine vc_wkHp0 | refine vc_eqAVs0 | refine vc_preG0 | refine vc_wkSl ?_ ?_ | refine vc_wkHp ?_ ?_ | refine vc_eqAVs ?_ ?_ | refine vc_preG ?_ ?_ | refine vc_side0 ?_ | refine vc_weakf [] ?_ ?_ ?_
                   | refine vc_and ?_ ?_ | refine vc_ret [] [] ?_)
            | ((with_reducible first | refine vc_caseD (fun h => ?_) (fun h => ?_) | refine vc_caseN (fun h => ?_) (fun h => ?_)) <;> try (exfalso; omega))
            | ((with_reducible refine vc_case (fun h => ?_) (fun h => ?_)) <;> (try simp at h) <;> try (exfalso; omega))))
    all_goals (try simp only [Int.toNat_natCast, hgk])
    all_goals first | rfl | exact ⟨⟨by omega, by omega⟩, rfl⟩
  replace hJ := s1 _ _ _ hJ hx
  refine wpIn_seq (flat_norm mixed (sl' := bsI l (bs.map byteD) (bs.getD k 0).toNat k 0) (flat_bsI hs) hI ?_ fun a w3 hI hx => ?_)
  ·
    repeat' (first
        | ((with_reducible refine vc_chk ?_); first | decide +kernel | rfl)
        | (with_reducible refine vc_side0 ?_; rfl)
        | (with_reducible first
             | refine vc_true ?_ | refine vc_true2 ?_ | refine vc_side ?_ ?_ | refine vc_triv | refine vc_later ?_ | refine vc_caseT ?_ | refine vc_caseF ?_ | refine vc_cons ?_ | refine vc_nil ?_ ?_ | refine vc_seq ?_
                | refine vc_region ?_ | refine vc_cond ?_ | refine vc_block ?_ | refine vc_retc ?_ | refine vc_exit ?_ | refine vc_skip ?_ | refine vc_scope ?_ | refine vc_label ?_ | refine vc_goto ?_ | refine vc_wkSl0
                | refine vc_wkHp0 | refine vc_eqAVs0 | refine vc_preG0 | refine vc_wkSl ?_ ?_ | refine vc_wkHp ?_ ?_ | refine vc_eqAVs ?_ ?_ | refine vc_preG ?_ ?_ | refine vc_side0 ?_ | refine vc_weakf [] ?_ ?_ ?_
                | refine vc_and ?_ ?_ | refine vc_ret [] [] ?_)
        | ((with_reducible first | refine vc_caseD (fun h => ?_) (fun h => ?_) | refine vc_caseN (fun h => ?_) (fun h => ?_)) <;> try (exfalso; omega))
        | ((with_reducible refine vc_case (fun h => ?_) (fun h => ?_)) <;> (try simp at h) <;> try (exfalso; omega))
        | (conv in Vc _ => arg 1; whnf
           first
            | (with_reducible refine vc_side0 ?_; rfl)
            | (with_reducible first
                | refine vc_true ?_ | refine vc_true2 ?_ | refine vc_side ?_ ?_ | refine vc_triv | refine vc_later ?_ | refine vc_caseT ?_ | refine vc_caseF ?_ | refine vc_cons ?_ | refine vc_nil ?_ ?_ | refine vc_seq ?_
                   | refine vc_region ?_ | refine vc_cond ?_ | refine vc_block ?_ | refine vc_retc ?_ | refine vc_exit ?_ | refine vc_skip ?_ | refine vc_scope ?_ | refine vc_label ?_ | refine vc_goto ?_ | refine vc_wkSl0
                   | refine vc_wkHp0 | refine vc_eqAVs0 | refine vc_preG0 | refine vc_wkSl ?_ ?_ | refine vc_wkHp ?_ ?_ | refine vc_eqAVs ?_ ?_ | refine vc_preG ?_ ?_ | refine vc_side0 ?_ | refine vc_weakf [] ?_ ?_ ?_
                   | refine vc_and ?_ ?_ | refine vc_ret [] [] ?_)
            | ((with_reducible first | refine vc_caseD (fun h => ?_) (fun h => ?_) | refine vc_caseN (fun h => ?_) (fun h => ?_)) <;> try (exfalso; omega))
            | ((with_reducible refine vc_case (fun h => ?_) (fun h => ?_)) <;> (try simp at h) <;> try (exfalso; omega))))
    all_goals rfl
  replace hJ := s1 _ _ _ hJ hx
  clear hx
  -- the inner loop
  refine wpIn_block (wpIn_loopI (fun (m : Nat) a w => m ≤ 8 ∧ Fl 28 (bsI l (bs.map byteD) (bs.getD k 0).toNat k m) a w ∧ J (8 * k + m) w) (fun m => 8 - m) (x0 := 0) ⟨Nat.zero_le _, hI, hJ⟩ fun m a w hm => ?_)
  obtain ⟨hm, hI, hJ⟩ := hm
  refine wpIn_seq (wpIn_seq (flat_norm mixed (sl' := bsI1 l (bs.map byteD) (bs.getD k 0).toNat k m) (fun p hp => ?_) hI ?_ fun a w1 hI hx => ?_))
  · rcases List.mem_cons.1 hp with rfl | hp
    · exact flatA_d rfl
    · exact flat_bsI hs p hp
  ·
    repeat' (first
        | ((with_reducible refine vc_chk ?_); first | decide +kernel | rfl)
        | (with_reducible refine vc_side0 ?_; rfl)
        | (with_reducible first
             | refine vc_true ?_ | refine vc_true2 ?_ | refine vc_side ?_ ?_ | refine vc_triv | refine vc_later ?_ | refine vc_caseT ?_ | refine vc_caseF ?_ | refine vc_cons ?_ | refine vc_nil ?_ ?_ | refine vc_seq ?_
                | refine vc_region ?_ | refine vc_cond ?_ | refine vc_block ?_ | refine vc_retc ?_ | refine vc_exit ?_ | refine vc_skip ?_ | refine vc_scope ?_ | refine vc_label ?_ | refine vc_goto ?_ | refine vc_wkSl0
                | refine vc_wkHp0 | refine vc_eqAVs0 | refine vc_preG0 | refine vc_wkSl ?_ ?_ | refine vc_wkHp ?_ ?_ | refine vc_eqAVs ?_ ?_ | refine vc_preG ?_ ?_ | refine vc_side0 ?_ | refine vc_weakf [] ?_ ?_ ?_
                | refine vc_and ?_ ?_ | refine vc_ret [] [] ?_)
        | ((with_reducible first | refine vc_caseD (fun h => ?_) (fun h => ?_) | refine vc_caseN (fun h => ?_) (fun h => ?_)) <;> try (exfalso; omega))
        | ((with_reducible refine vc_case (fun h => ?_) (fun h => ?_)) <;> (try simp at h) <;> try (exfalso; omega))
        | (conv in Vc _ => arg 1; whnf
           first
            | (with_reducible refine vc_side0 ?_; rfl)
            | (with_reducible first
                | refine vc_true ?_ | refine vc_true2 ?_ | refine vc_side ?_ ?_ | refine vc_triv | refine vc_later ?_ | refine vc_caseT ?_ | refine vc_caseF ?_ | refine vc_cons ?_ | refine vc_nil ?_ ?_ | refine vc_seq ?_
                   | refine vc_region ?_ | refine vc_cond ?_ | refine vc_block ?_ | refine vc_retc ?_ | refine vc_exit ?_ | refine vc_skip ?_ | refine vc_scope ?_ | refine vc_label ?_ | refine vc_goto ?_ | refine vc_wkSl0
                   | refine vc_wkHp0 | refine vc_eqAVs0 | refine vc_preG0 | refine vc_wkSl ?_ ?_ | refine vc_wkHp ?_ ?_ | refine vc_eqAVs ?_ ?_ | refine vc_preG ?_ ?_ | refine vc_side0 ?_ | refine vc_weakf [] ?_ ?_ ?_
                   | refine vc_and ?_ ?_ | refine vc_ret [] [] ?_)
            | ((with_reducible first | refine vc_caseD (fun h => ?_) (fun h => ?_) | refine vc_caseN (fun h => ?_) (fun h => ?_)) <;> try (exfalso; omega))
            | ((with_reducible refine vc_case (fun h => ?_) (fun h => ?_)) <;> (try simp at h) <;> try (exfalso; omega))))
    all_goals rfl
  replace hJ := s1 _ _ _ hJ hx
  refine fl_cond hI (b := decide ((m : Int) < 8)) rfl (fun ht => wpIn_skip ?_) (fun ht => wpIn_exit ?_)
  case refine_2 =>
    have : m = 8 := by simp at ht; omega
    subst this
    -- behind the inner loop
    show (Code.region _ _ _).wpIn _ _ _ _ _ _
    refine flat_norm mixed (sl' := bsO l (bs.map byteD) (k + 1)) (flat_bsO hs) hI ?_ fun a w2 hI hx => ?_
    ·
      repeat' (first
          | ((with_reducible refine vc_chk ?_); first | decide +kernel | rfl)
          | (with_reducible refine vc_side0 ?_; rfl)
          | (with_reducible first
               | refine vc_true ?_ | refine vc_true2 ?_ | refine vc_side ?_ ?_ | refine vc_triv | refine vc_later ?_ | refine vc_caseT ?_ | refine vc_caseF ?_ | refine vc_cons ?_ | refine vc_nil ?_ ?_ | refine vc_seq ?_
                  | refine vc_region ?_ | refine vc_cond ?_ | refine vc_block ?_ | refine vc_retc ?_ | refine vc_exit ?_ | refine vc_skip ?_ | refine vc_scope ?_ | refine vc_label ?_ | refine vc_goto ?_ | refine vc_wkSl0
                  | refine vc_wkHp0 | refine vc_eqAVs0 | refine vc_preG0 | refine vc_wkSl ?_ ?_ | refine vc_wkHp ?_ ?_ | refine vc_eqAVs ?_ ?_ | refine vc_preG ?_ ?_ | refine vc_side0 ?_ | refine vc_weakf [] ?_ ?_ ?_
                  | refine vc_and ?_ ?_ | refine vc_ret [] [] ?_)
          | ((with_reducible first | refine vc_caseD (fun h => ?_) (fun h => ?_) | refine vc_caseN (fun h => ?_) (fun h => ?_)) <;> try (exfalso; omega))
          | ((with_reducible refine vc_case (fun h => ?_) (fun h => ?_)) <;> (try simp at h) <;> try (exfalso; omega))
          | (conv in Vc _ => arg 1; whnf
             first
              | (with_reducible refine vc_side0 ?_; rfl)
              | (with_reducible first
                  | refine vc_true ?_ | refine vc_true2 ?_ | refine vc_side ?_ ?_ | refine vc_triv | refine vc_later ?_ | refine vc_caseT ?_ | refine vc_caseF ?_ | refine vc_cons ?_ | refine vc_nil ?_ ?_ | refine vc_seq ?_
                     | refine vc_region ?_ | refine vc_cond ?_ | refine vc_block ?_ | refine vc_retc ?_ | refine vc_exit ?_ | refine vc_skip ?_ | refine vc_scope ?_ | refine vc_label ?_ | refine vc_goto ?_ | refine vc_wkSl0
                     | refine vc_wkHp0 | refine vc_eqAVs0 | refine vc_preG0 | refine vc_wkSl ?_ ?_ | refine vc_wkHp ?_ ?_ | refine vc_eqAVs ?_ ?_ | refine vc_preG ?_ ?_ | refine vc_side0 ?_ | refine vc_weakf [] ?_ ?_ ?_
                     | refine vc_and ?_ ?_ | refine vc_ret [] [] ?_)
              | ((with_reducible first | refine vc_caseD (fun h => ?_) (fun h => ?_) | refine vc_caseN (fun h => ?_) (fun h => ?_)) <;> try (exfalso; omega))
              | ((with_reducible refine vc_case (fun h => ?_) (fun h => ?_)) <;> (try simp at h) <;> try (exfalso; omega))))
      all_goals first | rfl | (rw [wrap64_id (by omega) (by omega)]; rfl)
    exact ⟨k + 1, ⟨by omega, hI, s1 _ _ _ hJ hx⟩, by omega⟩
  have hlt : m < 8 := by simp at ht; omega
  have hi : 8 * k + m < 256 := by omega
  have hbit : bitB bs (8 * k + m) = (bs.getD k 0).toNat.testBit (7 - m) := by
    unfold bitB
    rw [show (8 * k + m) / 8 = k by omega, show (8 * k + m) % 8 = m by omega]
  refine wpIn_seq (wpIn_block (wpIn_seq (wpIn_region ?_)))
  rw [show List.range _ = List.range' 0 10 ++ (10 :: List.range' 11 1) from rfl]
  refine wpOpsIn_append _ (flat_pre (id := 6) (sl' := bsI2 l (bs.map byteD) (bs.getD k 0).toNat k m) (fun p hp => ?_) rfl hI ?_ fun a w2 hI hx => ?_)
  · simp only [bsI2, List.mem_cons] at hp
    rcases hp with rfl | rfl | rfl | hp
    · exact flatA_fn
    · exact flatA_d rfl
    · exact flatA_d rfl
    · exact flat_bsI hs p hp
  · simp only [List.take_succ_cons, List.take_zero]
    repeat' (first
        | ((with_reducible refine vc_chk ?_); first | decide +kernel | rfl)
        | (with_reducible refine vc_side0 ?_; rfl)
        | (with_reducible first
             | refine vc_true ?_ | refine vc_true2 ?_ | refine vc_side ?_ ?_ | refine vc_triv | refine vc_later ?_ | refine vc_caseT ?_ | refine vc_caseF ?_ | refine vc_cons ?_ | refine vc_nil ?_ ?_ | refine vc_seq ?_
                | refine vc_region ?_ | refine vc_cond ?_ | refine vc_block ?_ | refine vc_retc ?_ | refine vc_exit ?_ | refine vc_skip ?_ | refine vc_scope ?_ | refine vc_label ?_ | refine vc_goto ?_ | refine vc_wkSl0
                | refine vc_wkHp0 | refine vc_eqAVs0 | refine vc_preG0 | refine vc_wkSl ?_ ?_ | refine vc_wkHp ?_ ?_ | refine vc_eqAVs ?_ ?_ | refine vc_preG ?_ ?_ | refine vc_side0 ?_ | refine vc_weakf [] ?_ ?_ ?_
                | refine vc_and ?_ ?_ | refine vc_ret [] [] ?_)
        | ((with_reducible first | refine vc_caseD (fun h => ?_) (fun h => ?_) | refine vc_caseN (fun h => ?_) (fun h => ?_)) <;> try (exfalso; omega))
        | ((with_reducible refine vc_case (fun h => ?_) (fun h => ?_)) <;> (try simp at h) <;> try (exfalso; omega))
        | (conv in Vc _ => arg 1; whnf
           first
            | (with_reducible refine vc_side0 ?_; rfl)
            | (with_reducible first
                | refine vc_true ?_ | refine vc_true2 ?_ | refine vc_side ?_ ?_ | refine vc_triv | refine vc_later ?_ | refine vc_caseT ?_ | refine vc_caseF ?_ | refine vc_cons ?_ | refine vc_nil ?_ ?_ | refine vc_seq ?_
                   | refine vc_region ?_ | refine vc_cond ?_ | refine vc_block ?_ | refine vc_retc ?_ | refine vc_exit ?_ | refine vc_skip ?_ | refine vc_scope ?_ | refine vc_label ?_ | refine vc_goto ?_ | refine vc_wkSl0
                   | refine vc_wkHp0 | refine vc_eqAVs0 | refine vc_preG0 | refine vc_wkSl ?_ ?_ | refine vc_wkHp ?_ ?_ | refine vc_eqAVs ?_ ?_ | refine vc_preG ?_ ?_ | refine vc_side0 ?_ | refine vc_weakf [] ?_ ?_ ?_
                   | refine vc_and ?_ ?_ | refine vc_ret [] [] ?_)
            | ((with_reducible first | refine vc_caseD (fun h => ?_) (fun h => ?_) | refine vc_caseN (fun h => ?_) (fun h => ?_)) <;> try (exfalso; omega))
            | ((with_reducible refine vc_case (fun h => ?_) (fun h => ?_)) <;> (try simp at h) <;> try (exfalso; omega))))
    all_goals first | rfl | omega | exact congrArg D.bool (and_bit _ _ hlt) | (rw [wrap64_id (n := 8 * (k : Int)) (by omega) (by omega), wrap64_id (by omega) (by omega)]; congr 1)
  replace hJ := s1 _ _ _ hJ hx
  rw [wpOpsIn_cons]
  refine fl_yield (i := 8 * k + m) hy rfl rfl rfl rfl rfl hI rfl (by show _ = [AV.d (.int .i64 ((8 * k + m : Nat) : Int)), AV.d (.bool (bitB bs (8 * k + m)))]; rw [hbit]; rfl) rfl hi hJ (fun p hp => ?_) fun t a w3 hI j1 j2 => ?_
  · simp only [bsI2, List.mem_cons] at hp
    rcases hp with rfl | rfl | rfl | hp
    · exact flatA_fn
    · exact flatA_d rfl
    · exact flatA_d rfl
    · exact flat_bsI hs p hp
  refine flat_suf (id := 6) (sl' := (26, .d (.bool (!t))) :: bsI l (bs.map byteD) (bs.getD k 0).toNat k m) (fun p hp => ?_) rfl hI ?_ fun a w4 hI hx => ?_
  · rcases List.mem_cons.1 hp with rfl | hp
    · exact flatA_d rfl
    · exact flat_bsI hs p hp
  · simp only [List.drop_succ_cons, List.drop_zero]
    repeat' (first
        | ((with_reducible refine vc_chk ?_); first | decide +kernel | rfl)
        | (with_reducible refine vc_side0 ?_; rfl)
        | (with_reducible first
             | refine vc_true ?_ | refine vc_true2 ?_ | refine vc_side ?_ ?_ | refine vc_triv | refine vc_later ?_ | refine vc_caseT ?_ | refine vc_caseF ?_ | refine vc_cons ?_ | refine vc_nil ?_ ?_ | refine vc_seq ?_
                | refine vc_region ?_ | refine vc_cond ?_ | refine vc_block ?_ | refine vc_retc ?_ | refine vc_exit ?_ | refine vc_skip ?_ | refine vc_scope ?_ | refine vc_label ?_ | refine vc_goto ?_ | refine vc_wkSl0
                | refine vc_wkHp0 | refine vc_eqAVs0 | refine vc_preG0 | refine vc_wkSl ?_ ?_ | refine vc_wkHp ?_ ?_ | refine vc_eqAVs ?_ ?_ | refine vc_preG ?_ ?_ | refine vc_side0 ?_ | refine vc_weakf [] ?_ ?_ ?_
                | refine vc_and ?_ ?_ | refine vc_ret [] [] ?_)
        | ((with_reducible first | refine vc_caseD (fun h => ?_) (fun h => ?_) | refine vc_caseN (fun h => ?_) (fun h => ?_)) <;> try (exfalso; omega))
        | ((with_reducible refine vc_case (fun h => ?_) (fun h => ?_)) <;> (try simp at h) <;> try (exfalso; omega))
        | (conv in Vc _ => arg 1; whnf
           first
            | (with_reducible refine vc_side0 ?_; rfl)
            | (with_reducible first
                | refine vc_true ?_ | refine vc_true2 ?_ | refine vc_side ?_ ?_ | refine vc_triv | refine vc_later ?_ | refine vc_caseT ?_ | refine vc_caseF ?_ | refine vc_cons ?_ | refine vc_nil ?_ ?_ | refine vc_seq ?_
                   | refine vc_region ?_ | refine vc_cond ?_ | refine vc_block ?_ | refine vc_retc ?_ | refine vc_exit ?_ | refine vc_skip ?_ | refine vc_scope ?_ | refine vc_label ?_ | refine vc_goto ?_ | refine vc_wkSl0
                   | refine vc_wkHp0 | refine vc_eqAVs0 | refine vc_preG0 | refine vc_wkSl ?_ ?_ | refine vc_wkHp ?_ ?_ | refine vc_eqAVs ?_ ?_ | refine vc_preG ?_ ?_ | refine vc_side0 ?_ | refine vc_weakf [] ?_ ?_ ?_
                   | refine vc_and ?_ ?_ | refine vc_ret [] [] ?_)
            | ((with_reducible first | refine vc_caseD (fun h => ?_) (fun h => ?_) | refine vc_caseN (fun h => ?_) (fun h => ?_)) <;> try (exfalso; omega))
            | ((with_reducible refine vc_case (fun h => ?_) (fun h => ?_)) <;> (try simp at h) <;> try (exfalso; omega))))
    all_goals rfl
  refine fl_cond hI (b := !t) rfl (fun ht => wpIn_exit ?_) (fun ht => wpIn_skip ?_)
  · have htf : t = false := by simpa using ht
    show LeavesInM _ _ _ _ _ _ _ _ _
    rw [fl_defers hI]
    exact ⟨_, results_run (vs := []) rfl, _, rfl, .inr (s2 _ _ (j2 htf) hx)⟩
  · have htt : t = true := by simpa using ht
    have hJ' := s1 _ _ _ (j1 htt) hx
    show (Code.region _ _ _).wpIn _ _ _ _ _ _
    refine flat_norm mixed (sl' := bsI l (bs.map byteD) (bs.getD k 0).toNat k (m + 1)) (flat_bsI hs) hI ?_ fun a w5 hI hx => ?_
    ·
      repeat' (first
          | ((with_reducible refine vc_chk ?_); first | decide +kernel | rfl)
          | (with_reducible refine vc_side0 ?_; rfl)
          | (with_reducible first
               | refine vc_true ?_ | refine vc_true2 ?_ | refine vc_side ?_ ?_ | refine vc_triv | refine vc_later ?_ | refine vc_caseT ?_ | refine vc_caseF ?_ | refine vc_cons ?_ | refine vc_nil ?_ ?_ | refine vc_seq ?_
                  | refine vc_region ?_ | refine vc_cond ?_ | refine vc_block ?_ | refine vc_retc ?_ | refine vc_exit ?_ | refine vc_skip ?_ | refine vc_scope ?_ | refine vc_label ?_ | refine vc_goto ?_ | refine vc_wkSl0
                  | refine vc_wkHp0 | refine vc_eqAVs0 | refine vc_preG0 | refine vc_wkSl ?_ ?_ | refine vc_wkHp ?_ ?_ | refine vc_eqAVs ?_ ?_ | refine vc_preG ?_ ?_ | refine vc_side0 ?_ | refine vc_weakf [] ?_ ?_ ?_
                  | refine vc_and ?_ ?_ | refine vc_ret [] [] ?_)
          | ((with_reducible first | refine vc_caseD (fun h => ?_) (fun h => ?_) | refine vc_caseN (fun h => ?_) (fun h => ?_)) <;> try (exfalso; omega))
          | ((with_reducible refine vc_case (fun h => ?_) (fun h => ?_)) <;> (try simp at h) <;> try (exfalso; omega))
          | (conv in Vc _ => arg 1; whnf
             first
              | (with_reducible refine vc_side0 ?_; rfl)
              | (with_reducible first
                  | refine vc_true ?_ | refine vc_true2 ?_ | refine vc_side ?_ ?_ | refine vc_triv | refine vc_later ?_ | refine vc_caseT ?_ | refine vc_caseF ?_ | refine vc_cons ?_ | refine vc_nil ?_ ?_ | refine vc_seq ?_
                     | refine vc_region ?_ | refine vc_cond ?_ | refine vc_block ?_ | refine vc_retc ?_ | refine vc_exit ?_ | refine vc_skip ?_ | refine vc_scope ?_ | refine vc_label ?_ | refine vc_goto ?_ | refine vc_wkSl0
                     | refine vc_wkHp0 | refine vc_eqAVs0 | refine vc_preG0 | refine vc_wkSl ?_ ?_ | refine vc_wkHp ?_ ?_ | refine vc_eqAVs ?_ ?_ | refine vc_preG ?_ ?_ | refine vc_side0 ?_ | refine vc_weakf [] ?_ ?_ ?_
                     | refine vc_and ?_ ?_ | refine vc_ret [] [] ?_)
              | ((with_reducible first | refine vc_caseD (fun h => ?_) (fun h => ?_) | refine vc_caseN (fun h => ?_) (fun h => ?_)) <;> try (exfalso; omega))
              | ((with_reducible refine vc_case (fun h => ?_) (fun h => ?_)) <;> (try simp at h) <;> try (exfalso; omega))))
      all_goals first | rfl | (rw [wrap64_id (by omega) (by omega)]; rfl)
    exact ⟨m + 1, ⟨by omega, hI, s1 _ _ _ hJ' hx⟩, by omega⟩

end Go.Proofs.Ytcdjheiccefcdaa

/-
What signs once: a public key's text, what signs, to what a signature leads.
-/
set_option linter.unusedSimpArgs false
set_option linter.unusedVariables false
namespace Go.Proofs.Ytcdjheiccefcdaa
open Go.Sym
set_option maxRecDepth 10000
set_option maxHeartbeats 1000000

theorem t32s (b : List UInt8) : List.take (32 - Int.toNat 0) (List.drop (Int.toNat 0) ((shaB b).map byteD)) = (shaB b).map byteD := take32d (shaB_length b)
theorem len32 {d : List UInt8} (h : d.length = 32) : Int.toNat 0 + (32 - Int.toNat 0) ≤ (d.map byteD).length := by rw [List.length_map, h]; decide

/-- The text of a public key, after so many bits. -/
def textN (P : Nat → Bool → List UInt8) (i : Nat) : List UInt8 := 80 :: rounds (textF P) i
end Go.Proofs.Ytcdjheiccefcdaa

/-
What signs bytes, and to what a signature leads.
-/
set_option linter.unusedSimpArgs false
set_option linter.unusedVariables false
namespace Go.Proofs.Ytcdjheiccefcdaa
open Go.Sym
set_option maxRecDepth 10000
set_option maxHeartbeats 1000000

/-- What signs, after so many bits. -/
def signN (P : Nat → Bool → List UInt8) (d : List UInt8) (i : Nat) : List UInt8 := rounds (signF P d) i
end Go.Proofs.Ytcdjheiccefcdaa

/-
To what a signature leads, and whether it is taken.
-/
set_option linter.unusedSimpArgs false
set_option linter.unusedVariables false
namespace Go.Proofs.Ytcdjheiccefcdaa
open Go.Sym
set_option maxRecDepth 10000
set_option maxHeartbeats 1000000

/-- To what a signature leads, after so many bits. -/
def openN (d s : List UInt8) (i : Nat) : List UInt8 := 80 :: rounds (openF d s) i
theorem openN_length (d : List UInt8) {s : List UInt8} (hs : s.length = 16384) {i : Nat} (hi : i ≤ 256) : (openN d s i).length = 64 * i + 1 := by
  unfold openN
  rw [List.length_cons, rounds_length i fun i h => openF_length d hs (by omega)]
theorem openN_all (d s : List UInt8) : openN d s 256 = openP d s := by unfold openN openP; rfl
def openT (b sig : List UInt8) : List UInt8 := bif decide (sig.length = 16384) then openP (shaB b) sig else []
def openE (sig : List UInt8) : Int := bif decide (sig.length = 16384) then 0 else 15
def checkE (pub b sig : List UInt8) : Int := bif decide (sig.length = 16384) && decide (shaB (openP (shaB b) sig) = pub) then 0 else 15

theorem sig_x (s : List UInt8) (i : Nat) : cutD ((s.drop (64 * i)).map byteD) 0 32 = (sigX s i).map byteD := by
  show List.drop 0 (List.take 32 _) = _
  rw [List.drop_zero, ← List.map_take]; rfl
theorem sig_y (s : List UInt8) (i : Nat) : cutD ((s.drop (64 * i)).map byteD) 32 64 = (sigY s i).map byteD := by
  show List.drop 32 (List.take 64 _) = _
  rw [List.drop_take, ← List.map_drop, List.drop_drop, ← List.map_take]; rfl
theorem sig_n (s : List UInt8) (i : Nat) : cutD ((s.drop (64 * i)).map byteD) 64 (((s.drop (64 * i)).map byteD).length : Nat) = (s.drop (64 * (i + 1))).map byteD := by
  show List.drop 64 (List.take ((s.drop (64 * i)).map byteD).length _) = _
  rw [List.take_length, ← List.map_drop, List.drop_drop]
  rfl
theorem openN_succ {d s : List UInt8} (i : Nat) (h : bitB d i = true) : (openN d s i).map byteD ++ (sigY s i).map byteD ++ (shaB (sigX s i)).map byteD = (openN d s (i + 1)).map byteD := by
  unfold openN
  rw [rounds_succ, ← List.map_append, ← List.map_append]
  simp [openF, h]
theorem openN_succ0 {d s : List UInt8} (i : Nat) (h : bitB d i = false) : (openN d s i).map byteD ++ (shaB (sigX s i)).map byteD ++ (sigY s i).map byteD = (openN d s (i + 1)).map byteD := by
  unfold openN
  rw [rounds_succ, ← List.map_append, ← List.map_append]
  simp [openF, h]

theorem opened_ok (b sig : List UInt8) (hb : b.length < 2 ^ 58) :
    LocalCall Try.prog 79 [.d (.sl (b.map byteD)), .d (.sl (sig.map byteD))] [] [] (one [.d (.sl ((openT b sig).map byteD)), .d (.int .i64 (openE sig))]) [] := by
  by_cases hs : sig.length = 16384
  · have c1 := of_ok b hb
    unfold openT openE
    rw [decide_eq_true hs, cond_true, cond_true]
    generalize hd : shaB b = d at c1
    have ld : d.length = 32 := by rw [← hd]; exact shaB_length b
    have ls : ((sig.map byteD).length : Int) = 16384 := by rw [List.length_map, hs]; rfl
    have lo : ∀ i : Nat, i < 256 → (openN d sig i).length = 64 * i + 1 := fun i hi => openN_length d hs (by omega)
    have co : ∀ i : Nat, i < 256 → LocalCall Try.prog 53 [.d (.sl (cutD ((sig.drop (64 * i)).map byteD) 0 32))] [] [] (one [.d (.arr 32 1 ((shaB (sigX sig i)).map byteD))]) [] := fun i hi => by
      rw [sig_x]; exact of_ok _ (by rw [sigX_length hs hi]; decide)
    refine vc_fn mixed Try.func79 rfl rfl [] (vc_chk rfl) ?_
    repeat' (first
        | ((with_reducible refine vc_chk ?_); first | decide +kernel | rfl)
        | (with_reducible refine vc_side0 ?_; rfl)
        | (with_reducible first
             | refine vc_true ?_ | refine vc_true2 ?_ | refine vc_side ?_ ?_ | refine vc_triv | refine vc_later ?_ | refine vc_caseT ?_ | refine vc_caseF ?_ | refine vc_cons ?_ | refine vc_nil ?_ ?_ | refine vc_seq ?_
                | refine vc_region ?_ | refine vc_cond ?_ | refine vc_block ?_ | refine vc_retc ?_ | refine vc_exit ?_ | refine vc_skip ?_ | refine vc_scope ?_ | refine vc_label ?_ | refine vc_goto ?_ | refine vc_wkSl0
                | refine vc_wkHp0 | refine vc_eqAVs0 | refine vc_preG0 | refine vc_wkSl ?_ ?_ | refine vc_wkHp ?_ ?_ | refine vc_eqAVs ?_ ?_ | refine vc_preG ?_ ?_ | refine vc_side0 ?_ | refine vc_pure c1 ?_ ?_ ?_
                | refine vc_callU (bits_ok _) ?_ ?_ | refine vc_pure (co i hi) ?_ ?_ ?_
                | refine vc_range 39 97 7 (.arr 32 1 (d.map byteD)) 256 (fun i => [.int .i64 (i : Int), .bool (bitB d i)]) [(3, .ptr 1000 []), (6, .ptr 4004 [])] (fun i => [(1000, .var (.d (.sl ((sig.drop (64 * i)).map byteD)))), (4004, .var (.sl 9 [] 1 0 ((openN d sig i).map byteD).length)), (9, .row 1 ((openN d sig i).map byteD))]) (fun _ => True) [(9, 4000)] ?_ ?_ ?_ ?_ (bits_seq d ld) (fun _ => ⟨rfl, rfl⟩) ?_ ?_ ?_ ?_ ?_ (fun i hi hI => ?_) (fun hI => ?_)
                | refine vc_endAt [(9, 10016)] 10016 (by with_unfolding_all rfl) trivial ?_ ?_ ?_ | refine vc_endAt [(9, 11016)] 11016 (by with_unfolding_all rfl) trivial ?_ ?_ ?_ | refine vc_ret [true] [] ?_
                | refine vc_weakf [] ?_ ?_ ?_ | refine vc_and ?_ ?_ | refine vc_ret [] [] ?_)
        | ((with_reducible first | refine vc_caseD (fun h => ?_) (fun h => ?_) | refine vc_caseN (fun h => ?_) (fun h => ?_)) <;> try (exfalso; omega))
        | ((with_reducible refine vc_case (fun h => ?_) (fun h => ?_)) <;> (try simp only [Go.Sym.vs1, reduceCtorEq] at h) <;> try (exfalso; first | omega | (simp at h; done)))
        | (conv in Vc _ => arg 1; whnf
           first
            | (with_reducible refine vc_side0 ?_; rfl)
            | (with_reducible first
                | refine vc_true ?_ | refine vc_true2 ?_ | refine vc_side ?_ ?_ | refine vc_triv | refine vc_later ?_ | refine vc_caseT ?_ | refine vc_caseF ?_ | refine vc_cons ?_ | refine vc_nil ?_ ?_ | refine vc_seq ?_
                   | refine vc_region ?_ | refine vc_cond ?_ | refine vc_block ?_ | refine vc_retc ?_ | refine vc_exit ?_ | refine vc_skip ?_ | refine vc_scope ?_ | refine vc_label ?_ | refine vc_goto ?_ | refine vc_wkSl0
                   | refine vc_wkHp0 | refine vc_eqAVs0 | refine vc_preG0 | refine vc_wkSl ?_ ?_ | refine vc_wkHp ?_ ?_ | refine vc_eqAVs ?_ ?_ | refine vc_preG ?_ ?_ | refine vc_side0 ?_ | refine vc_pure c1 ?_ ?_ ?_
                   | refine vc_callU (bits_ok _) ?_ ?_ | refine vc_pure (co i hi) ?_ ?_ ?_
                   | refine vc_range 39 97 7 (.arr 32 1 (d.map byteD)) 256 (fun i => [.int .i64 (i : Int), .bool (bitB d i)]) [(3, .ptr 1000 []), (6, .ptr 4004 [])] (fun i => [(1000, .var (.d (.sl ((sig.drop (64 * i)).map byteD)))), (4004, .var (.sl 9 [] 1 0 ((openN d sig i).map byteD).length)), (9, .row 1 ((openN d sig i).map byteD))]) (fun _ => True) [(9, 4000)] ?_ ?_ ?_ ?_ (bits_seq d ld) (fun _ => ⟨rfl, rfl⟩) ?_ ?_ ?_ ?_ ?_ (fun i hi hI => ?_) (fun hI => ?_)
                   | refine vc_endAt [(9, 10016)] 10016 (by with_unfolding_all rfl) trivial ?_ ?_ ?_ | refine vc_endAt [(9, 11016)] 11016 (by with_unfolding_all rfl) trivial ?_ ?_ ?_ | refine vc_ret [true] [] ?_
                   | refine vc_weakf [] ?_ ?_ ?_ | refine vc_and ?_ ?_ | refine vc_ret [] [] ?_)
            | ((with_reducible first | refine vc_caseD (fun h => ?_) (fun h => ?_) | refine vc_caseN (fun h => ?_) (fun h => ?_)) <;> try (exfalso; omega))
            | ((with_reducible refine vc_case (fun h => ?_) (fun h => ?_)) <;> (try simp only [Go.Sym.vs1, reduceCtorEq] at h) <;> try (exfalso; first | omega | (simp at h; done)))))
    all_goals (try simp only [Int.toNat_natCast, t32s, sig_y])
    all_goals first
      | with_reducible rfl
      | omega
      | trivial
      | (rw [sig_n sig i]; done)
      | (rw [← openN_succ i h]; done)
      | (rw [← openN_succ0 i h]; done)
      | exact ⟨Nat.le_of_eq (Nat.zero_add _), trivial⟩
      | (refine ⟨?_, size_bytes _⟩; rw [List.length_map, List.length_drop]; omega)
      | exact ⟨⟨trivial, trivial, roomJ (by simp only [List.length_append, List.length_map, lo i hi, shaB_length, sigY_length hs hi]; omega)⟩, fun y hy => size_bytes _ y hy⟩
      | exact ⟨⟨⟨trivial, len32 (shaB_length _)⟩, trivial, roomJ (by simp only [List.length_append, List.length_map, lo i hi, shaB_length, sigY_length hs hi]; omega)⟩, fun y hy => size_bytes _ y hy⟩
      | (rw [List.drop_zero, List.take_length]; exact congrArg (fun l => D.sl (List.map byteD l)) (openN_all _ _))
      | rfl
  · have hn : ¬ ((sig.map byteD).length : Int) = 16384 := by rw [List.length_map]; omega
    unfold openT openE
    rw [decide_eq_false hs, cond_false, cond_false]
    have key : LocalCall Try.prog 79 [.d (.sl (b.map byteD)), .d (.sl (sig.map byteD))] [] [] (one [.d .nils, .d (.int .i64 15)]) [] := by
      refine vc_fn mixed Try.func79 rfl rfl [] (vc_chk rfl) ?_
      repeat' (first
          | ((with_reducible refine vc_chk ?_); first | decide +kernel | rfl)
          | (with_reducible refine vc_side0 ?_; rfl)
          | (with_reducible first
               | refine vc_true ?_ | refine vc_true2 ?_ | refine vc_side ?_ ?_ | refine vc_triv | refine vc_later ?_ | refine vc_caseT ?_ | refine vc_caseF ?_ | refine vc_cons ?_ | refine vc_nil ?_ ?_ | refine vc_seq ?_
                  | refine vc_region ?_ | refine vc_cond ?_ | refine vc_block ?_ | refine vc_retc ?_ | refine vc_exit ?_ | refine vc_skip ?_ | refine vc_scope ?_ | refine vc_label ?_ | refine vc_goto ?_ | refine vc_wkSl0
                  | refine vc_wkHp0 | refine vc_eqAVs0 | refine vc_preG0 | refine vc_wkSl ?_ ?_ | refine vc_wkHp ?_ ?_ | refine vc_eqAVs ?_ ?_ | refine vc_preG ?_ ?_ | refine vc_side0 ?_ | refine vc_weakf [] ?_ ?_ ?_
                  | refine vc_and ?_ ?_ | refine vc_ret [] [] ?_)
          | ((with_reducible first | refine vc_caseD (fun h => ?_) (fun h => ?_) | refine vc_caseN (fun h => ?_) (fun h => ?_)) <;> try (exfalso; omega))
          | ((with_reducible refine vc_case (fun h => ?_) (fun h => ?_)) <;> (try simp only [Go.Sym.vs1, reduceCtorEq] at h) <;> try (exfalso; first | omega | (simp at h; done)))
          | (conv in Vc _ => arg 1; whnf
             first
              | (with_reducible refine vc_side0 ?_; rfl)
              | (with_reducible first
                  | refine vc_true ?_ | refine vc_true2 ?_ | refine vc_side ?_ ?_ | refine vc_triv | refine vc_later ?_ | refine vc_caseT ?_ | refine vc_caseF ?_ | refine vc_cons ?_ | refine vc_nil ?_ ?_ | refine vc_seq ?_
                     | refine vc_region ?_ | refine vc_cond ?_ | refine vc_block ?_ | refine vc_retc ?_ | refine vc_exit ?_ | refine vc_skip ?_ | refine vc_scope ?_ | refine vc_label ?_ | refine vc_goto ?_ | refine vc_wkSl0
                     | refine vc_wkHp0 | refine vc_eqAVs0 | refine vc_preG0 | refine vc_wkSl ?_ ?_ | refine vc_wkHp ?_ ?_ | refine vc_eqAVs ?_ ?_ | refine vc_preG ?_ ?_ | refine vc_side0 ?_ | refine vc_weakf [] ?_ ?_ ?_
                     | refine vc_and ?_ ?_ | refine vc_ret [] [] ?_)
              | ((with_reducible first | refine vc_caseD (fun h => ?_) (fun h => ?_) | refine vc_caseN (fun h => ?_) (fun h => ?_)) <;> try (exfalso; omega))
              | ((with_reducible refine vc_case (fun h => ?_) (fun h => ?_)) <;> (try simp only [Go.Sym.vs1, reduceCtorEq] at h) <;> try (exfalso; first | omega | (simp at h; done)))))
      all_goals first | rfl | exact ⟨trivial, trivial, trivial⟩
    exact local_dn key

theorem openT_length (b sig : List UInt8) : (openT b sig).length ≤ 16385 := by
  unfold openT
  by_cases hs : sig.length = 16384
  · rw [decide_eq_true hs, cond_true, openP_length _ hs]; omega
  · rw [decide_eq_false hs, cond_false]; simp

theorem checkE_yes {b sig : List UInt8} (pub : List UInt8) (h : openE sig = 0) : checkE pub b sig = bif decide (shaB (openT b sig) = pub) then 0 else 15 := by
  unfold openE at h
  unfold checkE openT
  by_cases hs : sig.length = 16384
  · rw [decide_eq_true hs, cond_true, Bool.true_and]
  · rw [decide_eq_false hs, cond_false] at h; cases h
theorem checkE_no {b sig : List UInt8} (pub : List UInt8) (h : ¬ openE sig = 0) : checkE pub b sig = 15 ∧ openE sig = 15 := by
  unfold openE at h ⊢
  unfold checkE
  by_cases hs : sig.length = 16384
  · rw [decide_eq_true hs, cond_true] at h; exact absurd rfl h
  · rw [decide_eq_false hs, Bool.false_and]; exact ⟨rfl, rfl⟩

theorem lcheck_ok (pub b sig : List UInt8) (hp : pub.length = 32) (hb : b.length < 2 ^ 58) :
    LocalCall Try.prog 52 [.d (.arr 32 1 (pub.map byteD)), .d (.sl (b.map byteD)), .d (.sl (sig.map byteD))] [] [] (one [.d (.int .i64 (checkE pub b sig))]) [] := by
  have c1 := opened_ok b sig hb
  have c2 := of_ok (openT b sig) (Nat.lt_of_le_of_lt (openT_length _ _) (by decide))
  refine vc_fn mixed Try.func52 rfl rfl [] (vc_chk rfl) ?_
  repeat' (first
      | ((with_reducible refine vc_chk ?_); first | decide +kernel | rfl)
      | (with_reducible refine vc_side0 ?_; rfl)
      | (with_reducible first
           | refine vc_true ?_ | refine vc_true2 ?_ | refine vc_side ?_ ?_ | refine vc_triv | refine vc_later ?_ | refine vc_caseT ?_ | refine vc_caseF ?_ | refine vc_cons ?_ | refine vc_nil ?_ ?_ | refine vc_seq ?_
              | refine vc_region ?_ | refine vc_cond ?_ | refine vc_block ?_ | refine vc_retc ?_ | refine vc_exit ?_ | refine vc_skip ?_ | refine vc_scope ?_ | refine vc_label ?_ | refine vc_goto ?_ | refine vc_wkSl0
              | refine vc_wkHp0 | refine vc_eqAVs0 | refine vc_preG0 | refine vc_wkSl ?_ ?_ | refine vc_wkHp ?_ ?_ | refine vc_eqAVs ?_ ?_ | refine vc_preG ?_ ?_ | refine vc_side0 ?_ | refine vc_pure c1 ?_ ?_ ?_
              | refine vc_pure c2 ?_ ?_ ?_ | refine vc_weakf [] ?_ ?_ ?_ | refine vc_and ?_ ?_ | refine vc_ret [] [] ?_)
      | ((with_reducible first | refine vc_caseD (fun h => ?_) (fun h => ?_) | refine vc_caseN (fun h => ?_) (fun h => ?_)) <;> try (exfalso; omega))
      | ((with_reducible refine vc_case (fun h => ?_) (fun h => ?_)) <;> (try simp only [Go.Sym.vs1, reduceCtorEq] at h) <;> try (exfalso; first | omega | (simp at h; done)))
      | (conv in Vc _ => arg 1; whnf
         first
          | (with_reducible refine vc_side0 ?_; rfl)
          | (with_reducible first
              | refine vc_true ?_ | refine vc_true2 ?_ | refine vc_side ?_ ?_ | refine vc_triv | refine vc_later ?_ | refine vc_caseT ?_ | refine vc_caseF ?_ | refine vc_cons ?_ | refine vc_nil ?_ ?_ | refine vc_seq ?_
                 | refine vc_region ?_ | refine vc_cond ?_ | refine vc_block ?_ | refine vc_retc ?_ | refine vc_exit ?_ | refine vc_skip ?_ | refine vc_scope ?_ | refine vc_label ?_ | refine vc_goto ?_ | refine vc_wkSl0
                 | refine vc_wkHp0 | refine vc_eqAVs0 | refine vc_preG0 | refine vc_wkSl ?_ ?_ | refine vc_wkHp ?_ ?_ | refine vc_eqAVs ?_ ?_ | refine vc_preG ?_ ?_ | refine vc_side0 ?_ | refine vc_pure c1 ?_ ?_ ?_
                 | refine vc_pure c2 ?_ ?_ ?_ | refine vc_weakf [] ?_ ?_ ?_ | refine vc_and ?_ ?_ | refine vc_ret [] [] ?_)
          | ((with_reducible first | refine vc_caseD (fun h => ?_) (fun h => ?_) | refine vc_caseN (fun h => ?_) (fun h => ?_)) <;> try (exfalso; omega))
          | ((with_reducible refine vc_case (fun h => ?_) (fun h => ?_)) <;> (try simp only [Go.Sym.vs1, reduceCtorEq] at h) <;> try (exfalso; first | omega | (simp at h; done)))))
  all_goals (try simp only [beq_dig, cond_true, cond_false, Bool.not_eq_true', Bool.not_eq_false', decide_eq_true_eq, decide_eq_false_iff_not] at *)
  all_goals first
    | exact ⟨fits_dig 6 _, fits_dig 6 _⟩
    | (rw [(checkE_no (b := b) pub h).1, (checkE_no (b := b) pub h).2]; done)
    | (rw [checkE_yes pub (by assumption)]; simp_all; done)

end Go.Proofs.Ytcdjheiccefcdaa

/-
Roots that are followed: plain words.
-/
set_option linter.unusedSimpArgs false
set_option linter.unusedVariables false
namespace Go.Proofs.Ytcdjheiccefcdaa
open Go.Sym
set_option maxRecDepth 10000
set_option maxHeartbeats 1000000

/-- How far a chain was followed. -/
structure Hd where
  epoch : Nat
  root : List UInt8
  key : List UInt8
abbrev hdD (h : Hd) : D := .st [.int .u64 (h.epoch : Int), digD h.root, digD h.key]
def hd0 : Hd := ⟨0, zero32, zero32⟩
def wfH (h : Hd) : Prop := h.epoch < 2 ^ 64 ∧ h.root.length = 32 ∧ h.key.length = 32
theorem wf_hd0 : wfH hd0 := ⟨by decide, rfl, rfl⟩
instance : DecidableEq Hd := fun a b => if h : a.epoch = b.epoch ∧ a.root = b.root ∧ a.key = b.key then isTrue (by cases a; cases b; simp_all) else isFalse (by rintro rfl; exact h ⟨rfl, rfl, rfl⟩)
def wfR (r : Rt) : Prop := r.epoch < 2 ^ 64 ∧ r.prev.length = 32 ∧ r.tree.length = 32 ∧ r.next.length = 32
theorem wfS.wfR {s : Sgn} (h : wfS s) : wfR s.root := ⟨h.1, h.2, h.3, h.4⟩
/-- What is hashed, and signed, of a root. -/
def rootB (r : Rt) : List UInt8 := 82 :: (num8 r.epoch ++ r.prev ++ r.tree ++ r.next)
theorem rootB_length {r : Rt} (h : wfR r) : (rootB r).length = 105 := by
  obtain ⟨_, h1, h2, h3⟩ := h
  simp only [rootB, List.length_cons, List.length_append, num8_length, h1, h2, h3]

/-- Whether a root can be followed; the head behind it. -/
def folE (h : Hd) (s : Sgn) : Int := bif decide (64 ≤ h.epoch) || !decide (s.root.epoch = h.epoch + 1) then 10 else bif !decide (s.root.prev = h.root) || !decide (checkE h.key (rootB s.root) s.sig = 0) then 15 else 0
def folY (s : Sgn) : Hd := ⟨s.root.epoch, shaB (rootB s.root), s.root.next⟩
def folH (h : Hd) (s : Sgn) : Hd := bif decide (folE h s = 0) then folY s else hd0
theorem wf_folY {s : Sgn} (hs : wfS s) : wfH (folY s) := ⟨hs.1, shaB_length _, hs.4⟩
def walk (h : Hd) : List Sgn → Hd × Nat × Int
  | [] => (h, 0, 0)
  | s :: l => bif decide (folE h s = 0) then ((walk (folY s) l).1, (walk (folY s) l).2.1 + 1, (walk (folY s) l).2.2) else (hd0, 0, folE h s)

theorem walk_wf : ∀ (l : List Sgn) (h : Hd), wfH h → (∀ s, s ∈ l → wfS s) → wfH (walk h l).1
  | [], _, hh, _ => hh
  | s :: l, h, hh, hl => by
    unfold walk
    cases decide (folE h s = 0)
    · exact wf_hd0
    · exact walk_wf l _ (wf_folY (hl s (by simp))) fun x hx => hl x (by simp [hx])
/-- A walk seen from a place of it. -/
def walkAt (h : Hd) (l : List Sgn) (g : Hd) (i : Nat) : Prop := walk h l = ((walk g (l.drop i)).1, (walk g (l.drop i)).2.1 + i, (walk g (l.drop i)).2.2)
theorem walkAt_zero (h : Hd) (l : List Sgn) : walkAt h l h 0 := rfl
theorem walkAt_yes {h g : Hd} {l : List Sgn} {i : Nat} (hw : walkAt h l g i) (hi : i < l.length) (he : folE g (l.getD i s0) = 0) : walkAt h l (folY (l.getD i s0)) (i + 1) := by
  unfold walkAt at hw ⊢
  have hd : l.drop i = l.getD i s0 :: l.drop (i + 1) := by
    rw [List.drop_eq_getElem_cons hi, List.getD_eq_getElem?_getD, List.getElem?_eq_getElem hi]; rfl
  rw [hw, hd]
  simp only [walk, he, decide_true, cond_true]
  rw [Nat.add_assoc, Nat.add_comm 1 i]
theorem walkAt_no {h g : Hd} {l : List Sgn} {i : Nat} (hw : walkAt h l g i) (hi : i < l.length) (he : ¬ folE g (l.getD i s0) = 0) : walk h l = (hd0, i, folE g (l.getD i s0)) := by
  unfold walkAt at hw
  have hd : l.drop i = l.getD i s0 :: l.drop (i + 1) := by
    rw [List.drop_eq_getElem_cons hi, List.getD_eq_getElem?_getD, List.getElem?_eq_getElem hi]; rfl
  rw [hw, hd]
  simp only [walk, decide_eq_false he, cond_false, Nat.zero_add]
theorem walkAt_end {h g : Hd} {l : List Sgn} {i : Nat} (hw : walkAt h l g i) (hi : l.length ≤ i) : walk h l = (g, i, 0) := by
  unfold walkAt at hw
  rw [hw, List.drop_eq_nil_of_le hi]
  simp only [walk, Nat.zero_add]

theorem walk_append : ∀ (l m : List Sgn) (h : Hd), walk h (l ++ m) = bif decide ((walk h l).2.2 = 0) then ((walk (walk h l).1 m).1, (walk h l).2.1 + (walk (walk h l).1 m).2.1, (walk (walk h l).1 m).2.2) else walk h l
  | [], m, h => by simp [walk]
  | s :: l, m, h => by
    by_cases he : folE h s = 0
    · simp only [List.cons_append, walk, he, decide_true, cond_true]
      rw [walk_append l m]
      cases decide ((walk (folY s) l).2.2 = 0)
      · rfl
      · simp only [cond_true]; rw [Nat.add_right_comm]
    · simp only [List.cons_append, walk, decide_eq_false he, cond_false]

theorem folE_cases (h : Hd) (s : Sgn) : (64 ≤ h.epoch ∨ ¬ s.root.epoch = h.epoch + 1) ∧ folE h s = 10 ∨ (h.epoch < 64 ∧ s.root.epoch = h.epoch + 1) ∧ ((¬ s.root.prev = h.root ∨ ¬ checkE h.key (rootB s.root) s.sig = 0) ∧ folE h s = 15 ∨ s.root.prev = h.root ∧ checkE h.key (rootB s.root) s.sig = 0 ∧ folE h s = 0) := by
  unfold folE
  by_cases h1 : 64 ≤ h.epoch
  · exact .inl ⟨.inl h1, by rw [decide_eq_true h1]; rfl⟩
  · by_cases h2 : s.root.epoch = h.epoch + 1
    · refine .inr ⟨⟨by omega, h2⟩, ?_⟩
      rw [decide_eq_false h1, decide_eq_true h2]
      by_cases h3 : s.root.prev = h.root
      · by_cases h4 : checkE h.key (rootB s.root) s.sig = 0
        · exact .inr ⟨h3, h4, by rw [decide_eq_true h3, decide_eq_true h4]; rfl⟩
        · exact .inl ⟨.inr h4, by rw [decide_eq_true h3, decide_eq_false h4]; rfl⟩
      · exact .inl ⟨.inl h3, by rw [decide_eq_false h3]; rfl⟩
    · exact .inl ⟨.inr h2, by rw [decide_eq_false h1, decide_eq_false h2]; rfl⟩

end Go.Proofs.Ytcdjheiccefcdaa

/-
Readings of heads and lists of signed roots.
-/
set_option linter.unusedSimpArgs false
set_option linter.unusedVariables false
namespace Go.Proofs.Ytcdjheiccefcdaa
open Go.Sym
set_option maxRecDepth 10000

theorem sgns_in {n : Nat} : ∀ (xs : List D), (∀ y, y ∈ xs → okD Try.prog (n + 5) 30 y) → ∃ l : List Sgn, xs = l.map sD ∧ ∀ s, s ∈ l → wfS s
  | [], _ => ⟨[], rfl, nofun⟩
  | x :: xs, h => by
    obtain ⟨s, rfl, hs⟩ := sgn_of (h x (by simp))
    obtain ⟨l, rfl, hl⟩ := sgns_in xs fun y hy => h y (by simp [hy])
    refine ⟨s :: l, rfl, fun v hv => ?_⟩
    rcases List.mem_cons.1 hv with rfl | hv
    · exact hs
    · exact hl v hv

theorem sgns_of {n : Nat} {x : D} (h : okD Try.prog (n + 6) 24 x) : ∃ l : List Sgn, x = .sl (l.map sD) ∧ (∀ s, s ∈ l → wfS s) ∧ l.length ≤ maxLen := by
  have hu : Try.prog.underlying 24 = some (.slice 30) := rfl
  rw [show n + 6 = (n + 5) + 1 from rfl, okD, hu] at h
  obtain ⟨xs, rfl, hl, hx⟩ := h
  obtain ⟨l, rfl, hs⟩ := sgns_in (n := n) xs hx
  exact ⟨l, rfl, hs, by simpa using hl⟩

end Go.Proofs.Ytcdjheiccefcdaa

/-
A root's bytes; the first key's digest; the head ahead of all epochs; one root followed.
-/
set_option linter.unusedSimpArgs false
set_option linter.unusedVariables false
namespace Go.Proofs.Ytcdjheiccefcdaa
open Go.Sym
set_option maxRecDepth 10000
set_option maxHeartbeats 4000000

theorem cut32c {d : List UInt8} (h : d.length = 32) : cutD (d.map byteD) 0 ((32 : Nat) : Int) = d.map byteD := by
  show List.drop 0 (List.take 32 _) = _
  rw [List.drop_zero, List.take_of_length_le (by rw [List.length_map, h]; exact Nat.le_refl _)]

theorem rootBytes_ok (r : Rt) (hr : wfR r) : LocalCall Try.prog 51 [.d (rootD r)] [] [] (one [.d (.sl ((rootB r).map byteD))]) [] := by
  have c1 := number_ok r.epoch r.epoch rfl
  have ef : (82 : UInt8) :: [num8 r.epoch, r.prev, r.tree, r.next].flatten = rootB r := by simp [rootB]
  have c3 := begin_ok 82 82 rfl [num8 r.epoch, r.prev, r.tree, r.next] (by show 4 < 2 ^ 63; decide) (by rw [ef, rootB_length hr]; decide)
  rw [ef] at c3
  have e1 := cut32c hr.2.1
  have e2 := cut32c hr.2.2.1
  have e3 := cut32c hr.2.2.2
  refine vc_fn mixed Try.func51 rfl rfl [(1, [500001])] (vc_chk rfl) ?_
  repeat' (first
      | ((with_reducible refine vc_chk ?_); first | decide +kernel | rfl)
      | (with_reducible refine vc_side0 ?_; rfl)
      | (with_reducible first
           | refine vc_true ?_ | refine vc_true2 ?_ | refine vc_side ?_ ?_ | refine vc_triv | refine vc_later ?_ | refine vc_caseT ?_ | refine vc_caseF ?_ | refine vc_cons ?_ | refine vc_nil ?_ ?_ | refine vc_seq ?_
              | refine vc_region ?_ | refine vc_cond ?_ | refine vc_block ?_ | refine vc_retc ?_ | refine vc_exit ?_ | refine vc_skip ?_ | refine vc_scope ?_ | refine vc_label ?_ | refine vc_goto ?_ | refine vc_wkSl0
              | refine vc_wkHp0 | refine vc_eqAVs0 | refine vc_preG0 | refine vc_wkSl ?_ ?_ | refine vc_wkHp ?_ ?_ | refine vc_eqAVs ?_ ?_ | refine vc_preG ?_ ?_ | refine vc_side0 ?_ | refine vc_pure c1 ?_ ?_ ?_
              | refine vc_call [false, true] c3 ?_ | refine vc_weakf [] ?_ ?_ ?_ | refine vc_and ?_ ?_ | refine vc_ret [] [] ?_)
      | ((with_reducible first | refine vc_caseD (fun h => ?_) (fun h => ?_) | refine vc_caseN (fun h => ?_) (fun h => ?_)) <;> try (exfalso; omega))
      | ((with_reducible refine vc_case (fun h => ?_) (fun h => ?_)) <;> (try simp only [Go.Sym.vs1, reduceCtorEq] at h) <;> try (exfalso; first | omega | (simp at h; done)))
      | (conv in Vc _ => arg 1; whnf
         first
          | (with_reducible refine vc_side0 ?_; rfl)
          | (with_reducible first
              | refine vc_true ?_ | refine vc_true2 ?_ | refine vc_side ?_ ?_ | refine vc_triv | refine vc_later ?_ | refine vc_caseT ?_ | refine vc_caseF ?_ | refine vc_cons ?_ | refine vc_nil ?_ ?_ | refine vc_seq ?_
                 | refine vc_region ?_ | refine vc_cond ?_ | refine vc_block ?_ | refine vc_retc ?_ | refine vc_exit ?_ | refine vc_skip ?_ | refine vc_scope ?_ | refine vc_label ?_ | refine vc_goto ?_ | refine vc_wkSl0
                 | refine vc_wkHp0 | refine vc_eqAVs0 | refine vc_preG0 | refine vc_wkSl ?_ ?_ | refine vc_wkHp ?_ ?_ | refine vc_eqAVs ?_ ?_ | refine vc_preG ?_ ?_ | refine vc_side0 ?_ | refine vc_pure c1 ?_ ?_ ?_
                 | refine vc_call [false, true] c3 ?_ | refine vc_weakf [] ?_ ?_ ?_ | refine vc_and ?_ ?_ | refine vc_ret [] [] ?_)
          | ((with_reducible first | refine vc_caseD (fun h => ?_) (fun h => ?_) | refine vc_caseN (fun h => ?_) (fun h => ?_)) <;> try (exfalso; omega))
          | ((with_reducible refine vc_case (fun h => ?_) (fun h => ?_)) <;> (try simp only [Go.Sym.vs1, reduceCtorEq] at h) <;> try (exfalso; first | omega | (simp at h; done)))))
  all_goals first
    | with_reducible rfl
    | (show D.sl [.sl ((num8 r.epoch).map byteD), .sl (cutD (r.prev.map byteD) 0 ((32 : Nat) : Int)), .sl (cutD (r.tree.map byteD) 0 ((32 : Nat) : Int)), .sl (cutD (r.next.map byteD) 0 ((32 : Nat) : Int))] = _
       rw [e1, e2, e3]; first | done | rfl)
    | exact ⟨Nat.le_of_eq (Nat.zero_add _), trivial⟩
    | exact ⟨by decide, by decide, by decide⟩
    | rfl
    | skip

theorem rRootBytes_ok (r : Rt) (hr : wfR r) : LocalCall Try.prog 20 [.d (rootD r)] [] [] (one [.d (.sl ((rootB r).map byteD))]) [] := by
  have c1 := rNumber_ok r.epoch r.epoch rfl hr.1
  have ef : (82 : UInt8) :: [num8 r.epoch, r.prev, r.tree, r.next].flatten = rootB r := by simp [rootB]
  have c3 := sign_ok 82 82 rfl [num8 r.epoch, r.prev, r.tree, r.next] (by show 4 < 2 ^ 62; decide) (by rw [ef, rootB_length hr]; decide)
  rw [ef] at c3
  have e1 := cut32c hr.2.1
  have e2 := cut32c hr.2.2.1
  have e3 := cut32c hr.2.2.2
  refine vc_fn mixed Try.func20 rfl rfl [(1, [500001])] (vc_chk rfl) ?_
  repeat' (first
      | ((with_reducible refine vc_chk ?_); first | decide +kernel | rfl)
      | (with_reducible refine vc_side0 ?_; rfl)
      | (with_reducible first
           | refine vc_true ?_ | refine vc_true2 ?_ | refine vc_side ?_ ?_ | refine vc_triv | refine vc_later ?_ | refine vc_caseT ?_ | refine vc_caseF ?_ | refine vc_cons ?_ | refine vc_nil ?_ ?_ | refine vc_seq ?_
              | refine vc_region ?_ | refine vc_cond ?_ | refine vc_block ?_ | refine vc_retc ?_ | refine vc_exit ?_ | refine vc_skip ?_ | refine vc_scope ?_ | refine vc_label ?_ | refine vc_goto ?_ | refine vc_wkSl0
              | refine vc_wkHp0 | refine vc_eqAVs0 | refine vc_preG0 | refine vc_wkSl ?_ ?_ | refine vc_wkHp ?_ ?_ | refine vc_eqAVs ?_ ?_ | refine vc_preG ?_ ?_ | refine vc_side0 ?_ | refine vc_pure c1 ?_ ?_ ?_
              | refine vc_call [false, true] c3 ?_ | refine vc_weakf [] ?_ ?_ ?_ | refine vc_and ?_ ?_ | refine vc_ret [] [] ?_)
      | ((with_reducible first | refine vc_caseD (fun h => ?_) (fun h => ?_) | refine vc_caseN (fun h => ?_) (fun h => ?_)) <;> try (exfalso; omega))
      | ((with_reducible refine vc_case (fun h => ?_) (fun h => ?_)) <;> (try simp only [Go.Sym.vs1, reduceCtorEq] at h) <;> try (exfalso; first | omega | (simp at h; done)))
      | (conv in Vc _ => arg 1; whnf
         first
          | (with_reducible refine vc_side0 ?_; rfl)
          | (with_reducible first
              | refine vc_true ?_ | refine vc_true2 ?_ | refine vc_side ?_ ?_ | refine vc_triv | refine vc_later ?_ | refine vc_caseT ?_ | refine vc_caseF ?_ | refine vc_cons ?_ | refine vc_nil ?_ ?_ | refine vc_seq ?_
                 | refine vc_region ?_ | refine vc_cond ?_ | refine vc_block ?_ | refine vc_retc ?_ | refine vc_exit ?_ | refine vc_skip ?_ | refine vc_scope ?_ | refine vc_label ?_ | refine vc_goto ?_ | refine vc_wkSl0
                 | refine vc_wkHp0 | refine vc_eqAVs0 | refine vc_preG0 | refine vc_wkSl ?_ ?_ | refine vc_wkHp ?_ ?_ | refine vc_eqAVs ?_ ?_ | refine vc_preG ?_ ?_ | refine vc_side0 ?_ | refine vc_pure c1 ?_ ?_ ?_
                 | refine vc_call [false, true] c3 ?_ | refine vc_weakf [] ?_ ?_ ?_ | refine vc_and ?_ ?_ | refine vc_ret [] [] ?_)
          | ((with_reducible first | refine vc_caseD (fun h => ?_) (fun h => ?_) | refine vc_caseN (fun h => ?_) (fun h => ?_)) <;> try (exfalso; omega))
          | ((with_reducible refine vc_case (fun h => ?_) (fun h => ?_)) <;> (try simp only [Go.Sym.vs1, reduceCtorEq] at h) <;> try (exfalso; first | omega | (simp at h; done)))))
  all_goals first
    | with_reducible rfl
    | (show D.sl [.sl ((num8 r.epoch).map byteD), .sl (cutD (r.prev.map byteD) 0 ((32 : Nat) : Int)), .sl (cutD (r.tree.map byteD) 0 ((32 : Nat) : Int)), .sl (cutD (r.next.map byteD) 0 ((32 : Nat) : Int))] = _
       rw [e1, e2, e3]; first | done | rfl)
    | exact ⟨Nat.le_of_eq (Nat.zero_add _), trivial⟩
    | exact ⟨by decide, by decide, by decide⟩
    | rfl
    | skip

theorem rRoot_ok (r : Rt) (hr : wfR r) : LocalCall Try.prog 41 [.d (rootD r)] [] [] (one [.d (digD (shaB (rootB r)))]) [] := by
  have c1 := rRootBytes_ok r hr
  have c2 := rOf_ok (rootB r) (by rw [rootB_length hr]; decide)
  refine vc_fn mixed Try.func41 rfl rfl [] (vc_chk rfl) ?_
  repeat' (first
      | ((with_reducible refine vc_chk ?_); first | decide +kernel | rfl)
      | (with_reducible refine vc_side0 ?_; rfl)
      | (with_reducible first
           | refine vc_true ?_ | refine vc_true2 ?_ | refine vc_side ?_ ?_ | refine vc_triv | refine vc_later ?_ | refine vc_caseT ?_ | refine vc_caseF ?_ | refine vc_cons ?_ | refine vc_nil ?_ ?_ | refine vc_seq ?_
              | refine vc_region ?_ | refine vc_cond ?_ | refine vc_block ?_ | refine vc_retc ?_ | refine vc_exit ?_ | refine vc_skip ?_ | refine vc_scope ?_ | refine vc_label ?_ | refine vc_goto ?_ | refine vc_wkSl0
              | refine vc_wkHp0 | refine vc_eqAVs0 | refine vc_preG0 | refine vc_wkSl ?_ ?_ | refine vc_wkHp ?_ ?_ | refine vc_eqAVs ?_ ?_ | refine vc_preG ?_ ?_ | refine vc_side0 ?_ | refine vc_pure c1 ?_ ?_ ?_
              | refine vc_pure c2 ?_ ?_ ?_ | refine vc_weakf [] ?_ ?_ ?_ | refine vc_and ?_ ?_ | refine vc_ret [] [] ?_)
      | ((with_reducible first | refine vc_caseD (fun h => ?_) (fun h => ?_) | refine vc_caseN (fun h => ?_) (fun h => ?_)) <;> try (exfalso; omega))
      | ((with_reducible refine vc_case (fun h => ?_) (fun h => ?_)) <;> (try simp only [Go.Sym.vs1, reduceCtorEq] at h) <;> try (exfalso; first | omega | (simp at h; done)))
      | (conv in Vc _ => arg 1; whnf
         first
          | (with_reducible refine vc_side0 ?_; rfl)
          | (with_reducible first
              | refine vc_true ?_ | refine vc_true2 ?_ | refine vc_side ?_ ?_ | refine vc_triv | refine vc_later ?_ | refine vc_caseT ?_ | refine vc_caseF ?_ | refine vc_cons ?_ | refine vc_nil ?_ ?_ | refine vc_seq ?_
                 | refine vc_region ?_ | refine vc_cond ?_ | refine vc_block ?_ | refine vc_retc ?_ | refine vc_exit ?_ | refine vc_skip ?_ | refine vc_scope ?_ | refine vc_label ?_ | refine vc_goto ?_ | refine vc_wkSl0
                 | refine vc_wkHp0 | refine vc_eqAVs0 | refine vc_preG0 | refine vc_wkSl ?_ ?_ | refine vc_wkHp ?_ ?_ | refine vc_eqAVs ?_ ?_ | refine vc_preG ?_ ?_ | refine vc_side0 ?_ | refine vc_pure c1 ?_ ?_ ?_
                 | refine vc_pure c2 ?_ ?_ ?_ | refine vc_weakf [] ?_ ?_ ?_ | refine vc_and ?_ ?_ | refine vc_ret [] [] ?_)
          | ((with_reducible first | refine vc_caseD (fun h => ?_) (fun h => ?_) | refine vc_caseN (fun h => ?_) (fun h => ?_)) <;> try (exfalso; omega))
          | ((with_reducible refine vc_case (fun h => ?_) (fun h => ?_)) <;> (try simp only [Go.Sym.vs1, reduceCtorEq] at h) <;> try (exfalso; first | omega | (simp at h; done)))))
  all_goals first
    | with_reducible rfl
    | omega
    | exact ⟨trivial, trivial⟩
    | exact ⟨trivial, trivial, trivial⟩
    | exact ⟨trivial, trivial, trivial, trivial⟩
    | exact ⟨⟨by decide, by decide, by decide⟩, trivial⟩
    | exact ⟨Nat.le_of_eq (Nat.zero_add _), trivial⟩
    | exact ⟨Nat.le_refl _, trivial, trivial⟩
    | (rw [wrap64_id (by omega) (by omega)]; rfl)
    | rfl
    | (exfalso; simp at h; done)
    | skip

/-- The digest of a seed's public key of a number. -/
def pubH (seed : List UInt8) (key : Nat) : List UInt8 := shaB (textP (keyH seed key))
theorem start_ok (pin : List UInt8) : LocalCall Try.prog 28 [.d (.arr 32 1 (pin.map byteD))] [] [] (one [.d (hdD ⟨0, zero32, pin⟩)]) [] := by
  refine vc_fn mixed Try.func28 rfl rfl [] (vc_chk rfl) ?_
  repeat' (first
      | ((with_reducible refine vc_chk ?_); first | decide +kernel | rfl)
      | (with_reducible refine vc_side0 ?_; rfl)
      | (with_reducible first
           | refine vc_true ?_ | refine vc_true2 ?_ | refine vc_side ?_ ?_ | refine vc_triv | refine vc_later ?_ | refine vc_caseT ?_ | refine vc_caseF ?_ | refine vc_cons ?_ | refine vc_nil ?_ ?_ | refine vc_seq ?_
              | refine vc_region ?_ | refine vc_cond ?_ | refine vc_block ?_ | refine vc_retc ?_ | refine vc_exit ?_ | refine vc_skip ?_ | refine vc_scope ?_ | refine vc_label ?_ | refine vc_goto ?_ | refine vc_wkSl0
              | refine vc_wkHp0 | refine vc_eqAVs0 | refine vc_preG0 | refine vc_wkSl ?_ ?_ | refine vc_wkHp ?_ ?_ | refine vc_eqAVs ?_ ?_ | refine vc_preG ?_ ?_ | refine vc_side0 ?_ | refine vc_weakf [] ?_ ?_ ?_
              | refine vc_and ?_ ?_ | refine vc_ret [] [] ?_)
      | ((with_reducible first | refine vc_caseD (fun h => ?_) (fun h => ?_) | refine vc_caseN (fun h => ?_) (fun h => ?_)) <;> try (exfalso; omega))
      | ((with_reducible refine vc_case (fun h => ?_) (fun h => ?_)) <;> (try simp only [Go.Sym.vs1, reduceCtorEq] at h) <;> try (exfalso; first | omega | (simp at h; done)))
      | (conv in Vc _ => arg 1; whnf
         first
          | (with_reducible refine vc_side0 ?_; rfl)
          | (with_reducible first
              | refine vc_true ?_ | refine vc_true2 ?_ | refine vc_side ?_ ?_ | refine vc_triv | refine vc_later ?_ | refine vc_caseT ?_ | refine vc_caseF ?_ | refine vc_cons ?_ | refine vc_nil ?_ ?_ | refine vc_seq ?_
                 | refine vc_region ?_ | refine vc_cond ?_ | refine vc_block ?_ | refine vc_retc ?_ | refine vc_exit ?_ | refine vc_skip ?_ | refine vc_scope ?_ | refine vc_label ?_ | refine vc_goto ?_ | refine vc_wkSl0
                 | refine vc_wkHp0 | refine vc_eqAVs0 | refine vc_preG0 | refine vc_wkSl ?_ ?_ | refine vc_wkHp ?_ ?_ | refine vc_eqAVs ?_ ?_ | refine vc_preG ?_ ?_ | refine vc_side0 ?_ | refine vc_weakf [] ?_ ?_ ?_
                 | refine vc_and ?_ ?_ | refine vc_ret [] [] ?_)
          | ((with_reducible first | refine vc_caseD (fun h => ?_) (fun h => ?_) | refine vc_caseN (fun h => ?_) (fun h => ?_)) <;> try (exfalso; omega))
          | ((with_reducible refine vc_case (fun h => ?_) (fun h => ?_)) <;> (try simp only [Go.Sym.vs1, reduceCtorEq] at h) <;> try (exfalso; first | omega | (simp at h; done)))))
  all_goals first
    | with_reducible rfl
    | omega
    | exact ⟨trivial, trivial⟩
    | exact ⟨trivial, trivial, trivial⟩
    | exact ⟨trivial, trivial, trivial, trivial⟩
    | exact ⟨⟨by decide, by decide, by decide⟩, trivial⟩
    | exact ⟨Nat.le_of_eq (Nat.zero_add _), trivial⟩
    | exact ⟨Nat.le_refl _, trivial, trivial⟩
    | (rw [wrap64_id (by omega) (by omega)]; rfl)
    | rfl
    | (exfalso; simp at h; done)
    | skip

theorem fz6 : List.replicate 32 (D.zero Try.prog 6 5) = zero32.map byteD := rfl
theorem fz7 : List.replicate 32 (D.zero Try.prog 7 5) = zero32.map byteD := rfl

theorem follow_ok (g : Hd) (s : Sgn) (hh : wfH g) (hs : wfS s) : LocalCall Try.prog 29 [.d (hdD g), .d (sD s)] [] [] (one [.d (hdD (folH g s)), .d (.int .i64 (folE g s))]) [] := by
  have c1 := rootBytes_ok s.root hs.wfR
  have lr := rootB_length hs.wfR
  have c2 := lcheck_ok g.key (rootB s.root) s.sig hh.2.2 (by rw [lr]; decide)
  have c3 := of_ok (rootB s.root) (by rw [lr]; decide)
  have hc := folE_cases g s
  have hw : ¬ (g.epoch : Int) ≥ 64 → IntKind.u64.wrap ((g.epoch : Int) + 1) = ((g.epoch + 1 : Nat) : Int) := fun h => by
    rw [wrapU64_id (by omega) (by omega)]; rfl
  refine vc_fn mixed Try.func29 rfl rfl [] (vc_chk rfl) ?_
  repeat' (first
      | ((with_reducible refine vc_chk ?_); first | decide +kernel | rfl)
      | (with_reducible refine vc_side0 ?_; rfl)
      | (with_reducible first
           | refine vc_true ?_ | refine vc_true2 ?_ | refine vc_side ?_ ?_ | refine vc_triv | refine vc_later ?_ | refine vc_caseT ?_ | refine vc_caseF ?_ | refine vc_cons ?_ | refine vc_nil ?_ ?_ | refine vc_seq ?_
              | refine vc_region ?_ | refine vc_cond ?_ | refine vc_block ?_ | refine vc_retc ?_ | refine vc_exit ?_ | refine vc_skip ?_ | refine vc_scope ?_ | refine vc_label ?_ | refine vc_goto ?_ | refine vc_wkSl0
              | refine vc_wkHp0 | refine vc_eqAVs0 | refine vc_preG0 | refine vc_wkSl ?_ ?_ | refine vc_wkHp ?_ ?_ | refine vc_eqAVs ?_ ?_ | refine vc_preG ?_ ?_ | refine vc_side0 ?_ | refine vc_pure c1 ?_ ?_ ?_
              | refine vc_pure c2 ?_ ?_ ?_ | refine vc_pure c3 ?_ ?_ ?_ | refine vc_weakf [] ?_ ?_ ?_ | refine vc_and ?_ ?_ | refine vc_ret [] [] ?_)
      | ((with_reducible first | refine vc_caseD (fun h => ?_) (fun h => ?_) | refine vc_caseN (fun h => ?_) (fun h => ?_)) <;> try (exfalso; omega))
      | ((with_reducible refine vc_case (fun h => ?_) (fun h => ?_)) <;> (try simp only [Go.Sym.vs1, reduceCtorEq] at h) <;> try (exfalso; first | omega | (simp at h; done)))
      | (conv in Vc _ => arg 1; whnf
         first
          | (with_reducible refine vc_side0 ?_; rfl)
          | (with_reducible first
              | refine vc_true ?_ | refine vc_true2 ?_ | refine vc_side ?_ ?_ | refine vc_triv | refine vc_later ?_ | refine vc_caseT ?_ | refine vc_caseF ?_ | refine vc_cons ?_ | refine vc_nil ?_ ?_ | refine vc_seq ?_
                 | refine vc_region ?_ | refine vc_cond ?_ | refine vc_block ?_ | refine vc_retc ?_ | refine vc_exit ?_ | refine vc_skip ?_ | refine vc_scope ?_ | refine vc_label ?_ | refine vc_goto ?_ | refine vc_wkSl0
                 | refine vc_wkHp0 | refine vc_eqAVs0 | refine vc_preG0 | refine vc_wkSl ?_ ?_ | refine vc_wkHp ?_ ?_ | refine vc_eqAVs ?_ ?_ | refine vc_preG ?_ ?_ | refine vc_side0 ?_ | refine vc_pure c1 ?_ ?_ ?_
                 | refine vc_pure c2 ?_ ?_ ?_ | refine vc_pure c3 ?_ ?_ ?_ | refine vc_weakf [] ?_ ?_ ?_ | refine vc_and ?_ ?_ | refine vc_ret [] [] ?_)
          | ((with_reducible first | refine vc_caseD (fun h => ?_) (fun h => ?_) | refine vc_caseN (fun h => ?_) (fun h => ?_)) <;> try (exfalso; omega))
          | ((with_reducible refine vc_case (fun h => ?_) (fun h => ?_)) <;> (try simp only [Go.Sym.vs1, reduceCtorEq] at h) <;> try (exfalso; first | omega | (simp at h; done)))))
  all_goals (try simp only [fz6, fz7, beq_dig, cond_true, cond_false, Bool.not_eq_true', Bool.not_eq_false', decide_eq_true_eq, decide_eq_false_iff_not] at *)
  all_goals (try simp only [hw (by assumption)] at *)
  all_goals first
    | exact ⟨trivial, trivial, trivial⟩
    | exact ⟨trivial, trivial, trivial, trivial⟩
    | exact ⟨fits_dig 6 _, fits_dig 6 _⟩
    | (rcases hc with ⟨q, e⟩ | ⟨⟨q1, q2⟩, ⟨q, e⟩ | ⟨q3, q4, e⟩⟩ <;> first
        | (rw [e]; done)
        | (unfold folH; rw [e]; rfl)
        | (exfalso; omega)
        | (exfalso; rcases q with q | q <;> first | omega | exact absurd (by assumption) q)
        | exact absurd q3 (by assumption)
        | exact absurd q4 (by assumption))
    | skip

end Go.Proofs.Ytcdjheiccefcdaa

/-
Roots followed, one behind the other; the next epoch's root sealed.
-/
set_option linter.unusedSimpArgs false
set_option linter.unusedVariables false
namespace Go.Proofs.Ytcdjheiccefcdaa
open Go.Sym
set_option maxRecDepth 10000
set_option maxHeartbeats 4000000

theorem sgn_at {l : List Sgn} {i : Nat} (hi : i < l.length) : (l.map sD).getD i .nilp = sD (l.getD i s0) := (map_at (f := sD) (d := s0) hi).1
theorem wfS_at {l : List Sgn} (hl : ∀ s, s ∈ l → wfS s) {i : Nat} (hi : i < l.length) : wfS (l.getD i s0) := hl _ (by rw [List.getD_eq_getElem?_getD, List.getElem?_eq_getElem hi]; simp)

theorem walk_ok (g : Hd) (l : List Sgn) (hg : wfH g) (hl : ∀ s, s ∈ l → wfS s) (hm : l.length < 2 ^ 63) : LocalCall Try.prog 27 [.d (hdD g), .d (.sl (l.map sD))] [] [] (one [.d (hdD (walk g l).1), .d (.int .i64 ((walk g l).2.1 : Int)), .d (.int .i64 (walk g l).2.2)]) [] := by
  have fo : ∀ (g : Hd) (i : Nat), i < l.length → wfH g → LocalCall Try.prog 29 [.d (hdD g), .d (sD (l.getD i s0))] [] [] (one [.d (hdD (folH g (l.getD i s0))), .d (.int .i64 (folE g (l.getD i s0)))]) [] := fun g i hi hg => follow_ok g _ hg (wfS_at hl hi)
  have lm : (l.map sD).length = l.length := List.length_map _
  refine vc_fn mixed Try.func27 rfl rfl [] (vc_chk rfl) ?_
  repeat' (first
      | ((with_reducible refine vc_chk ?_); first | decide +kernel | rfl)
      | (with_reducible refine vc_side0 ?_; rfl)
      | (with_reducible first
           | refine vc_true ?_ | refine vc_true2 ?_ | refine vc_side ?_ ?_ | refine vc_triv | refine vc_later ?_ | refine vc_caseT ?_ | refine vc_caseF ?_ | refine vc_cons ?_ | refine vc_nil ?_ ?_ | refine vc_seq ?_
              | refine vc_region ?_ | refine vc_cond ?_ | refine vc_block ?_ | refine vc_retc ?_ | refine vc_exit ?_ | refine vc_skip ?_ | refine vc_scope ?_ | refine vc_label ?_ | refine vc_goto ?_ | refine vc_wkSl0
              | refine vc_wkHp0 | refine vc_eqAVs0 | refine vc_preG0 | refine vc_wkSl ?_ ?_ | refine vc_wkHp ?_ ?_ | refine vc_eqAVs ?_ ?_ | refine vc_preG ?_ ?_ | refine vc_side0 ?_
              | refine vc_loopI 34 (fun (x : Hd × Nat) => [(1, .d (.sl (l.map sD))), (2, .ptr 1000 []), (4, .ptr 1004 []), (11, .d (.int .i64 ((l.map sD).length : Nat))), (12, .d (.int .i64 (x.2 : Int)))]) (fun x => [(1000, .var (.d (hdD x.1))), (1004, .var (.d (hdD hd0)))]) (fun x => l.length - x.2) (fun x => x.2 ≤ l.length ∧ walkAt g l x.1 x.2 ∧ wfH x.1) (g, 0) [] ?_ ?_ ?_ ?_ ?_ (fun x hI => ?_)
              | refine vc_call [] (fo x.1 x.2 (by omega) hI.2.2) ?_ | refine vc_nextI (folY (l.getD x.2 s0), x.2 + 1) [] ?_ ?_ ?_ ?_ ?_ ?_ | refine vc_weakf [] ?_ ?_ ?_ | refine vc_and ?_ ?_ | refine vc_ret [] [] ?_)
      | ((with_reducible first | refine vc_caseD (fun h => ?_) (fun h => ?_) | refine vc_caseN (fun h => ?_) (fun h => ?_)) <;> try (exfalso; omega))
      | ((with_reducible refine vc_case (fun h => ?_) (fun h => ?_)) <;> (try simp only [Go.Sym.vs1, reduceCtorEq] at h) <;> try (exfalso; first | omega | (simp at h; done)))
      | (conv in Vc _ => arg 1; whnf
         first
          | (with_reducible refine vc_side0 ?_; rfl)
          | (with_reducible first
              | refine vc_true ?_ | refine vc_true2 ?_ | refine vc_side ?_ ?_ | refine vc_triv | refine vc_later ?_ | refine vc_caseT ?_ | refine vc_caseF ?_ | refine vc_cons ?_ | refine vc_nil ?_ ?_ | refine vc_seq ?_
                 | refine vc_region ?_ | refine vc_cond ?_ | refine vc_block ?_ | refine vc_retc ?_ | refine vc_exit ?_ | refine vc_skip ?_ | refine vc_scope ?_ | refine vc_label ?_ | refine vc_goto ?_ | refine vc_wkSl0
                 | refine vc_wkHp0 | refine vc_eqAVs0 | refine vc_preG0 | refine vc_wkSl ?_ ?_ | refine vc_wkHp ?_ ?_ | refine vc_eqAVs ?_ ?_ | refine vc_preG ?_ ?_ | refine vc_side0 ?_
                 | refine vc_loopI 34 (fun (x : Hd × Nat) => [(1, .d (.sl (l.map sD))), (2, .ptr 1000 []), (4, .ptr 1004 []), (11, .d (.int .i64 ((l.map sD).length : Nat))), (12, .d (.int .i64 (x.2 : Int)))]) (fun x => [(1000, .var (.d (hdD x.1))), (1004, .var (.d (hdD hd0)))]) (fun x => l.length - x.2) (fun x => x.2 ≤ l.length ∧ walkAt g l x.1 x.2 ∧ wfH x.1) (g, 0) [] ?_ ?_ ?_ ?_ ?_ (fun x hI => ?_)
                 | refine vc_call [] (fo x.1 x.2 (by omega) hI.2.2) ?_ | refine vc_nextI (folY (l.getD x.2 s0), x.2 + 1) [] ?_ ?_ ?_ ?_ ?_ ?_ | refine vc_weakf [] ?_ ?_ ?_ | refine vc_and ?_ ?_ | refine vc_ret [] [] ?_)
          | ((with_reducible first | refine vc_caseD (fun h => ?_) (fun h => ?_) | refine vc_caseN (fun h => ?_) (fun h => ?_)) <;> try (exfalso; omega))
          | ((with_reducible refine vc_case (fun h => ?_) (fun h => ?_)) <;> (try simp only [Go.Sym.vs1, reduceCtorEq] at h) <;> try (exfalso; first | omega | (simp at h; done)))))
  all_goals first
    | with_reducible rfl
    | exact ⟨Nat.zero_le _, walkAt_zero _ _, hg⟩
    | exact ⟨trivial, trivial, trivial, trivial⟩
    | exact ⟨⟨by omega, by omega⟩, by rw [Int.toNat_natCast, sgn_at (by omega)]; rfl⟩
    | (show D.st _ = sD _; simp only [Int.toNat_natCast, sgn_at (show x.2 < l.length by omega)]; rfl)
    | (rw [walkAt_no hI.2.1 (by omega) h]; first | done | rfl)
    | exact ⟨by show x.2 + 1 ≤ l.length; omega, walkAt_yes hI.2.1 (by omega) h, wf_folY (wfS_at hl (by omega))⟩
    | (show l.length - (x.2 + 1) < l.length - x.2; omega)
    | (rw [wrap64_id (by omega) (by omega)]; rfl)
    | (unfold folH; rw [decide_eq_true h]; rfl)
    | (rw [walkAt_end hI.2.1 (by omega)]; first | done | rfl)
    | (rw [walkAt_end hI.2.1 (by omega)]; exact congrArg (D.int .i64) (show ((l.map sD).length : Int) = (x.2 : Int) by omega))
    | rfl
    | trace_state

/-- The next epoch's root, signed. -/
def sealRt (seed : List UInt8) (g : Hd) (tree : List UInt8) : Rt := ⟨g.epoch + 1, g.root, tree, pubH seed (g.epoch + 2)⟩
def sealS (seed : List UInt8) (g : Hd) (tree : List UInt8) : Sgn := ⟨sealRt seed g tree, signP (keyH seed (g.epoch + 1)) (shaB (rootB (sealRt seed g tree)))⟩
def sealE (g : Hd) : Int := bif decide (64 ≤ g.epoch) then 12 else 0
def sealR (seed : List UInt8) (g : Hd) (tree : List UInt8) : Sgn := bif decide (64 ≤ g.epoch) then s0 else sealS seed g tree

end Go.Proofs.Ytcdjheiccefcdaa

/-
What path.Common, path.Cut, path.Under and path.Less do.
-/
set_option linter.unusedSimpArgs false
set_option linter.unusedVariables false
namespace Go.Proofs.Ytcdjheiccefcdaa
open Go.Sym
set_option maxRecDepth 10000

end Go.Proofs.Ytcdjheiccefcdaa

/-
What the references of the path layer do.
-/
set_option linter.unusedSimpArgs false
set_option linter.unusedVariables false
namespace Go.Proofs.Ytcdjheiccefcdaa
open Go.Sym
set_option maxRecDepth 10000
set_option maxHeartbeats 1000000

theorem shr_half (c : UInt8) (j : Nat) : IntKind.i64.wrap (((c.toNat >>> j : Nat) : Int).tdiv 2) = ((c.toNat >>> (j + 1) : Nat) : Int) := by
  have h1 : c.toNat >>> (j + 1) = (c.toNat >>> j) / 2 := Nat.shiftRight_succ _ _
  have h2 : c.toNat >>> j ≤ c.toNat := by rw [Nat.shiftRight_eq_div_pow]; exact Nat.div_le_self _ _
  have h3 := c.toNat_lt
  rw [h1]
  generalize c.toNat >>> j = q at h2
  rw [Int.tdiv_eq_ediv_of_nonneg (by omega), wrap64_id (by omega) (by omega)]; omega

theorem shr_bit (c m : Nat) : (((c >>> m : Nat) : Int).tmod 2 == 1) = c.testBit m := by
  rw [Nat.testBit_eq_decide_div_mod_eq, ← Nat.shiftRight_eq_div_pow]
  generalize c >>> m = q
  rw [Int.tmod_eq_emod_of_nonneg (by omega)]
  rw [Bool.eq_iff_iff]
  simp
  omega

theorem rBit_ok (xs : List D) (bs : List UInt8) (hx : xs = bs.map byteD) (hb : bs.length = 32) (i : Int) : LocalCall Try.prog 47 [.d (.arr 32 1 xs), .d (.int .i64 i)] [] [] (one [.d (.bool (bitI bs i))]) [] := by
  subst hx
  refine vc_fn mixed Try.func47 rfl rfl [] (vc_chk rfl) ?_
  repeat' (first
      | ((with_reducible refine vc_chk ?_); first | decide +kernel | rfl)
      | (with_reducible refine vc_side0 ?_; rfl)
      | (with_reducible first
           | refine vc_true ?_ | refine vc_true2 ?_ | refine vc_side ?_ ?_ | refine vc_triv | refine vc_later ?_ | refine vc_caseT ?_ | refine vc_caseF ?_ | refine vc_cons ?_ | refine vc_nil ?_ ?_ | refine vc_seq ?_
              | refine vc_region ?_ | refine vc_cond ?_ | refine vc_block ?_ | refine vc_retc ?_ | refine vc_exit ?_ | refine vc_skip ?_ | refine vc_scope ?_ | refine vc_label ?_ | refine vc_goto ?_ | refine vc_wkSl0
              | refine vc_wkHp0 | refine vc_eqAVs0 | refine vc_preG0 | refine vc_wkSl ?_ ?_ | refine vc_wkHp ?_ ?_ | refine vc_eqAVs ?_ ?_ | refine vc_preG ?_ ?_ | refine vc_side0 ?_
              | refine vc_loopI 29 (fun (j : Nat) => [(1, .d (.int .i64 i)), (5, .d (.int .i64 (((bs.getD (i.toNat / 8) 0).toNat >>> j : Nat) : Int))), (6, .d (.int .i64 ((7 - j : Nat) : Int)))]) (fun _ => []) (fun j => 7 - j) (fun j => j ≤ 7 - i.toNat % 8) 0 [] ?_ ?_ ?_ ?_ ?_ (fun j hj => ?_)
              | refine vc_nextI (j + 1) [] ?_ ?_ ?_ ?_ ?_ ?_ | refine vc_weakf [] ?_ ?_ ?_ | refine vc_and ?_ ?_ | refine vc_ret [] [] ?_)
      | ((with_reducible first | refine vc_caseD (fun h => ?_) (fun h => ?_) | refine vc_caseN (fun h => ?_) (fun h => ?_)) <;> try (exfalso; omega))
      | ((with_reducible refine vc_case (fun h => ?_) (fun h => ?_)) <;> (try simp at h) <;> try (exfalso; omega))
      | (conv in Vc _ => arg 1; whnf
         first
          | (with_reducible refine vc_side0 ?_; rfl)
          | (with_reducible first
              | refine vc_true ?_ | refine vc_true2 ?_ | refine vc_side ?_ ?_ | refine vc_triv | refine vc_later ?_ | refine vc_caseT ?_ | refine vc_caseF ?_ | refine vc_cons ?_ | refine vc_nil ?_ ?_ | refine vc_seq ?_
                 | refine vc_region ?_ | refine vc_cond ?_ | refine vc_block ?_ | refine vc_retc ?_ | refine vc_exit ?_ | refine vc_skip ?_ | refine vc_scope ?_ | refine vc_label ?_ | refine vc_goto ?_ | refine vc_wkSl0
                 | refine vc_wkHp0 | refine vc_eqAVs0 | refine vc_preG0 | refine vc_wkSl ?_ ?_ | refine vc_wkHp ?_ ?_ | refine vc_eqAVs ?_ ?_ | refine vc_preG ?_ ?_ | refine vc_side0 ?_
                 | refine vc_loopI 29 (fun (j : Nat) => [(1, .d (.int .i64 i)), (5, .d (.int .i64 (((bs.getD (i.toNat / 8) 0).toNat >>> j : Nat) : Int))), (6, .d (.int .i64 ((7 - j : Nat) : Int)))]) (fun _ => []) (fun j => 7 - j) (fun j => j ≤ 7 - i.toNat % 8) 0 [] ?_ ?_ ?_ ?_ ?_ (fun j hj => ?_)
                 | refine vc_nextI (j + 1) [] ?_ ?_ ?_ ?_ ?_ ?_ | refine vc_weakf [] ?_ ?_ ?_ | refine vc_and ?_ ?_ | refine vc_ret [] [] ?_)
          | ((with_reducible first | refine vc_caseD (fun h => ?_) (fun h => ?_) | refine vc_caseN (fun h => ?_) (fun h => ?_)) <;> try (exfalso; omega))
          | ((with_reducible refine vc_case (fun h => ?_) (fun h => ?_)) <;> (try simp at h) <;> try (exfalso; omega))))
  all_goals first | rw [bitI_neg bs (by omega)] | rw [bitI_big bs (by omega)] | skip
  all_goals
    obtain ⟨n, rfl⟩ : ∃ n : Nat, i = n := ⟨i.toNat, by omega⟩
    have hn : n < 256 := by omega
    have hc := (bs.getD (n / 8) 0).toNat_lt
    try simp only [div8 hn, mod8, Int.toNat_natCast, getD_byte (show n / 8 < bs.length by omega)] at *
  all_goals first
    | rfl
    | omega
    | exact ⟨⟨by omega, trivial⟩, rfl⟩
    | (simp only [byteD, D.toInt]; rw [wrap64_id (by omega) (by omega)]; rfl)
    | (rw [shr_half])
    | (rw [wrap64_id (by omega) (by omega)]; congr 1; omega)
    | (obtain rfl : j = 7 - n % 8 := by omega
       rw [bitI_nat bs hn]; exact congrArg D.bool (shr_bit _ _))

end Go.Proofs.Ytcdjheiccefcdaa
