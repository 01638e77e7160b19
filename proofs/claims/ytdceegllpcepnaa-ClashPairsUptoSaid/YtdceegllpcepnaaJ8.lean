import Derived.Test.YtdceegllpcepnaaJ1
import Derived.Test.YtdceegllpcepnaaJ2
import Derived.Test.YtdceegllpcepnaaJ3
import Derived.Test.YtdceegllpcepnaaJ4
import Derived.Test.YtdceegllpcepnaaJ5
import Derived.Test.YtdceegllpcepnaaJ6
import Derived.Test.YtdceegllpcepnaaJ7
set_option linter.unusedSimpArgs false
set_option linter.unusedVariables false
/-
Trees by definition, as the document's answer makes them: halves, roots, what an index has.
-/
set_option linter.unusedSimpArgs false
set_option linter.unusedVariables false
namespace Go.Proofs.Ytdceegllpcepnaa
open Go.Sym
set_option maxRecDepth 10000
set_option maxHeartbeats 4000000

def valsL (l : Lvs) : List (List UInt8) := l.map (·.2)
abbrev lvD (l : Lvs) : D := .st [.sl ((keysL l).map digD), .sl ((valsL l).map digD)]
theorem keysL_length (l : Lvs) : (keysL l).length = l.length := List.length_map _
theorem valsL_length (l : Lvs) : (valsL l).length = l.length := List.length_map _
abbrev lf0 : List UInt8 × List UInt8 := ([], [])
theorem key_at {l : Lvs} {i : Nat} (hi : i < l.length) : ((keysL l).map digD).getD i .nilp = digD (l.getD i lf0).1 := by
  rw [(map_at (f := digD) (d := []) (by rw [keysL_length]; exact hi)).1]
  unfold keysL
  rw [List.getD_eq_getElem?_getD, List.getElem?_map, List.getD_eq_getElem?_getD, List.getElem?_eq_getElem hi]; rfl
theorem val_at {l : Lvs} {i : Nat} (hi : i < l.length) : ((valsL l).map digD).getD i .nilp = digD (l.getD i lf0).2 := by
  rw [(map_at (f := digD) (d := []) (by rw [valsL_length]; exact hi)).1]
  unfold valsL
  rw [List.getD_eq_getElem?_getD, List.getElem?_map, List.getD_eq_getElem?_getD, List.getElem?_eq_getElem hi]; rfl
theorem leaf_wf {l : Lvs} (hw : wfL l) {i : Nat} (hi : i < l.length) : (l.getD i lf0).1.length = 32 ∧ (l.getD i lf0).2.length = 32 := hw _ (by rw [List.getD_eq_getElem?_getD, List.getElem?_eq_getElem hi]; simp)
theorem take_one (l : Lvs) {i : Nat} (hi : i < l.length) : l.take (i + 1) = l.take i ++ [l.getD i lf0] := by
  rw [List.take_add_one, List.getElem?_eq_getElem hi, List.getD_eq_getElem?_getD, List.getElem?_eq_getElem hi]; rfl
theorem room32' {n : Nat} (h : n ≤ 2 ^ 20) : Room n 32 := by unfold Room; omega

theorem half_step1 (l : Lvs) (d : Nat) (on : Bool) {i : Nat} (hi : i < l.length) (h : bitI (l.getD i lf0).1 (d : Int) = on) : halfL (l.take (i + 1)) d on = halfL (l.take i) d on ++ [l.getD i lf0] := by
  unfold halfL
  rw [take_one l hi, List.filter_append, List.filter_cons_of_pos (by rw [h]; simp)]; rfl
theorem half_step0 (l : Lvs) (d : Nat) (on : Bool) {i : Nat} (hi : i < l.length) (h : ¬ bitI (l.getD i lf0).1 (d : Int) = on) : halfL (l.take (i + 1)) d on = halfL (l.take i) d on := by
  unfold halfL
  rw [take_one l hi, List.filter_append, List.filter_cons_of_neg (by simpa using h)]; simp

theorem appK (L : Lvs) (x : List UInt8 × List UInt8) : (keysL L).map digD ++ [digD x.1] = (keysL (L ++ [x])).map digD := by simp [keysL]
theorem appV (L : Lvs) (x : List UInt8 × List UInt8) : (valsL L).map digD ++ [digD x.2] = (valsL (L ++ [x])).map digD := by simp [valsL]

theorem half_ok (l : Lvs) (hw : wfL l) (hl : l.length ≤ 1000) (d : Nat) (on : Bool) : LocalCall Try.prog 42 [.d (lvD l), .d (.int .i64 (d : Int)), .d (.bool on)] [] [] (one [.d (lvD (halfL l d on))]) [] := by
  have lk : ((keysL l).map digD).length = l.length := by rw [List.length_map, keysL_length]
  have lv : ((valsL l).map digD).length = l.length := by rw [List.length_map, valsL_length]
  have hk : ∀ i, (halfL (l.take i) d on).length ≤ 1000 := fun i => Nat.le_trans (halfL_length _ _ _) (by rw [List.length_take]; omega)
  have cb : ∀ i, i < l.length → _ := fun i hi => rBit_ok ((l.getD i lf0).1.map byteD) (l.getD i lf0).1 rfl (leaf_wf hw hi).1 (d : Int)
  refine vc_fn mixed Try.func42 rfl rfl [(500001, [1000000032000000009000002004, 2000000032000000010000002004])] (vc_chk rfl) ?_
  repeat' (first
      | ((with_reducible refine vc_chk ?_); first | decide +kernel | rfl)
      | (with_reducible refine vc_side0 ?_; rfl)
      | (with_reducible first
           | refine vc_true ?_ | refine vc_true2 ?_ | refine vc_side ?_ ?_ | refine vc_triv | refine vc_later ?_ | refine vc_caseT ?_ | refine vc_caseF ?_ | refine vc_cons ?_ | refine vc_nil ?_ ?_ | refine vc_seq ?_
              | refine vc_region ?_ | refine vc_cond ?_ | refine vc_block ?_ | refine vc_retc ?_ | refine vc_exit ?_ | refine vc_skip ?_ | refine vc_scope ?_ | refine vc_label ?_ | refine vc_goto ?_ | refine vc_wkSl0
              | refine vc_wkHp0 | refine vc_eqAVs0 | refine vc_preG0 | refine vc_wkSl ?_ ?_ | refine vc_wkHp ?_ ?_ | refine vc_eqAVs ?_ ?_ | refine vc_preG ?_ ?_ | refine vc_side0 ?_ | refine vc_call [] (cb i (by omega)) ?_
              | refine vc_loopI 47 (fun (i : Nat) => [(1, .d (.int .i64 (d : Int))), (2, .d (.bool on)), (3, .ptr 1000 []), (6, .ptr 1004 []), (7, .ptr 2004 []), (8, .d (.int .i64 (i : Int)))]) (fun i => [(1000, .var (.d (lvD l))), (1004, .var (.d (.st [.nils, .nils]))), (2004, .var (.st [.sl 9 [] 32 0 ((keysL (halfL (l.take i) d on)).map digD).length, .sl 10 [] 32 0 ((valsL (halfL (l.take i) d on)).map digD).length])), (9, .row 32 ((keysL (halfL (l.take i) d on)).map digD)), (10, .row 32 ((valsL (halfL (l.take i) d on)).map digD))]) (fun i => l.length - i) (fun i => i ≤ l.length) 0 [] ?_ ?_ ?_ ?_ ?_ (fun i hI => ?_)
              | refine vc_nextAt (i + 1) [(9, 7032), (10, 8032)] 7032 (by with_unfolding_all rfl) ?_ ?_ ?_ ?_ ?_ ?_ | refine vc_nextI (i + 1) [] ?_ ?_ ?_ ?_ ?_ ?_ | refine vc_ret [true] [] ?_ | refine vc_weakf [] ?_ ?_ ?_
              | refine vc_and ?_ ?_ | refine vc_ret [] [] ?_)
      | ((with_reducible first | refine vc_caseD (fun h => ?_) (fun h => ?_) | refine vc_caseN (fun h => ?_) (fun h => ?_)) <;> try (exfalso; omega))
      | ((with_reducible refine vc_case (fun h => ?_) (fun h => ?_)) <;> (try simp only [Bool.cond_true_left, Bool.cond_false_right, Bool.cond_true_right, Bool.cond_false_left, Bool.and_eq_true, Bool.or_eq_true, Bool.and_eq_false_iff, Bool.or_eq_false_iff, Bool.not_eq_true', Bool.not_eq_false', Bool.not_eq_true, Bool.not_eq_false, Bool.not_not, decide_eq_true_eq, decide_eq_false_iff_not, beq_iff_eq, beq_eq_false_iff_ne, bne_iff_ne, bne_eq_false_iff_eq, ne_eq, Classical.not_not, reduceCtorEq, false_or, or_false, true_and, and_true, Bool.false_eq_true, Bool.true_eq_false] at h) <;> try (exfalso; first | omega | (simp at h; done)))
      | (conv in Vc _ => arg 1; whnf
         first
          | (with_reducible refine vc_side0 ?_; rfl)
          | (with_reducible first
              | refine vc_true ?_ | refine vc_true2 ?_ | refine vc_side ?_ ?_ | refine vc_triv | refine vc_later ?_ | refine vc_caseT ?_ | refine vc_caseF ?_ | refine vc_cons ?_ | refine vc_nil ?_ ?_ | refine vc_seq ?_
                 | refine vc_region ?_ | refine vc_cond ?_ | refine vc_block ?_ | refine vc_retc ?_ | refine vc_exit ?_ | refine vc_skip ?_ | refine vc_scope ?_ | refine vc_label ?_ | refine vc_goto ?_ | refine vc_wkSl0
                 | refine vc_wkHp0 | refine vc_eqAVs0 | refine vc_preG0 | refine vc_wkSl ?_ ?_ | refine vc_wkHp ?_ ?_ | refine vc_eqAVs ?_ ?_ | refine vc_preG ?_ ?_ | refine vc_side0 ?_ | refine vc_call [] (cb i (by omega)) ?_
                 | refine vc_loopI 47 (fun (i : Nat) => [(1, .d (.int .i64 (d : Int))), (2, .d (.bool on)), (3, .ptr 1000 []), (6, .ptr 1004 []), (7, .ptr 2004 []), (8, .d (.int .i64 (i : Int)))]) (fun i => [(1000, .var (.d (lvD l))), (1004, .var (.d (.st [.nils, .nils]))), (2004, .var (.st [.sl 9 [] 32 0 ((keysL (halfL (l.take i) d on)).map digD).length, .sl 10 [] 32 0 ((valsL (halfL (l.take i) d on)).map digD).length])), (9, .row 32 ((keysL (halfL (l.take i) d on)).map digD)), (10, .row 32 ((valsL (halfL (l.take i) d on)).map digD))]) (fun i => l.length - i) (fun i => i ≤ l.length) 0 [] ?_ ?_ ?_ ?_ ?_ (fun i hI => ?_)
                 | refine vc_nextAt (i + 1) [(9, 7032), (10, 8032)] 7032 (by with_unfolding_all rfl) ?_ ?_ ?_ ?_ ?_ ?_ | refine vc_nextI (i + 1) [] ?_ ?_ ?_ ?_ ?_ ?_ | refine vc_ret [true] [] ?_ | refine vc_weakf [] ?_ ?_ ?_
                 | refine vc_and ?_ ?_ | refine vc_ret [] [] ?_)
          | ((with_reducible first | refine vc_caseD (fun h => ?_) (fun h => ?_) | refine vc_caseN (fun h => ?_) (fun h => ?_)) <;> try (exfalso; omega))
          | ((with_reducible refine vc_case (fun h => ?_) (fun h => ?_)) <;> (try simp only [Bool.cond_true_left, Bool.cond_false_right, Bool.cond_true_right, Bool.cond_false_left, Bool.and_eq_true, Bool.or_eq_true, Bool.and_eq_false_iff, Bool.or_eq_false_iff, Bool.not_eq_true', Bool.not_eq_false', Bool.not_eq_true, Bool.not_eq_false, Bool.not_not, decide_eq_true_eq, decide_eq_false_iff_not, beq_iff_eq, beq_eq_false_iff_ne, bne_iff_ne, bne_eq_false_iff_eq, ne_eq, Classical.not_not, reduceCtorEq, false_or, or_false, true_and, and_true, Bool.false_eq_true, Bool.true_eq_false] at h) <;> try (exfalso; first | omega | (simp at h; done)))))
  all_goals (try have hi : i < l.length := (by omega))
  all_goals (try simp only [Int.toNat_natCast, key_at hi, val_at hi])
  all_goals (try simp only [List.drop_zero, List.take_length])
  all_goals first
    | with_reducible rfl
    | omega
    | exact ⟨⟨by omega, by omega⟩, rfl⟩
    | exact ⟨⟨Nat.le_of_eq (Nat.zero_add _), by first | trivial | rfl, room32' (by rw [List.length_append, List.length_map, keysL_length]; have := hk i; show _ + 1 ≤ _; omega)⟩, fun y hy => (by rw [List.mem_singleton.1 hy]; rfl)⟩
    | exact ⟨⟨Nat.le_of_eq (Nat.zero_add _), by first | trivial | rfl, room32' (by rw [List.length_append, List.length_map, valsL_length]; have := hk i; show _ + 1 ≤ _; omega)⟩, fun y hy => (by rw [List.mem_singleton.1 hy]; rfl)⟩
    | (rw [wrap64_id (by omega) (by omega)]; rfl)
    | (rw [half_step1 l d on hi h, ← appK, ← appV]; rfl)
    | (rw [half_step1 l d on hi h, ← appK]; rfl)
    | (rw [half_step1 l d on hi h, ← appV]; rfl)
    | (rw [half_step0 l d on hi h]; first | done | rfl)
    | ((obtain rfl : i = l.length := (by omega)); simp only [List.take_length]; first | done | rfl | exact ⟨Nat.le_of_eq (Nat.zero_add _), trivial⟩ | exact ⟨⟨Nat.le_of_eq (Nat.zero_add _), Nat.le_of_eq (Nat.zero_add _), trivial⟩, trivial⟩)
    | rfl
    | trace_state

theorem getL_none {l : Lvs} {i : Nat} (hl : l.length ≤ i) {idx : List UInt8} (h : ∀ j, j < i → ¬ (l.getD j lf0).1 = idx) (hj : i ≤ l.length) : getL l idx = none := by
  unfold getL
  rw [List.find?_eq_none.2 fun x hx => ?_]; rfl
  obtain ⟨j, hj2, e⟩ := List.getElem_of_mem hx
  have := h j (by omega)
  rw [List.getD_eq_getElem?_getD, List.getElem?_eq_getElem hj2] at this
  simpa [← e] using this
theorem getL_some {l : Lvs} {i : Nat} {idx : List UInt8} (hi : i < l.length) (h : ∀ j, j < i → ¬ (l.getD j lf0).1 = idx) (he : (l.getD i lf0).1 = idx) : getL l idx = some (l.getD i lf0).2 := by
  unfold getL
  have e1 : l.getD i lf0 = l[i] := by rw [List.getD_eq_getElem?_getD, List.getElem?_eq_getElem hi]; rfl
  rw [e1] at he ⊢
  have : l.find? (fun x => decide (x.1 = idx)) = some l[i] := by
    rw [List.find?_eq_some_iff_getElem]
    refine ⟨by simpa using he, i, hi, rfl, fun j hj => ?_⟩
    have := h j hj
    rw [List.getD_eq_getElem?_getD, List.getElem?_eq_getElem (by omega)] at this
    simpa using this
  rw [this]; rfl

/-! Digests compared, as the program does. -/
theorem dgYes {a b : List UInt8} (h : (bif false then !(D.arr (31 + 1) (0 + 1) (a.map byteD)).beq (D.arr (31 + 1) (0 + 1) (b.map byteD)) else (D.arr (31 + 1) (0 + 1) (a.map byteD)).beq (D.arr (31 + 1) (0 + 1) (b.map byteD))) = true) : a = b := by
  have h2 : (D.arr 32 1 (a.map byteD)).beq (D.arr 32 1 (b.map byteD)) = true := h
  rw [beq_dig] at h2
  exact of_decide_eq_true h2
theorem dgNo {a b : List UInt8} (h : (bif false then !(D.arr (31 + 1) (0 + 1) (a.map byteD)).beq (D.arr (31 + 1) (0 + 1) (b.map byteD)) else (D.arr (31 + 1) (0 + 1) (a.map byteD)).beq (D.arr (31 + 1) (0 + 1) (b.map byteD))) = false) : ¬ a = b := by
  have h2 : (D.arr 32 1 (a.map byteD)).beq (D.arr 32 1 (b.map byteD)) = false := h
  rw [beq_dig] at h2
  exact of_decide_eq_false h2
theorem dgDiff {a b : List UInt8} (h : (bif true then !(D.arr (31 + 1) (0 + 1) (a.map byteD)).beq (D.arr (31 + 1) (0 + 1) (b.map byteD)) else (D.arr (31 + 1) (0 + 1) (a.map byteD)).beq (D.arr (31 + 1) (0 + 1) (b.map byteD))) = true) : ¬ a = b := by
  have h2 : (!(D.arr 32 1 (a.map byteD)).beq (D.arr 32 1 (b.map byteD))) = true := h
  rw [beq_dig, Bool.not_eq_true'] at h2
  exact of_decide_eq_false h2
theorem dgSame {a b : List UInt8} (h : (bif true then !(D.arr (31 + 1) (0 + 1) (a.map byteD)).beq (D.arr (31 + 1) (0 + 1) (b.map byteD)) else (D.arr (31 + 1) (0 + 1) (a.map byteD)).beq (D.arr (31 + 1) (0 + 1) (b.map byteD))) = false) : a = b := by
  have h2 : (!(D.arr 32 1 (a.map byteD)).beq (D.arr 32 1 (b.map byteD))) = false := h
  rw [beq_dig, Bool.not_eq_false'] at h2
  exact of_decide_eq_true h2

theorem get_ok (l : Lvs) (hw : wfL l) (hl : l.length ≤ 1000) (idx : List UInt8) (hx : idx.length = 32) : LocalCall Try.prog 21 [.d (lvD l), .d (digD idx)] [] [] (one [.d (digD ((getL l idx).getD zero32)), .d (.bool (getL l idx).isSome)]) [] := by
  have lk : ((keysL l).map digD).length = l.length := by rw [List.length_map, keysL_length]
  have lv : ((valsL l).map digD).length = l.length := by rw [List.length_map, valsL_length]
  refine vc_fn mixed Try.func21 rfl rfl [] (vc_chk rfl) ?_
  repeat' (first
      | ((with_reducible refine vc_chk ?_); first | decide +kernel | rfl)
      | (with_reducible refine vc_side0 ?_; rfl)
      | (with_reducible first
           | refine vc_true ?_ | refine vc_true2 ?_ | refine vc_side ?_ ?_ | refine vc_triv | refine vc_later ?_ | refine vc_caseT ?_ | refine vc_caseF ?_ | refine vc_cons ?_ | refine vc_nil ?_ ?_ | refine vc_seq ?_
              | refine vc_region ?_ | refine vc_cond ?_ | refine vc_block ?_ | refine vc_retc ?_ | refine vc_exit ?_ | refine vc_skip ?_ | refine vc_scope ?_ | refine vc_label ?_ | refine vc_goto ?_ | refine vc_wkSl0
              | refine vc_wkHp0 | refine vc_eqAVs0 | refine vc_preG0 | refine vc_wkSl ?_ ?_ | refine vc_wkHp ?_ ?_ | refine vc_eqAVs ?_ ?_ | refine vc_preG ?_ ?_ | refine vc_side0 ?_
              | refine vc_loopI 27 (fun (i : Nat) => [(2, .ptr 1000 []), (3, .ptr 1004 []), (4, .ptr 1008 []), (6, .d (.int .i64 (i : Int)))]) (fun i => [(1000, .var (.d (lvD l))), (1004, .var (.d (digD idx))), (1008, .var (.d (digD zero32)))]) (fun i => l.length - i) (fun i => i ≤ l.length ∧ ∀ j, j < i → ¬ (l.getD j lf0).1 = idx) 0 [] ?_ ?_ ?_ ?_ ?_ (fun i hI => ?_)
              | refine vc_nextI (i + 1) [] ?_ ?_ ?_ ?_ ?_ ?_ | refine vc_weakf [] ?_ ?_ ?_ | refine vc_and ?_ ?_ | refine vc_ret [] [] ?_)
      | ((with_reducible first | refine vc_caseD (fun h => ?_) (fun h => ?_) | refine vc_caseN (fun h => ?_) (fun h => ?_)) <;> try (exfalso; omega))
      | ((with_reducible refine vc_case (fun h => ?_) (fun h => ?_)) <;> (try simp only [Bool.cond_true_left, Bool.cond_false_right, Bool.cond_true_right, Bool.cond_false_left, Bool.and_eq_true, Bool.or_eq_true, Bool.and_eq_false_iff, Bool.or_eq_false_iff, Bool.not_eq_true', Bool.not_eq_false', Bool.not_eq_true, Bool.not_eq_false, Bool.not_not, decide_eq_true_eq, decide_eq_false_iff_not, beq_iff_eq, beq_eq_false_iff_ne, bne_iff_ne, bne_eq_false_iff_eq, ne_eq, Classical.not_not, reduceCtorEq, false_or, or_false, true_and, and_true, Bool.false_eq_true, Bool.true_eq_false] at h) <;> try (exfalso; first | omega | (simp at h; done)))
      | (conv in Vc _ => arg 1; whnf
         first
          | (with_reducible refine vc_side0 ?_; rfl)
          | (with_reducible first
              | refine vc_true ?_ | refine vc_true2 ?_ | refine vc_side ?_ ?_ | refine vc_triv | refine vc_later ?_ | refine vc_caseT ?_ | refine vc_caseF ?_ | refine vc_cons ?_ | refine vc_nil ?_ ?_ | refine vc_seq ?_
                 | refine vc_region ?_ | refine vc_cond ?_ | refine vc_block ?_ | refine vc_retc ?_ | refine vc_exit ?_ | refine vc_skip ?_ | refine vc_scope ?_ | refine vc_label ?_ | refine vc_goto ?_ | refine vc_wkSl0
                 | refine vc_wkHp0 | refine vc_eqAVs0 | refine vc_preG0 | refine vc_wkSl ?_ ?_ | refine vc_wkHp ?_ ?_ | refine vc_eqAVs ?_ ?_ | refine vc_preG ?_ ?_ | refine vc_side0 ?_
                 | refine vc_loopI 27 (fun (i : Nat) => [(2, .ptr 1000 []), (3, .ptr 1004 []), (4, .ptr 1008 []), (6, .d (.int .i64 (i : Int)))]) (fun i => [(1000, .var (.d (lvD l))), (1004, .var (.d (digD idx))), (1008, .var (.d (digD zero32)))]) (fun i => l.length - i) (fun i => i ≤ l.length ∧ ∀ j, j < i → ¬ (l.getD j lf0).1 = idx) 0 [] ?_ ?_ ?_ ?_ ?_ (fun i hI => ?_)
                 | refine vc_nextI (i + 1) [] ?_ ?_ ?_ ?_ ?_ ?_ | refine vc_weakf [] ?_ ?_ ?_ | refine vc_and ?_ ?_ | refine vc_ret [] [] ?_)
          | ((with_reducible first | refine vc_caseD (fun h => ?_) (fun h => ?_) | refine vc_caseN (fun h => ?_) (fun h => ?_)) <;> try (exfalso; omega))
          | ((with_reducible refine vc_case (fun h => ?_) (fun h => ?_)) <;> (try simp only [Bool.cond_true_left, Bool.cond_false_right, Bool.cond_true_right, Bool.cond_false_left, Bool.and_eq_true, Bool.or_eq_true, Bool.and_eq_false_iff, Bool.or_eq_false_iff, Bool.not_eq_true', Bool.not_eq_false', Bool.not_eq_true, Bool.not_eq_false, Bool.not_not, decide_eq_true_eq, decide_eq_false_iff_not, beq_iff_eq, beq_eq_false_iff_ne, bne_iff_ne, bne_eq_false_iff_eq, ne_eq, Classical.not_not, reduceCtorEq, false_or, or_false, true_and, and_true, Bool.false_eq_true, Bool.true_eq_false] at h) <;> try (exfalso; first | omega | (simp at h; done)))))
  all_goals (try have hi : i < l.length := (by omega))
  all_goals (try simp only [Int.toNat_natCast, key_at hi, val_at hi] at h ⊢)
  all_goals first
    | with_reducible rfl
    | omega
    | exact ⟨Nat.zero_le _, fun j hj => absurd hj (Nat.not_lt_zero j)⟩
    | exact ⟨⟨by omega, by omega⟩, rfl⟩
    | exact ⟨fits_dig 6 _, fits_dig 6 _⟩
    | exact ⟨trivial, trivial, trivial⟩
    | (rw [getL_some hi hI.2 (dgYes h)]; rfl)
    | exact ⟨by omega, fun j hj => (Nat.lt_succ_iff_lt_or_eq.1 hj).elim (hI.2 j) (fun q => by rw [q]; exact dgNo h)⟩
    | (rw [wrap64_id (by omega) (by omega)]; rfl)
    | (rw [getL_none (i := i) (by omega) hI.2 hI.1]; rfl)
    | rfl
    | trace_state

theorem rootF_nil (n d : Nat) {l : Lvs} (h : l.length = 0) : rootF (n + 1) d l = shaB emptyB := by
  match l, h with
  | [], _ => rfl
theorem rootF_one (n d : Nat) {l : Lvs} (h : l.length = 1) : rootF (n + 1) d l = shaB (leafB (l.getD 0 lf0).1 (l.getD 0 lf0).2) := by
  match l, h with
  | [x], _ => rfl
theorem root_small (n d : Nat) (l : Lvs) (h1 : l.length ≤ 1) (hw : wfL l) : LocalCall Try.prog 20 [.d (lvD l), .d (.int .i64 (d : Int))] [] [] (one [.d (digD (rootF (n + 1) d l))]) [] := by
  have lk : ((keysL l).map digD).length = l.length := by rw [List.length_map, keysL_length]
  have lv : ((valsL l).map digD).length = l.length := by rw [List.length_map, valsL_length]
  have c0 := rEmpty_ok
  have c1 : 0 < l.length → _ := fun h => rLeaf_ok (l.getD 0 lf0).1 (l.getD 0 lf0).2 (leaf_wf hw h).1 (leaf_wf hw h).2
  refine vc_fn mixed Try.func20 rfl rfl [] (vc_chk rfl) ?_
  repeat' (first
      | ((with_reducible refine vc_chk ?_); first | decide +kernel | rfl)
      | (with_reducible refine vc_side0 ?_; rfl)
      | (with_reducible first
           | refine vc_true ?_ | refine vc_true2 ?_ | refine vc_side ?_ ?_ | refine vc_triv | refine vc_later ?_ | refine vc_caseT ?_ | refine vc_caseF ?_ | refine vc_cons ?_ | refine vc_nil ?_ ?_ | refine vc_seq ?_
              | refine vc_region ?_ | refine vc_cond ?_ | refine vc_block ?_ | refine vc_retc ?_ | refine vc_exit ?_ | refine vc_skip ?_ | refine vc_scope ?_ | refine vc_label ?_ | refine vc_goto ?_ | refine vc_wkSl0
              | refine vc_wkHp0 | refine vc_eqAVs0 | refine vc_preG0 | refine vc_wkSl ?_ ?_ | refine vc_wkHp ?_ ?_ | refine vc_eqAVs ?_ ?_ | refine vc_preG ?_ ?_ | refine vc_side0 ?_ | refine vc_pure c0 ?_ ?_ ?_
              | refine vc_call [] (c1 (by omega)) ?_ | refine vc_weakf [] ?_ ?_ ?_ | refine vc_and ?_ ?_ | refine vc_ret [] [] ?_)
      | ((with_reducible first | refine vc_caseD (fun h => ?_) (fun h => ?_) | refine vc_caseN (fun h => ?_) (fun h => ?_)) <;> try (exfalso; omega))
      | ((with_reducible refine vc_case (fun h => ?_) (fun h => ?_)) <;> (try simp only [Bool.cond_true_left, Bool.cond_false_right, Bool.cond_true_right, Bool.cond_false_left, Bool.and_eq_true, Bool.or_eq_true, Bool.and_eq_false_iff, Bool.or_eq_false_iff, Bool.not_eq_true', Bool.not_eq_false', Bool.not_eq_true, Bool.not_eq_false, Bool.not_not, decide_eq_true_eq, decide_eq_false_iff_not, beq_iff_eq, beq_eq_false_iff_ne, bne_iff_ne, bne_eq_false_iff_eq, ne_eq, Classical.not_not, reduceCtorEq, false_or, or_false, true_and, and_true, Bool.false_eq_true, Bool.true_eq_false] at h) <;> try (exfalso; first | omega | (simp at h; done)))
      | (conv in Vc _ => arg 1; whnf
         first
          | (with_reducible refine vc_side0 ?_; rfl)
          | (with_reducible first
              | refine vc_true ?_ | refine vc_true2 ?_ | refine vc_side ?_ ?_ | refine vc_triv | refine vc_later ?_ | refine vc_caseT ?_ | refine vc_caseF ?_ | refine vc_cons ?_ | refine vc_nil ?_ ?_ | refine vc_seq ?_
                 | refine vc_region ?_ | refine vc_cond ?_ | refine vc_block ?_ | refine vc_retc ?_ | refine vc_exit ?_ | refine vc_skip ?_ | refine vc_scope ?_ | refine vc_label ?_ | refine vc_goto ?_ | refine vc_wkSl0
                 | refine vc_wkHp0 | refine vc_eqAVs0 | refine vc_preG0 | refine vc_wkSl ?_ ?_ | refine vc_wkHp ?_ ?_ | refine vc_eqAVs ?_ ?_ | refine vc_preG ?_ ?_ | refine vc_side0 ?_ | refine vc_pure c0 ?_ ?_ ?_
                 | refine vc_call [] (c1 (by omega)) ?_ | refine vc_weakf [] ?_ ?_ ?_ | refine vc_and ?_ ?_ | refine vc_ret [] [] ?_)
          | ((with_reducible first | refine vc_caseD (fun h => ?_) (fun h => ?_) | refine vc_caseN (fun h => ?_) (fun h => ?_)) <;> try (exfalso; omega))
          | ((with_reducible refine vc_case (fun h => ?_) (fun h => ?_)) <;> (try simp only [Bool.cond_true_left, Bool.cond_false_right, Bool.cond_true_right, Bool.cond_false_left, Bool.and_eq_true, Bool.or_eq_true, Bool.and_eq_false_iff, Bool.or_eq_false_iff, Bool.not_eq_true', Bool.not_eq_false', Bool.not_eq_true, Bool.not_eq_false, Bool.not_not, decide_eq_true_eq, decide_eq_false_iff_not, beq_iff_eq, beq_eq_false_iff_ne, bne_iff_ne, bne_eq_false_iff_eq, ne_eq, Classical.not_not, reduceCtorEq, false_or, or_false, true_and, and_true, Bool.false_eq_true, Bool.true_eq_false] at h) <;> try (exfalso; first | omega | (simp at h; done)))))
  all_goals (try have hi : 0 < l.length := (by omega))
  all_goals (try simp only [show Int.toNat 0 = 0 from rfl, key_at hi, val_at hi])
  all_goals first
    | with_reducible rfl
    | (exfalso; omega)
    | (rw [rootF_nil n d (by omega)]; done)
    | (rw [rootF_one n d (by omega)]; done)
    | exact ⟨⟨by omega, by omega⟩, rfl⟩
    | rfl
    | trace_state

theorem root_ok : ∀ (n d : Nat) (l : Lvs), d + n = 256 → wfL l → (keysL l).Nodup → agree l d → l.length ≤ 1000 → LocalCall Try.prog 20 [.d (lvD l), .d (.int .i64 (d : Int))] [] [] (one [.d (digD (rootF (n + 1) d l))]) [] := by
  intro n
  induction n with
  | zero =>
    intro d l hd hw hn ha hl
    have h1 : l.length ≤ 1 := agree_all hw hn fun x y hx hy j hj => ha x y hx hy j (by omega)
    exact root_small 0 d l h1 hw
  | succ n ih =>
    intro d l hd hw hn ha hl
    by_cases h1 : l.length ≤ 1
    · exact root_small (n + 1) d l h1 hw
    have hd2 := deep hw hn ha h1
    have lk : ((keysL l).map digD).length = l.length := by rw [List.length_map, keysL_length]
    have c0 := half_ok l hw hl d false
    have c1 := half_ok l hw hl d true
    have r0 := ih (d + 1) (halfL l d false) (by omega) (halfL_wf hw d _) (halfL_nodup hn d _) (agree_half ha hd2 _) (Nat.le_trans (halfL_length _ _ _) hl)
    have r1 := ih (d + 1) (halfL l d true) (by omega) (halfL_wf hw d _) (halfL_nodup hn d _) (agree_half ha hd2 _) (Nat.le_trans (halfL_length _ _ _) hl)
    have cn := rNode_ok (rootF (n + 1) (d + 1) (halfL l d false)) (rootF (n + 1) (d + 1) (halfL l d true)) (rootF_length _ _ _) (rootF_length _ _ _)
    have wd : IntKind.i64.wrap ((d : Int) + 1) = ((d + 1 : Nat) : Int) := by rw [wrap64_id (by omega) (by omega)]; rfl
    rw [← wd] at r0 r1
    rw [rootF_two (n + 1) d (by omega)]
    refine vc_fn mixed Try.func20 rfl rfl [] (vc_chk rfl) ?_
    repeat' (first
        | ((with_reducible refine vc_chk ?_); first | decide +kernel | rfl)
        | (with_reducible refine vc_side0 ?_; rfl)
        | (with_reducible first
             | refine vc_true ?_ | refine vc_true2 ?_ | refine vc_side ?_ ?_ | refine vc_triv | refine vc_later ?_ | refine vc_caseT ?_ | refine vc_caseF ?_ | refine vc_cons ?_ | refine vc_nil ?_ ?_ | refine vc_seq ?_
                | refine vc_region ?_ | refine vc_cond ?_ | refine vc_block ?_ | refine vc_retc ?_ | refine vc_exit ?_ | refine vc_skip ?_ | refine vc_scope ?_ | refine vc_label ?_ | refine vc_goto ?_ | refine vc_wkSl0
                | refine vc_wkHp0 | refine vc_eqAVs0 | refine vc_preG0 | refine vc_wkSl ?_ ?_ | refine vc_wkHp ?_ ?_ | refine vc_eqAVs ?_ ?_ | refine vc_preG ?_ ?_ | refine vc_side0 ?_ | refine vc_pure c0 ?_ ?_ ?_
                | refine vc_pure c1 ?_ ?_ ?_ | refine vc_pure r0 ?_ ?_ ?_ | refine vc_pure r1 ?_ ?_ ?_ | refine vc_pure cn ?_ ?_ ?_ | refine vc_weakf [] ?_ ?_ ?_ | refine vc_and ?_ ?_ | refine vc_ret [] [] ?_)
        | ((with_reducible first | refine vc_caseD (fun h => ?_) (fun h => ?_) | refine vc_caseN (fun h => ?_) (fun h => ?_)) <;> try (exfalso; omega))
        | ((with_reducible refine vc_case (fun h => ?_) (fun h => ?_)) <;> (try simp only [Bool.cond_true_left, Bool.cond_false_right, Bool.cond_true_right, Bool.cond_false_left, Bool.and_eq_true, Bool.or_eq_true, Bool.and_eq_false_iff, Bool.or_eq_false_iff, Bool.not_eq_true', Bool.not_eq_false', Bool.not_eq_true, Bool.not_eq_false, Bool.not_not, decide_eq_true_eq, decide_eq_false_iff_not, beq_iff_eq, beq_eq_false_iff_ne, bne_iff_ne, bne_eq_false_iff_eq, ne_eq, Classical.not_not, reduceCtorEq, false_or, or_false, true_and, and_true, Bool.false_eq_true, Bool.true_eq_false] at h) <;> try (exfalso; first | omega | (simp at h; done)))
        | (conv in Vc _ => arg 1; whnf
           first
            | (with_reducible refine vc_side0 ?_; rfl)
            | (with_reducible first
                | refine vc_true ?_ | refine vc_true2 ?_ | refine vc_side ?_ ?_ | refine vc_triv | refine vc_later ?_ | refine vc_caseT ?_ | refine vc_caseF ?_ | refine vc_cons ?_ | refine vc_nil ?_ ?_ | refine vc_seq ?_
                   | refine vc_region ?_ | refine vc_cond ?_ | refine vc_block ?_ | refine vc_retc ?_ | refine vc_exit ?_ | refine vc_skip ?_ | refine vc_scope ?_ | refine vc_label ?_ | refine vc_goto ?_ | refine vc_wkSl0
                   | refine vc_wkHp0 | refine vc_eqAVs0 | refine vc_preG0 | refine vc_wkSl ?_ ?_ | refine vc_wkHp ?_ ?_ | refine vc_eqAVs ?_ ?_ | refine vc_preG ?_ ?_ | refine vc_side0 ?_ | refine vc_pure c0 ?_ ?_ ?_
                   | refine vc_pure c1 ?_ ?_ ?_ | refine vc_pure r0 ?_ ?_ ?_ | refine vc_pure r1 ?_ ?_ ?_ | refine vc_pure cn ?_ ?_ ?_ | refine vc_weakf [] ?_ ?_ ?_ | refine vc_and ?_ ?_ | refine vc_ret [] [] ?_)
            | ((with_reducible first | refine vc_caseD (fun h => ?_) (fun h => ?_) | refine vc_caseN (fun h => ?_) (fun h => ?_)) <;> try (exfalso; omega))
            | ((with_reducible refine vc_case (fun h => ?_) (fun h => ?_)) <;> (try simp only [Bool.cond_true_left, Bool.cond_false_right, Bool.cond_true_right, Bool.cond_false_left, Bool.and_eq_true, Bool.or_eq_true, Bool.and_eq_false_iff, Bool.or_eq_false_iff, Bool.not_eq_true', Bool.not_eq_false', Bool.not_eq_true, Bool.not_eq_false, Bool.not_not, decide_eq_true_eq, decide_eq_false_iff_not, beq_iff_eq, beq_eq_false_iff_ne, bne_iff_ne, bne_eq_false_iff_eq, ne_eq, Classical.not_not, reduceCtorEq, false_or, or_false, true_and, and_true, Bool.false_eq_true, Bool.true_eq_false] at h) <;> try (exfalso; first | omega | (simp at h; done)))))
    all_goals first
      | with_reducible rfl
      | (exfalso; omega)
      | rfl
      | trace_state

end Go.Proofs.Ytdceegllpcepnaa
