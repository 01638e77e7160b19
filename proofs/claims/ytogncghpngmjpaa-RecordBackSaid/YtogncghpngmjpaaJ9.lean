import Derived.Test.YtogncghpngmjpaaJ1
import Derived.Test.YtogncghpngmjpaaJ2
import Derived.Test.YtogncghpngmjpaaJ3
import Derived.Test.YtogncghpngmjpaaJ4
import Derived.Test.YtogncghpngmjpaaJ5
import Derived.Test.YtogncghpngmjpaaJ6
import Derived.Test.YtogncghpngmjpaaJ7
import Derived.Test.YtogncghpngmjpaaJ8
set_option linter.unusedSimpArgs false
set_option linter.unusedVariables false
/-
What the laws of the record layer return.
-/
set_option linter.unusedSimpArgs false
set_option linter.unusedVariables false
namespace Go.Proofs.Ytogncghpngmjpaa
open Go.Sym
set_option maxRecDepth 10000
set_option maxHeartbeats 8000000

def annB : List UInt8 := [3, 97, 110, 110, 1, 107, 1]
theorem ex_write : bndB ⟨[97, 110, 110], [107], 1⟩ = annB := by
  simp only [bndB, textB, List.length_cons, List.length_nil]
  rw [numB_small (by decide), numB_small (by decide)]; rfl
theorem ex_read : toFin annB.length (rdBnd annB) = some ⟨[97, 110, 110], [107], 1⟩ := by decide +kernel
theorem ex_check : checkI [65, 110, 110] [107] = 4 := by decide +kernel

theorem works_ok : LocalCall Try.prog 13 [] [] [] (one [.d (.bool true)]) [] := by
  have c1 := bndW ⟨[97, 110, 110], [107], 1⟩ (by decide) (by rw [ex_write]; decide)
  rw [ex_write] at c1
  have c2 := bind_ok (annB.map byteD) annB rfl (by decide) _ ex_read
  have c3 := check_at [65, 110, 110] [107] 0 (by decide)
  rw [ex_check] at c3
  refine vc_fn mixed Try.func13 rfl rfl [] (vc_chk rfl) ?_
  repeat' (first
      | ((with_reducible refine vc_chk ?_); first | decide +kernel | rfl)
      | (with_reducible refine vc_side0 ?_; rfl)
      | (with_reducible first
           | refine vc_true ?_ | refine vc_true2 ?_ | refine vc_side ?_ ?_ | refine vc_triv | refine vc_later ?_ | refine vc_caseT ?_ | refine vc_caseF ?_ | refine vc_cons ?_ | refine vc_nil ?_ ?_ | refine vc_seq ?_
              | refine vc_region ?_ | refine vc_cond ?_ | refine vc_block ?_ | refine vc_retc ?_ | refine vc_exit ?_ | refine vc_skip ?_ | refine vc_scope ?_ | refine vc_label ?_ | refine vc_goto ?_ | refine vc_wkSl0
              | refine vc_wkHp0 | refine vc_eqAVs0 | refine vc_preG0 | refine vc_wkSl ?_ ?_ | refine vc_wkHp ?_ ?_ | refine vc_eqAVs ?_ ?_ | refine vc_preG ?_ ?_ | refine vc_side0 ?_ | refine vc_pure c2 ?_ ?_ ?_
              | refine vc_call [true] c1 ?_ | refine vc_call [true] c3 ?_ | refine vc_weakf [] ?_ ?_ ?_ | refine vc_and ?_ ?_ | refine vc_ret [] [] ?_)
      | ((with_reducible first | refine vc_caseD (fun h => ?_) (fun h => ?_) | refine vc_caseN (fun h => ?_) (fun h => ?_)) <;> try (exfalso; omega))
      | ((with_reducible refine vc_case (fun h => ?_) (fun h => ?_)) <;> (try simp only [Bool.cond_true_left, Bool.cond_false_right, Bool.cond_true_right, Bool.cond_false_left, Bool.and_eq_true, Bool.or_eq_true, Bool.and_eq_false_iff, Bool.or_eq_false_iff, Bool.not_eq_true', Bool.not_eq_false', Bool.not_eq_true, Bool.not_eq_false, Bool.not_not, decide_eq_true_eq, decide_eq_false_iff_not, beq_iff_eq, beq_eq_false_iff_ne, bne_iff_ne, bne_eq_false_iff_eq, ne_eq, Classical.not_not, reduceCtorEq, false_or, or_false, true_and, and_true, Bool.false_eq_true, Bool.true_eq_false] at h) <;> try (exfalso; first | omega | (simp at h; done)))
      | (conv in Vc _ => arg 1; whnf
         first
          | (with_reducible refine vc_side0 ?_; rfl)
          | (with_reducible first
              | refine vc_true ?_ | refine vc_true2 ?_ | refine vc_side ?_ ?_ | refine vc_triv | refine vc_later ?_ | refine vc_caseT ?_ | refine vc_caseF ?_ | refine vc_cons ?_ | refine vc_nil ?_ ?_ | refine vc_seq ?_
                 | refine vc_region ?_ | refine vc_cond ?_ | refine vc_block ?_ | refine vc_retc ?_ | refine vc_exit ?_ | refine vc_skip ?_ | refine vc_scope ?_ | refine vc_label ?_ | refine vc_goto ?_ | refine vc_wkSl0
                 | refine vc_wkHp0 | refine vc_eqAVs0 | refine vc_preG0 | refine vc_wkSl ?_ ?_ | refine vc_wkHp ?_ ?_ | refine vc_eqAVs ?_ ?_ | refine vc_preG ?_ ?_ | refine vc_side0 ?_ | refine vc_pure c2 ?_ ?_ ?_
                 | refine vc_call [true] c1 ?_ | refine vc_call [true] c3 ?_ | refine vc_weakf [] ?_ ?_ ?_ | refine vc_and ?_ ?_ | refine vc_ret [] [] ?_)
          | ((with_reducible first | refine vc_caseD (fun h => ?_) (fun h => ?_) | refine vc_caseN (fun h => ?_) (fun h => ?_)) <;> try (exfalso; omega))
          | ((with_reducible refine vc_case (fun h => ?_) (fun h => ?_)) <;> (try simp only [Bool.cond_true_left, Bool.cond_false_right, Bool.cond_true_right, Bool.cond_false_left, Bool.and_eq_true, Bool.or_eq_true, Bool.and_eq_false_iff, Bool.or_eq_false_iff, Bool.not_eq_true', Bool.not_eq_false', Bool.not_eq_true, Bool.not_eq_false, Bool.not_not, decide_eq_true_eq, decide_eq_false_iff_not, beq_iff_eq, beq_eq_false_iff_ne, bne_iff_ne, bne_eq_false_iff_eq, ne_eq, Classical.not_not, reduceCtorEq, false_or, or_false, true_and, and_true, Bool.false_eq_true, Bool.true_eq_false] at h) <;> try (exfalso; first | omega | (simp at h; done)))))
  all_goals (try simp only [bytesOf_map])
  all_goals first
    | rfl
    | exact ⟨by decide, rfl⟩
    | exact ⟨trivial, rfl⟩
    | exact ⟨trivial, trivial, trivial⟩
    | exact ⟨trivial, trivial, trivial, trivial⟩
    | exact ⟨⟨trivial, by decide, trivial, trivial⟩, trivial⟩
    | decide
    | (exfalso; revert h; decide +kernel)
    | skip

theorem textB_len (t : List UInt8) (h : t.length < 2 ^ 64) : (textB t).length ≤ t.length + 10 := by
  have := numB_le10 h
  unfold textB
  rw [List.length_append]; omega

theorem bndB_len (b : Bnd) (hs : b.serial < 2 ^ 64) (h : b.name.length + b.key.length ≤ 2 ^ 21) : (bndB b).length ≤ 2 ^ 22 := by
  have h1 := textB_len b.name (by omega)
  have h2 := textB_len b.key (by omega)
  have h3 := numB_le10 hs
  unfold bndB
  simp only [List.length_append]; omega

theorem reqB_len (q : Req) (ha : q.auth.length = 32) (h : q.name.length + q.key.length ≤ 2 ^ 21) : (reqB q).length ≤ 2 ^ 22 := by
  have h1 := textB_len q.name (by omega)
  have h2 := textB_len q.key (by omega)
  have h3 := numB_le10 (kindN_lt q.kind)
  unfold reqB
  cases decide (q.kind = 2) <;> simp only [List.length_append, cond_true, cond_false, List.length_nil] <;> omega

theorem sgnB_len (s : Sgn) (hw : wfS s) (h : s.sig.length ≤ 2 ^ 21) : (sgnB s).length ≤ 2 ^ 22 := by
  have h1 := textB_len s.sig (by omega)
  have h3 := numB_le10 hw.epoch
  have := hw.prev
  have := hw.tree
  have := hw.next
  unfold sgnB
  simp only [List.length_append, List.flatten_cons, List.flatten_nil, List.length_nil]; omega

theorem prfB_len (p : Prf) (hw : wfP p) (h : p.sides.flatten.length ≤ 2 ^ 21) : (prfB p).length ≤ 2 ^ 22 := by
  have h0 := flat_len p.sides hw.sides
  have h1 := numB_le10 (n := p.sides.length) (by omega)
  have h3 := numB_le10 (kindN_lt p.fin)
  have := hw.index
  have := hw.value
  unfold prfB
  cases decide (p.fin = 1) <;> simp only [List.length_append, cond_true, cond_false, List.length_nil] <;> omega

theorem recordChecks_main (b : Bnd) (p : Prf) (hn : b.name.length < 2 ^ 63) :
    LocalCall Try.prog 3 [.d (bD b), .d (pD p)] [] [] (one [.d (.bool true)]) [] := by
  have c1 := check_ok b hn
  have c2 := rCheck_ok b.name b.key hn
  have c3 := right_ok p
  have c4 := rRight_ok p
  refine vc_fn mixed Try.func3 rfl rfl [] (vc_chk rfl) ?_
  repeat' (first
      | ((with_reducible refine vc_chk ?_); first | decide +kernel | rfl)
      | (with_reducible refine vc_side0 ?_; rfl)
      | (with_reducible first
           | refine vc_true ?_ | refine vc_true2 ?_ | refine vc_side ?_ ?_ | refine vc_triv | refine vc_later ?_ | refine vc_caseT ?_ | refine vc_caseF ?_ | refine vc_cons ?_ | refine vc_nil ?_ ?_ | refine vc_seq ?_
              | refine vc_region ?_ | refine vc_cond ?_ | refine vc_block ?_ | refine vc_retc ?_ | refine vc_exit ?_ | refine vc_skip ?_ | refine vc_scope ?_ | refine vc_label ?_ | refine vc_goto ?_ | refine vc_wkSl0
              | refine vc_wkHp0 | refine vc_eqAVs0 | refine vc_preG0 | refine vc_wkSl ?_ ?_ | refine vc_wkHp ?_ ?_ | refine vc_eqAVs ?_ ?_ | refine vc_preG ?_ ?_ | refine vc_side0 ?_ | refine vc_pure c1 ?_ ?_ ?_
              | refine vc_pure c2 ?_ ?_ ?_ | refine vc_pure c3 ?_ ?_ ?_ | refine vc_pure c4 ?_ ?_ ?_ | refine vc_pure works_ok ?_ ?_ ?_ | refine vc_weakf [] ?_ ?_ ?_ | refine vc_and ?_ ?_ | refine vc_ret [] [] ?_)
      | ((with_reducible first | refine vc_caseD (fun h => ?_) (fun h => ?_) | refine vc_caseN (fun h => ?_) (fun h => ?_)) <;> try (exfalso; omega))
      | ((with_reducible refine vc_case (fun h => ?_) (fun h => ?_)) <;> (try simp only [Bool.cond_true_left, Bool.cond_false_right, Bool.cond_true_right, Bool.cond_false_left, Bool.and_eq_true, Bool.or_eq_true, Bool.and_eq_false_iff, Bool.or_eq_false_iff, Bool.not_eq_true', Bool.not_eq_false', Bool.not_eq_true, Bool.not_eq_false, Bool.not_not, decide_eq_true_eq, decide_eq_false_iff_not, beq_iff_eq, beq_eq_false_iff_ne, bne_iff_ne, bne_eq_false_iff_eq, ne_eq, Classical.not_not, reduceCtorEq, false_or, or_false, true_and, and_true, Bool.false_eq_true, Bool.true_eq_false] at h) <;> try (exfalso; first | omega | (simp at h; done)))
      | (conv in Vc _ => arg 1; whnf
         first
          | (with_reducible refine vc_side0 ?_; rfl)
          | (with_reducible first
              | refine vc_true ?_ | refine vc_true2 ?_ | refine vc_side ?_ ?_ | refine vc_triv | refine vc_later ?_ | refine vc_caseT ?_ | refine vc_caseF ?_ | refine vc_cons ?_ | refine vc_nil ?_ ?_ | refine vc_seq ?_
                 | refine vc_region ?_ | refine vc_cond ?_ | refine vc_block ?_ | refine vc_retc ?_ | refine vc_exit ?_ | refine vc_skip ?_ | refine vc_scope ?_ | refine vc_label ?_ | refine vc_goto ?_ | refine vc_wkSl0
                 | refine vc_wkHp0 | refine vc_eqAVs0 | refine vc_preG0 | refine vc_wkSl ?_ ?_ | refine vc_wkHp ?_ ?_ | refine vc_eqAVs ?_ ?_ | refine vc_preG ?_ ?_ | refine vc_side0 ?_ | refine vc_pure c1 ?_ ?_ ?_
                 | refine vc_pure c2 ?_ ?_ ?_ | refine vc_pure c3 ?_ ?_ ?_ | refine vc_pure c4 ?_ ?_ ?_ | refine vc_pure works_ok ?_ ?_ ?_ | refine vc_weakf [] ?_ ?_ ?_ | refine vc_and ?_ ?_ | refine vc_ret [] [] ?_)
          | ((with_reducible first | refine vc_caseD (fun h => ?_) (fun h => ?_) | refine vc_caseN (fun h => ?_) (fun h => ?_)) <;> try (exfalso; omega))
          | ((with_reducible refine vc_case (fun h => ?_) (fun h => ?_)) <;> (try simp only [Bool.cond_true_left, Bool.cond_false_right, Bool.cond_true_right, Bool.cond_false_left, Bool.and_eq_true, Bool.or_eq_true, Bool.and_eq_false_iff, Bool.or_eq_false_iff, Bool.not_eq_true', Bool.not_eq_false', Bool.not_eq_true, Bool.not_eq_false, Bool.not_not, decide_eq_true_eq, decide_eq_false_iff_not, beq_iff_eq, beq_eq_false_iff_ne, bne_iff_ne, bne_eq_false_iff_eq, ne_eq, Classical.not_not, reduceCtorEq, false_or, or_false, true_and, and_true, Bool.false_eq_true, Bool.true_eq_false] at h) <;> try (exfalso; first | omega | (simp at h; done)))))
  all_goals first
    | rfl
    | (exfalso; simp at h; done)
    | skip

theorem recordWrites_main (b : Bnd) (q : Req) (s : Sgn) (p : Prf) (hs : b.serial < 2 ^ 64) (ha : q.auth.length = 32) (hw : wfS s) (hp : wfP p) (l1 : b.name.length + b.key.length ≤ 2 ^ 21) (l2 : q.name.length + q.key.length ≤ 2 ^ 21) (l3 : s.sig.length ≤ 2 ^ 21) (l4 : p.sides.flatten.length ≤ 2 ^ 21) :
    LocalCall Try.prog 4 [.d (bD b), .d (qD q), .d (sD s), .d (pD p)] [] [] (one [.d (.bool true)]) [] := by
  have r1 := bndB_len b hs l1
  have r2 := reqB_len q ha l2
  have r3 := sgnB_len s hw l3
  have r4 := prfB_len p hp l4
  have c1 := bndW b hs (by omega)
  have d1 := rBndW b hs (by omega)
  have c2 := reqW q ha (by omega)
  have d2 := rReqW q ha (by omega)
  have c3 := sgnW s hw.epoch hw.prev hw.tree hw.next (by omega)
  have d3 := rSgnW s hw.epoch hw.prev hw.tree hw.next (by omega)
  have c4 := prfW p hp.sides hp.index hp.value (by omega)
  have d4 := rPrfW p hp.sides hp.index hp.value (by omega)
  refine vc_fn mixed Try.func4 rfl rfl [] (vc_chk rfl) ?_
  repeat' (first
      | ((with_reducible refine vc_chk ?_); first | decide +kernel | rfl)
      | (with_reducible refine vc_side0 ?_; rfl)
      | (with_reducible first
           | refine vc_true ?_ | refine vc_true2 ?_ | refine vc_side ?_ ?_ | refine vc_triv | refine vc_later ?_ | refine vc_caseT ?_ | refine vc_caseF ?_ | refine vc_cons ?_ | refine vc_nil ?_ ?_ | refine vc_seq ?_
              | refine vc_region ?_ | refine vc_cond ?_ | refine vc_block ?_ | refine vc_retc ?_ | refine vc_exit ?_ | refine vc_skip ?_ | refine vc_scope ?_ | refine vc_label ?_ | refine vc_goto ?_ | refine vc_wkSl0
              | refine vc_wkHp0 | refine vc_eqAVs0 | refine vc_preG0 | refine vc_wkSl ?_ ?_ | refine vc_wkHp ?_ ?_ | refine vc_eqAVs ?_ ?_ | refine vc_preG ?_ ?_ | refine vc_side0 ?_ | refine vc_pure c1 ?_ ?_ ?_
              | refine vc_pure d1 ?_ ?_ ?_ | refine vc_pure c2 ?_ ?_ ?_ | refine vc_pure d2 ?_ ?_ ?_ | refine vc_pure c3 ?_ ?_ ?_ | refine vc_pure d3 ?_ ?_ ?_ | refine vc_pure c4 ?_ ?_ ?_ | refine vc_pure d4 ?_ ?_ ?_
              | refine vc_pure (same_yes (bndB b)) ?_ ?_ ?_ | refine vc_pure (same_yes (reqB q)) ?_ ?_ ?_ | refine vc_pure (same_yes (sgnB s)) ?_ ?_ ?_ | refine vc_pure (same_yes (prfB p)) ?_ ?_ ?_
              | refine vc_pure works_ok ?_ ?_ ?_ | refine vc_weakf [] ?_ ?_ ?_ | refine vc_and ?_ ?_ | refine vc_ret [] [] ?_)
      | ((with_reducible first | refine vc_caseD (fun h => ?_) (fun h => ?_) | refine vc_caseN (fun h => ?_) (fun h => ?_)) <;> try (exfalso; omega))
      | ((with_reducible refine vc_case (fun h => ?_) (fun h => ?_)) <;> (try simp only [Bool.cond_true_left, Bool.cond_false_right, Bool.cond_true_right, Bool.cond_false_left, Bool.and_eq_true, Bool.or_eq_true, Bool.and_eq_false_iff, Bool.or_eq_false_iff, Bool.not_eq_true', Bool.not_eq_false', Bool.not_eq_true, Bool.not_eq_false, Bool.not_not, decide_eq_true_eq, decide_eq_false_iff_not, beq_iff_eq, beq_eq_false_iff_ne, bne_iff_ne, bne_eq_false_iff_eq, ne_eq, Classical.not_not, reduceCtorEq, false_or, or_false, true_and, and_true, Bool.false_eq_true, Bool.true_eq_false] at h) <;> try (exfalso; first | omega | (simp at h; done)))
      | (conv in Vc _ => arg 1; whnf
         first
          | (with_reducible refine vc_side0 ?_; rfl)
          | (with_reducible first
              | refine vc_true ?_ | refine vc_true2 ?_ | refine vc_side ?_ ?_ | refine vc_triv | refine vc_later ?_ | refine vc_caseT ?_ | refine vc_caseF ?_ | refine vc_cons ?_ | refine vc_nil ?_ ?_ | refine vc_seq ?_
                 | refine vc_region ?_ | refine vc_cond ?_ | refine vc_block ?_ | refine vc_retc ?_ | refine vc_exit ?_ | refine vc_skip ?_ | refine vc_scope ?_ | refine vc_label ?_ | refine vc_goto ?_ | refine vc_wkSl0
                 | refine vc_wkHp0 | refine vc_eqAVs0 | refine vc_preG0 | refine vc_wkSl ?_ ?_ | refine vc_wkHp ?_ ?_ | refine vc_eqAVs ?_ ?_ | refine vc_preG ?_ ?_ | refine vc_side0 ?_ | refine vc_pure c1 ?_ ?_ ?_
                 | refine vc_pure d1 ?_ ?_ ?_ | refine vc_pure c2 ?_ ?_ ?_ | refine vc_pure d2 ?_ ?_ ?_ | refine vc_pure c3 ?_ ?_ ?_ | refine vc_pure d3 ?_ ?_ ?_ | refine vc_pure c4 ?_ ?_ ?_ | refine vc_pure d4 ?_ ?_ ?_
                 | refine vc_pure (same_yes (bndB b)) ?_ ?_ ?_ | refine vc_pure (same_yes (reqB q)) ?_ ?_ ?_ | refine vc_pure (same_yes (sgnB s)) ?_ ?_ ?_ | refine vc_pure (same_yes (prfB p)) ?_ ?_ ?_
                 | refine vc_pure works_ok ?_ ?_ ?_ | refine vc_weakf [] ?_ ?_ ?_ | refine vc_and ?_ ?_ | refine vc_ret [] [] ?_)
          | ((with_reducible first | refine vc_caseD (fun h => ?_) (fun h => ?_) | refine vc_caseN (fun h => ?_) (fun h => ?_)) <;> try (exfalso; omega))
          | ((with_reducible refine vc_case (fun h => ?_) (fun h => ?_)) <;> (try simp only [Bool.cond_true_left, Bool.cond_false_right, Bool.cond_true_right, Bool.cond_false_left, Bool.and_eq_true, Bool.or_eq_true, Bool.and_eq_false_iff, Bool.or_eq_false_iff, Bool.not_eq_true', Bool.not_eq_false', Bool.not_eq_true, Bool.not_eq_false, Bool.not_not, decide_eq_true_eq, decide_eq_false_iff_not, beq_iff_eq, beq_eq_false_iff_ne, bne_iff_ne, bne_eq_false_iff_eq, ne_eq, Classical.not_not, reduceCtorEq, false_or, or_false, true_and, and_true, Bool.false_eq_true, Bool.true_eq_false] at h) <;> try (exfalso; first | omega | (simp at h; done)))))
  all_goals first
    | rfl
    | (exfalso; simp at h; done)
    | skip

end Go.Proofs.Ytogncghpngmjpaa
