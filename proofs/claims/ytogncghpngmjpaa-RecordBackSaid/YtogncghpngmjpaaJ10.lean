import Derived.Test.YtogncghpngmjpaaJ1
import Derived.Test.YtogncghpngmjpaaJ2
import Derived.Test.YtogncghpngmjpaaJ3
import Derived.Test.YtogncghpngmjpaaJ4
import Derived.Test.YtogncghpngmjpaaJ5
import Derived.Test.YtogncghpngmjpaaJ6
import Derived.Test.YtogncghpngmjpaaJ7
import Derived.Test.YtogncghpngmjpaaJ8
import Derived.Test.YtogncghpngmjpaaJ9
set_option linter.unusedSimpArgs false
set_option linter.unusedVariables false
/-
What the laws RecordReads, RecordBack, RecordOne, RecordApart return.
-/
set_option linter.unusedSimpArgs false
set_option linter.unusedVariables false
namespace Go.Proofs.Ytogncghpngmjpaa
open Go.Sym
set_option maxRecDepth 10000
set_option maxHeartbeats 16000000

theorem prf_len {bs : List UInt8} {O : Option Prf} (h : toFin bs.length (rdPrf bs) = O) : (O.getD p0).sides.length < 2 ^ 63 := by
  cases O with
  | none => show ([] : List (List UInt8)).length < _; simp
  | some p =>
    have := (prf_one h).2.2.1
    show p.sides.length < _
    omega

theorem recordReads_main (t : List UInt8) (hl : t.length < 2 ^ 63) : LocalCall Try.prog 6 [.d (.sl (t.map byteD))] [] [] (one [.d (.bool true)]) [] := by
  generalize h1 : toFin t.length (rdBnd t) = O1
  generalize h2 : toFin t.length (rdReq t) = O2
  generalize h3 : toFin t.length (rdSgn t) = O3
  generalize h4 : toFin t.length (rdPrf t) = O4
  have c1 := bind_ok (t.map byteD) t rfl hl O1 h1
  have d1 := rBnd_ok (t.map byteD) t rfl hl O1 h1
  have c2 := req_ok (t.map byteD) t rfl hl O2 h2
  have d2 := rReq_ok (t.map byteD) t rfl hl O2 h2
  have c3 := sgn_ok (t.map byteD) t rfl hl O3 h3
  have d3 := rSgn_ok (t.map byteD) t rfl hl O3 h3
  have c4 := prf_ok (t.map byteD) t rfl hl O4 h4
  have d4 := rPrf_ok (t.map byteD) t rfl hl O4 h4
  have s1 := sameBnd_ok (O1.getD b0) (O1.getD b0)
  have s2 := sameReq_ok (O2.getD q0) (O2.getD q0)
  have s3 := sameSgn_ok (O3.getD s0) (O3.getD s0)
  have s4 := samePrf_ok (O4.getD p0) (O4.getD p0) (prf_len h4)
  rw [decide_eq_true rfl] at s1 s2 s3 s4
  refine vc_fn mixed Try.func6 rfl rfl [] (vc_chk rfl) ?_
  repeat' (first
      | ((with_reducible refine vc_chk ?_); first | decide +kernel | rfl)
      | (with_reducible refine vc_side0 ?_; rfl)
      | (with_reducible first
           | refine vc_true ?_ | refine vc_true2 ?_ | refine vc_side ?_ ?_ | refine vc_triv | refine vc_later ?_ | refine vc_caseT ?_ | refine vc_caseF ?_ | refine vc_cons ?_ | refine vc_nil ?_ ?_ | refine vc_seq ?_
              | refine vc_region ?_ | refine vc_cond ?_ | refine vc_block ?_ | refine vc_retc ?_ | refine vc_exit ?_ | refine vc_skip ?_ | refine vc_scope ?_ | refine vc_label ?_ | refine vc_goto ?_ | refine vc_wkSl0
              | refine vc_wkHp0 | refine vc_eqAVs0 | refine vc_preG0 | refine vc_wkSl ?_ ?_ | refine vc_wkHp ?_ ?_ | refine vc_eqAVs ?_ ?_ | refine vc_preG ?_ ?_ | refine vc_side0 ?_ | refine vc_pure c1 ?_ ?_ ?_
              | refine vc_pure d1 ?_ ?_ ?_ | refine vc_pure c2 ?_ ?_ ?_ | refine vc_pure d2 ?_ ?_ ?_ | refine vc_pure c3 ?_ ?_ ?_ | refine vc_pure d3 ?_ ?_ ?_ | refine vc_pure c4 ?_ ?_ ?_ | refine vc_pure d4 ?_ ?_ ?_
              | refine vc_pure s1 ?_ ?_ ?_ | refine vc_pure s2 ?_ ?_ ?_ | refine vc_pure s3 ?_ ?_ ?_ | refine vc_pure s4 ?_ ?_ ?_ | refine vc_pure works_ok ?_ ?_ ?_ | refine vc_weakf [] ?_ ?_ ?_ | refine vc_and ?_ ?_
              | refine vc_ret [] [] ?_)
      | ((with_reducible first | refine vc_caseD (fun h => ?_) (fun h => ?_) | refine vc_caseN (fun h => ?_) (fun h => ?_)) <;> try (exfalso; omega))
      | ((with_reducible refine vc_case (fun h => ?_) (fun h => ?_)) <;> (try simp only [Bool.cond_true_left, Bool.cond_false_right, Bool.cond_true_right, Bool.cond_false_left, Bool.and_eq_true, Bool.or_eq_true, Bool.and_eq_false_iff, Bool.or_eq_false_iff, Bool.not_eq_true', Bool.not_eq_false', Bool.not_eq_true, Bool.not_eq_false, Bool.not_not, decide_eq_true_eq, decide_eq_false_iff_not, beq_iff_eq, beq_eq_false_iff_ne, bne_iff_ne, bne_eq_false_iff_eq, ne_eq, Classical.not_not, reduceCtorEq, false_or, or_false, true_and, and_true, Bool.false_eq_true, Bool.true_eq_false] at h) <;> try (exfalso; first | omega | (simp at h; done)))
      | (conv in Vc _ => arg 1; whnf
         first
          | (with_reducible refine vc_side0 ?_; rfl)
          | (with_reducible first
              | refine vc_true ?_ | refine vc_true2 ?_ | refine vc_side ?_ ?_ | refine vc_triv | refine vc_later ?_ | refine vc_caseT ?_ | refine vc_caseF ?_ | refine vc_cons ?_ | refine vc_nil ?_ ?_ | refine vc_seq ?_
                 | refine vc_region ?_ | refine vc_cond ?_ | refine vc_block ?_ | refine vc_retc ?_ | refine vc_exit ?_ | refine vc_skip ?_ | refine vc_scope ?_ | refine vc_label ?_ | refine vc_goto ?_ | refine vc_wkSl0
                 | refine vc_wkHp0 | refine vc_eqAVs0 | refine vc_preG0 | refine vc_wkSl ?_ ?_ | refine vc_wkHp ?_ ?_ | refine vc_eqAVs ?_ ?_ | refine vc_preG ?_ ?_ | refine vc_side0 ?_ | refine vc_pure c1 ?_ ?_ ?_
                 | refine vc_pure d1 ?_ ?_ ?_ | refine vc_pure c2 ?_ ?_ ?_ | refine vc_pure d2 ?_ ?_ ?_ | refine vc_pure c3 ?_ ?_ ?_ | refine vc_pure d3 ?_ ?_ ?_ | refine vc_pure c4 ?_ ?_ ?_ | refine vc_pure d4 ?_ ?_ ?_
                 | refine vc_pure s1 ?_ ?_ ?_ | refine vc_pure s2 ?_ ?_ ?_ | refine vc_pure s3 ?_ ?_ ?_ | refine vc_pure s4 ?_ ?_ ?_ | refine vc_pure works_ok ?_ ?_ ?_ | refine vc_weakf [] ?_ ?_ ?_ | refine vc_and ?_ ?_
                 | refine vc_ret [] [] ?_)
          | ((with_reducible first | refine vc_caseD (fun h => ?_) (fun h => ?_) | refine vc_caseN (fun h => ?_) (fun h => ?_)) <;> try (exfalso; omega))
          | ((with_reducible refine vc_case (fun h => ?_) (fun h => ?_)) <;> (try simp only [Bool.cond_true_left, Bool.cond_false_right, Bool.cond_true_right, Bool.cond_false_left, Bool.and_eq_true, Bool.or_eq_true, Bool.and_eq_false_iff, Bool.or_eq_false_iff, Bool.not_eq_true', Bool.not_eq_false', Bool.not_eq_true, Bool.not_eq_false, Bool.not_not, decide_eq_true_eq, decide_eq_false_iff_not, beq_iff_eq, beq_eq_false_iff_ne, bne_iff_ne, bne_eq_false_iff_eq, ne_eq, Classical.not_not, reduceCtorEq, false_or, or_false, true_and, and_true, Bool.false_eq_true, Bool.true_eq_false] at h) <;> try (exfalso; first | omega | (simp at h; done)))))
  all_goals first
    | rfl
    | exact ⟨trivial, trivial, trivial⟩
    | (exfalso; simp at h; done)
    | skip

theorem flat_32 : ∀ l : List (List UInt8), (∀ d, d ∈ l → d.length = 32) → l.flatten.length = 32 * l.length
  | [], _ => by simp
  | x :: l, h => by
    have h1 := flat_32 l fun d hd => h d (by simp [hd])
    have h2 := h x (by simp)
    simp only [List.length_cons, List.flatten_cons, List.length_append]; omega

theorem check_len {n k : List UInt8} (h : checkI n k = 0) : n.length ≤ 32 ∧ k.length ≤ 64 := by
  unfold checkI at h
  cases hn : nameB n with
  | false => rw [hn, cond_false] at h; omega
  | true =>
    rw [hn, cond_true] at h
    unfold nameB at hn
    simp only [Bool.and_eq_true, decide_eq_true_eq] at hn
    by_cases hk : k.length = 0 ∨ 64 < k.length
    · rw [decide_eq_true hk, cond_true] at h; omega
    · exact ⟨hn.2.2, by omega⟩

instance (q : Req) : Decidable (mayQ q) := by unfold mayQ; exact inferInstance

theorem may_ok (q : Req) (hn : q.name.length < 2 ^ 63) : LocalCall Try.prog 25 [.d (qD q)] [] [] (one [.d (.bool (decide (mayQ q)))]) [] := by
  have c := rCheck_ok q.name q.key hn
  refine vc_fn mixed Try.func25 rfl rfl [] (vc_chk rfl) ?_
  repeat' (first
      | ((with_reducible refine vc_chk ?_); first | decide +kernel | rfl)
      | (with_reducible refine vc_side0 ?_; rfl)
      | (with_reducible first
           | refine vc_true ?_ | refine vc_true2 ?_ | refine vc_side ?_ ?_ | refine vc_triv | refine vc_later ?_ | refine vc_caseT ?_ | refine vc_caseF ?_ | refine vc_cons ?_ | refine vc_nil ?_ ?_ | refine vc_seq ?_
              | refine vc_region ?_ | refine vc_cond ?_ | refine vc_block ?_ | refine vc_retc ?_ | refine vc_exit ?_ | refine vc_skip ?_ | refine vc_scope ?_ | refine vc_label ?_ | refine vc_goto ?_ | refine vc_wkSl0
              | refine vc_wkHp0 | refine vc_eqAVs0 | refine vc_preG0 | refine vc_wkSl ?_ ?_ | refine vc_wkHp ?_ ?_ | refine vc_eqAVs ?_ ?_ | refine vc_preG ?_ ?_ | refine vc_side0 ?_ | refine vc_pure c ?_ ?_ ?_
              | refine vc_weakf [] ?_ ?_ ?_ | refine vc_and ?_ ?_ | refine vc_ret [] [] ?_)
      | ((with_reducible first | refine vc_caseD (fun h => ?_) (fun h => ?_) | refine vc_caseN (fun h => ?_) (fun h => ?_)) <;> try (exfalso; omega))
      | ((with_reducible refine vc_case (fun h => ?_) (fun h => ?_)) <;> (try simp only [Bool.cond_true_left, Bool.cond_false_right, Bool.cond_true_right, Bool.cond_false_left, Bool.and_eq_true, Bool.or_eq_true, Bool.and_eq_false_iff, Bool.or_eq_false_iff, Bool.not_eq_true', Bool.not_eq_false', Bool.not_eq_true, Bool.not_eq_false, Bool.not_not, decide_eq_true_eq, decide_eq_false_iff_not, beq_iff_eq, beq_eq_false_iff_ne, bne_iff_ne, bne_eq_false_iff_eq, ne_eq, Classical.not_not, reduceCtorEq, false_or, or_false, true_and, and_true, Bool.false_eq_true, Bool.true_eq_false] at h) <;> try (exfalso; first | omega | (simp at h; done)))
      | (conv in Vc _ => arg 1; whnf
         first
          | (with_reducible refine vc_side0 ?_; rfl)
          | (with_reducible first
              | refine vc_true ?_ | refine vc_true2 ?_ | refine vc_side ?_ ?_ | refine vc_triv | refine vc_later ?_ | refine vc_caseT ?_ | refine vc_caseF ?_ | refine vc_cons ?_ | refine vc_nil ?_ ?_ | refine vc_seq ?_
                 | refine vc_region ?_ | refine vc_cond ?_ | refine vc_block ?_ | refine vc_retc ?_ | refine vc_exit ?_ | refine vc_skip ?_ | refine vc_scope ?_ | refine vc_label ?_ | refine vc_goto ?_ | refine vc_wkSl0
                 | refine vc_wkHp0 | refine vc_eqAVs0 | refine vc_preG0 | refine vc_wkSl ?_ ?_ | refine vc_wkHp ?_ ?_ | refine vc_eqAVs ?_ ?_ | refine vc_preG ?_ ?_ | refine vc_side0 ?_ | refine vc_pure c ?_ ?_ ?_
                 | refine vc_weakf [] ?_ ?_ ?_ | refine vc_and ?_ ?_ | refine vc_ret [] [] ?_)
          | ((with_reducible first | refine vc_caseD (fun h => ?_) (fun h => ?_) | refine vc_caseN (fun h => ?_) (fun h => ?_)) <;> try (exfalso; omega))
          | ((with_reducible refine vc_case (fun h => ?_) (fun h => ?_)) <;> (try simp only [Bool.cond_true_left, Bool.cond_false_right, Bool.cond_true_right, Bool.cond_false_left, Bool.and_eq_true, Bool.or_eq_true, Bool.and_eq_false_iff, Bool.or_eq_false_iff, Bool.not_eq_true', Bool.not_eq_false', Bool.not_eq_true, Bool.not_eq_false, Bool.not_not, decide_eq_true_eq, decide_eq_false_iff_not, beq_iff_eq, beq_eq_false_iff_ne, bne_iff_ne, bne_eq_false_iff_eq, ne_eq, Classical.not_not, reduceCtorEq, false_or, or_false, true_and, and_true, Bool.false_eq_true, Bool.true_eq_false] at h) <;> try (exfalso; first | omega | (simp at h; done)))))
  all_goals (try simp only [z6, z7, beq_dig, cond_true, cond_false, Bool.not_eq_true', decide_eq_true_eq, decide_eq_false_iff_not] at *)
  all_goals first
    | rfl
    | exact ⟨fits_dig 6 _, fits_dig 6 zero32⟩
    | (refine bool_iff ?_; simp only [mayQ]; simp_all; done)
    | (refine bool_iff ?_; simp only [mayQ]; simp_all; omega)
    | skip

end Go.Proofs.Ytogncghpngmjpaa
