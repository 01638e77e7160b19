import Derived.Test.YtogncghpngmjpaaJ1
import Derived.Test.YtogncghpngmjpaaJ2
import Derived.Test.YtogncghpngmjpaaJ3
import Derived.Test.YtogncghpngmjpaaJ4
import Derived.Test.YtogncghpngmjpaaJ5
set_option linter.unusedSimpArgs false
set_option linter.unusedVariables false
/-
What the references of the record layer read: requests, signed roots.
-/
set_option linter.unusedSimpArgs false
set_option linter.unusedVariables false
namespace Go.Proofs.Ytogncghpngmjpaa
open Go.Sym
set_option maxRecDepth 10000
set_option maxHeartbeats 8000000

theorem rReq_ok (B : List D) (bs : List UInt8) (hB : B = bs.map byteD) (hl : bs.length < 2 ^ 63) (O : Option Req) (hO : toFin bs.length (rdReq bs) = O) :
    LocalCall Try.prog 31 [.d (.sl B)] [] [] (one [.d (qD (O.getD q0)), .d (.int .i64 (errI O))]) [] := by
  have hlen : B.length = bs.length := by rw [hB]; simp
  have c0 := inCnt_8 B bs hB 2 0 false (by omega) (Nat.zero_le _) hl
  have l0 := inCs_le bs 2 false 0 (Nat.zero_le _)
  have q0 : optR (inCs bs 2 false 0) = rdC bs 2 0 := inCs_opt bs 2 false 0
  generalize inCs bs 2 false 0 = r0 at c0 l0 q0
  obtain ⟨x0, k0, b0⟩ := r0
  have c1 := inText_8 B bs hB k0 b0 l0 hl
  have l1 := inTs_le bs b0 k0 l0
  have q1 := inTs_opt bs b0 k0
  have m1 := inTs_len bs b0 k0
  generalize inTs bs b0 k0 = r1 at c1 l1 q1 m1
  obtain ⟨x1, k1, b1⟩ := r1
  have c2 := inText_8 B bs hB k1 b1 l1 hl
  have l2 := inTs_le bs b1 k1 l1
  have q2 := inTs_opt bs b1 k1
  generalize inTs bs b1 k1 = r2 at c2 l2 q2
  obtain ⟨x2, k2, b2⟩ := r2
  by_cases hk2 : (x0 : Int) = 2
  · skip
    have c3 := inDig_8 B bs hB k2 b2 l2 hl
    have l3 := inGs_le bs b2 k2 l2
    have q3 := inGs_opt bs b2 k2
    generalize inGs bs b2 k2 = r3 at c3 l3 q3
    obtain ⟨x3, k3, b3⟩ := r3
    have hR : rdReq bs = bif b3 then none else bif decide (1 ≤ x0 ∧ checkI x1 x2 = 0) then some (⟨(x0 : Int), x1, x2, x3⟩, k3) else none := by
      cases b0 <;> cases b1 <;> cases b2 <;> cases b3 <;> simp only [optR, cond_true, cond_false, reduceCtorEq] at q0 q1 q2 q3 <;> first
        | (simp [rdReq, ← q0, rdAu_two (bs := bs) (n := x0) (k := k2) hk2]; done)
        | (simp [rdReq, ← q0, ← q1, rdAu_two (bs := bs) (n := x0) (k := k2) hk2]; done)
        | (simp [rdReq, ← q0, ← q1, ← q2, rdAu_two (bs := bs) (n := x0) (k := k2) hk2]; done)
        | (simp [rdReq, ← q0, ← q1, ← q2, rdAu_two (bs := bs) (n := x0) (k := k2) hk2, ← q3]; done)
    rw [hR] at hO
    generalize hq : (!b3 && decide (k3 = B.length)) = q
    have c4 := inDone_8 B k3 b3 q hq
    have c5 := rCheck_b x1 x2 m1
    dsimp only at c0 c1 c2 m1
    try dsimp only at c3
    by_cases hy : q = true ∧ 1 ≤ x0 ∧ checkI x1 x2 = 0
    · obtain ⟨rfl, hc⟩ := hy
      simp only [Bool.and_eq_true, Bool.not_eq_true', decide_eq_true_eq] at hq
      obtain ⟨rfl, hk⟩ := hq
      rw [cond_false, decide_eq_true hc, cond_true] at hO
      have : O = some ⟨(x0 : Int), x1, x2, x3⟩ := by rw [← hO]; simp [toFin, hk, hlen]
      subst this
      refine vc_fn mixed Try.func31 rfl rfl [] (vc_chk rfl) ?_
      repeat' (first
          | ((with_reducible refine vc_chk ?_); first | decide +kernel | rfl)
          | (with_reducible refine vc_side0 ?_; rfl)
          | (with_reducible first
               | refine vc_true ?_ | refine vc_true2 ?_ | refine vc_side ?_ ?_ | refine vc_triv | refine vc_later ?_ | refine vc_caseT ?_ | refine vc_caseF ?_ | refine vc_cons ?_ | refine vc_nil ?_ ?_ | refine vc_seq ?_
                  | refine vc_region ?_ | refine vc_cond ?_ | refine vc_block ?_ | refine vc_retc ?_ | refine vc_exit ?_ | refine vc_skip ?_ | refine vc_scope ?_ | refine vc_label ?_ | refine vc_goto ?_ | refine vc_wkSl0
                  | refine vc_wkHp0 | refine vc_eqAVs0 | refine vc_preG0 | refine vc_wkSl ?_ ?_ | refine vc_wkHp ?_ ?_ | refine vc_eqAVs ?_ ?_ | refine vc_preG ?_ ?_ | refine vc_side0 ?_
                  | refine vc_callAt [] 2008 (by with_unfolding_all rfl) (c0) ?_ | refine vc_callAt [] 2008 (by with_unfolding_all rfl) (c1) ?_ | refine vc_callAt [] 2008 (by with_unfolding_all rfl) (c2) ?_
                  | refine vc_callAt [] 2008 (by with_unfolding_all rfl) (c3) ?_ | refine vc_callAt [] 2008 (by with_unfolding_all rfl) (c4) ?_ | refine vc_pure c5 ?_ ?_ ?_ | refine vc_weakf [] ?_ ?_ ?_ | refine vc_and ?_ ?_
                  | refine vc_ret [] [] ?_)
          | ((with_reducible first | refine vc_caseD (fun h => ?_) (fun h => ?_) | refine vc_caseN (fun h => ?_) (fun h => ?_)) <;> try (exfalso; omega))
          | ((with_reducible refine vc_case (fun h => ?_) (fun h => ?_)) <;> (try simp only [Bool.cond_true_left, Bool.cond_false_right, Bool.cond_true_right, Bool.cond_false_left, Bool.and_eq_true, Bool.or_eq_true, Bool.and_eq_false_iff, Bool.or_eq_false_iff, Bool.not_eq_true', Bool.not_eq_false', Bool.not_eq_true, Bool.not_eq_false, Bool.not_not, decide_eq_true_eq, decide_eq_false_iff_not, beq_iff_eq, beq_eq_false_iff_ne, bne_iff_ne, bne_eq_false_iff_eq, ne_eq, Classical.not_not, reduceCtorEq, false_or, or_false, true_and, and_true, Bool.false_eq_true, Bool.true_eq_false] at h) <;> try (exfalso; first | omega | (simp at h; done)))
          | (conv in Vc _ => arg 1; whnf
             first
              | (with_reducible refine vc_side0 ?_; rfl)
              | (with_reducible first
                  | refine vc_true ?_ | refine vc_true2 ?_ | refine vc_side ?_ ?_ | refine vc_triv | refine vc_later ?_ | refine vc_caseT ?_ | refine vc_caseF ?_ | refine vc_cons ?_ | refine vc_nil ?_ ?_ | refine vc_seq ?_
                     | refine vc_region ?_ | refine vc_cond ?_ | refine vc_block ?_ | refine vc_retc ?_ | refine vc_exit ?_ | refine vc_skip ?_ | refine vc_scope ?_ | refine vc_label ?_ | refine vc_goto ?_ | refine vc_wkSl0
                     | refine vc_wkHp0 | refine vc_eqAVs0 | refine vc_preG0 | refine vc_wkSl ?_ ?_ | refine vc_wkHp ?_ ?_ | refine vc_eqAVs ?_ ?_ | refine vc_preG ?_ ?_ | refine vc_side0 ?_
                     | refine vc_callAt [] 2008 (by with_unfolding_all rfl) (c0) ?_ | refine vc_callAt [] 2008 (by with_unfolding_all rfl) (c1) ?_ | refine vc_callAt [] 2008 (by with_unfolding_all rfl) (c2) ?_
                     | refine vc_callAt [] 2008 (by with_unfolding_all rfl) (c3) ?_ | refine vc_callAt [] 2008 (by with_unfolding_all rfl) (c4) ?_ | refine vc_pure c5 ?_ ?_ ?_ | refine vc_weakf [] ?_ ?_ ?_ | refine vc_and ?_ ?_
                     | refine vc_ret [] [] ?_)
              | ((with_reducible first | refine vc_caseD (fun h => ?_) (fun h => ?_) | refine vc_caseN (fun h => ?_) (fun h => ?_)) <;> try (exfalso; omega))
              | ((with_reducible refine vc_case (fun h => ?_) (fun h => ?_)) <;> (try simp only [Bool.cond_true_left, Bool.cond_false_right, Bool.cond_true_right, Bool.cond_false_left, Bool.and_eq_true, Bool.or_eq_true, Bool.and_eq_false_iff, Bool.or_eq_false_iff, Bool.not_eq_true', Bool.not_eq_false', Bool.not_eq_true, Bool.not_eq_false, Bool.not_not, decide_eq_true_eq, decide_eq_false_iff_not, beq_iff_eq, beq_eq_false_iff_ne, bne_iff_ne, bne_eq_false_iff_eq, ne_eq, Classical.not_not, reduceCtorEq, false_or, or_false, true_and, and_true, Bool.false_eq_true, Bool.true_eq_false] at h) <;> try (exfalso; first | omega | (simp at h; done)))))
      all_goals (try simp only [bytesOf_map])
      all_goals first
        | rfl
        | exact ⟨trivial, rfl⟩
        | exact ⟨trivial, trivial⟩
        | exact ⟨trivial, trivial, trivial⟩
        | exact ⟨trivial, trivial, trivial, trivial⟩
    · have : O = none := by
        rw [← hO]
        cases b3 with
        | true => rfl
        | false =>
          rw [cond_false]
          by_cases hc : 1 ≤ x0 ∧ checkI x1 x2 = 0
          · rw [decide_eq_true hc, cond_true]
            have : ¬ k3 = bs.length := fun hk => hy ⟨by rw [← hq, hk, hlen]; simp, hc⟩
            simp [toFin, this]
          · rw [decide_eq_false hc]; rfl
      subst this
      have key : LocalCall Try.prog 31 [.d (.sl B)] [] [] (one [.d (.st [.int .i64 0, .str ByteArray.empty, .nils, digD zero32]), .d (.int .i64 3)]) [] := by
        refine vc_fn mixed Try.func31 rfl rfl [] (vc_chk rfl) ?_
        cases q
        · skip
          repeat' (first
              | ((with_reducible refine vc_chk ?_); first | decide +kernel | rfl)
              | (with_reducible refine vc_side0 ?_; rfl)
              | (with_reducible first
                   | refine vc_true ?_ | refine vc_true2 ?_ | refine vc_side ?_ ?_ | refine vc_triv | refine vc_later ?_ | refine vc_caseT ?_ | refine vc_caseF ?_ | refine vc_cons ?_ | refine vc_nil ?_ ?_ | refine vc_seq ?_
                      | refine vc_region ?_ | refine vc_cond ?_ | refine vc_block ?_ | refine vc_retc ?_ | refine vc_exit ?_ | refine vc_skip ?_ | refine vc_scope ?_ | refine vc_label ?_ | refine vc_goto ?_ | refine vc_wkSl0
                      | refine vc_wkHp0 | refine vc_eqAVs0 | refine vc_preG0 | refine vc_wkSl ?_ ?_ | refine vc_wkHp ?_ ?_ | refine vc_eqAVs ?_ ?_ | refine vc_preG ?_ ?_ | refine vc_side0 ?_
                      | refine vc_callAt [] 2008 (by with_unfolding_all rfl) (c0) ?_ | refine vc_callAt [] 2008 (by with_unfolding_all rfl) (c1) ?_ | refine vc_callAt [] 2008 (by with_unfolding_all rfl) (c2) ?_
                      | refine vc_callAt [] 2008 (by with_unfolding_all rfl) (c3) ?_ | refine vc_callAt [] 2008 (by with_unfolding_all rfl) (c4) ?_ | refine vc_pure c5 ?_ ?_ ?_ | refine vc_weakf [] ?_ ?_ ?_ | refine vc_and ?_ ?_
                      | refine vc_ret [] [] ?_)
              | ((with_reducible first | refine vc_caseD (fun h => ?_) (fun h => ?_) | refine vc_caseN (fun h => ?_) (fun h => ?_)) <;> try (exfalso; omega))
              | ((with_reducible refine vc_case (fun h => ?_) (fun h => ?_)) <;> (try simp only [Bool.cond_true_left, Bool.cond_false_right, Bool.cond_true_right, Bool.cond_false_left, Bool.and_eq_true, Bool.or_eq_true, Bool.and_eq_false_iff, Bool.or_eq_false_iff, Bool.not_eq_true', Bool.not_eq_false', Bool.not_eq_true, Bool.not_eq_false, Bool.not_not, decide_eq_true_eq, decide_eq_false_iff_not, beq_iff_eq, beq_eq_false_iff_ne, bne_iff_ne, bne_eq_false_iff_eq, ne_eq, Classical.not_not, reduceCtorEq, false_or, or_false, true_and, and_true, Bool.false_eq_true, Bool.true_eq_false] at h) <;> try (exfalso; first | omega | (simp at h; done)))
              | (conv in Vc _ => arg 1; whnf
                 first
                  | (with_reducible refine vc_side0 ?_; rfl)
                  | (with_reducible first
                      | refine vc_true ?_ | refine vc_true2 ?_ | refine vc_side ?_ ?_ | refine vc_triv | refine vc_later ?_ | refine vc_caseT ?_ | refine vc_caseF ?_ | refine vc_cons ?_ | refine vc_nil ?_ ?_ | refine vc_seq ?_
                         | refine vc_region ?_ | refine vc_cond ?_ | refine vc_block ?_ | refine vc_retc ?_ | refine vc_exit ?_ | refine vc_skip ?_ | refine vc_scope ?_ | refine vc_label ?_ | refine vc_goto ?_ | refine vc_wkSl0
                         | refine vc_wkHp0 | refine vc_eqAVs0 | refine vc_preG0 | refine vc_wkSl ?_ ?_ | refine vc_wkHp ?_ ?_ | refine vc_eqAVs ?_ ?_ | refine vc_preG ?_ ?_ | refine vc_side0 ?_
                         | refine vc_callAt [] 2008 (by with_unfolding_all rfl) (c0) ?_ | refine vc_callAt [] 2008 (by with_unfolding_all rfl) (c1) ?_ | refine vc_callAt [] 2008 (by with_unfolding_all rfl) (c2) ?_
                         | refine vc_callAt [] 2008 (by with_unfolding_all rfl) (c3) ?_ | refine vc_callAt [] 2008 (by with_unfolding_all rfl) (c4) ?_ | refine vc_pure c5 ?_ ?_ ?_ | refine vc_weakf [] ?_ ?_ ?_
                         | refine vc_and ?_ ?_ | refine vc_ret [] [] ?_)
                  | ((with_reducible first | refine vc_caseD (fun h => ?_) (fun h => ?_) | refine vc_caseN (fun h => ?_) (fun h => ?_)) <;> try (exfalso; omega))
                  | ((with_reducible refine vc_case (fun h => ?_) (fun h => ?_)) <;> (try simp only [Bool.cond_true_left, Bool.cond_false_right, Bool.cond_true_right, Bool.cond_false_left, Bool.and_eq_true, Bool.or_eq_true, Bool.and_eq_false_iff, Bool.or_eq_false_iff, Bool.not_eq_true', Bool.not_eq_false', Bool.not_eq_true, Bool.not_eq_false, Bool.not_not, decide_eq_true_eq, decide_eq_false_iff_not, beq_iff_eq, beq_eq_false_iff_ne, bne_iff_ne, bne_eq_false_iff_eq, ne_eq, Classical.not_not, reduceCtorEq, false_or, or_false, true_and, and_true, Bool.false_eq_true, Bool.true_eq_false] at h) <;> try (exfalso; first | omega | (simp at h; done)))))
          all_goals (try simp only [bytesOf_map])
          all_goals first
            | rfl
            | exact ⟨trivial, rfl⟩
            | exact ⟨trivial, trivial⟩
            | exact ⟨trivial, trivial, trivial⟩
            | exact ⟨trivial, trivial, trivial, trivial⟩
        · skip
          repeat' (first
              | ((with_reducible refine vc_chk ?_); first | decide +kernel | rfl)
              | (with_reducible refine vc_side0 ?_; rfl)
              | (with_reducible first
                   | refine vc_true ?_ | refine vc_true2 ?_ | refine vc_side ?_ ?_ | refine vc_triv | refine vc_later ?_ | refine vc_caseT ?_ | refine vc_caseF ?_ | refine vc_cons ?_ | refine vc_nil ?_ ?_ | refine vc_seq ?_
                      | refine vc_region ?_ | refine vc_cond ?_ | refine vc_block ?_ | refine vc_retc ?_ | refine vc_exit ?_ | refine vc_skip ?_ | refine vc_scope ?_ | refine vc_label ?_ | refine vc_goto ?_ | refine vc_wkSl0
                      | refine vc_wkHp0 | refine vc_eqAVs0 | refine vc_preG0 | refine vc_wkSl ?_ ?_ | refine vc_wkHp ?_ ?_ | refine vc_eqAVs ?_ ?_ | refine vc_preG ?_ ?_ | refine vc_side0 ?_
                      | refine vc_callAt [] 2008 (by with_unfolding_all rfl) (c0) ?_ | refine vc_callAt [] 2008 (by with_unfolding_all rfl) (c1) ?_ | refine vc_callAt [] 2008 (by with_unfolding_all rfl) (c2) ?_
                      | refine vc_callAt [] 2008 (by with_unfolding_all rfl) (c3) ?_ | refine vc_callAt [] 2008 (by with_unfolding_all rfl) (c4) ?_ | refine vc_pure c5 ?_ ?_ ?_ | refine vc_weakf [] ?_ ?_ ?_ | refine vc_and ?_ ?_
                      | refine vc_ret [] [] ?_)
              | ((with_reducible first | refine vc_caseD (fun h => ?_) (fun h => ?_) | refine vc_caseN (fun h => ?_) (fun h => ?_)) <;> try (exfalso; omega))
              | ((with_reducible refine vc_case (fun h => ?_) (fun h => ?_)) <;> (try simp only [Bool.cond_true_left, Bool.cond_false_right, Bool.cond_true_right, Bool.cond_false_left, Bool.and_eq_true, Bool.or_eq_true, Bool.and_eq_false_iff, Bool.or_eq_false_iff, Bool.not_eq_true', Bool.not_eq_false', Bool.not_eq_true, Bool.not_eq_false, Bool.not_not, decide_eq_true_eq, decide_eq_false_iff_not, beq_iff_eq, beq_eq_false_iff_ne, bne_iff_ne, bne_eq_false_iff_eq, ne_eq, Classical.not_not, reduceCtorEq, false_or, or_false, true_and, and_true, Bool.false_eq_true, Bool.true_eq_false] at h) <;> try (exfalso; first | omega | (simp at h; done)))
              | (conv in Vc _ => arg 1; whnf
                 first
                  | (with_reducible refine vc_side0 ?_; rfl)
                  | (with_reducible first
                      | refine vc_true ?_ | refine vc_true2 ?_ | refine vc_side ?_ ?_ | refine vc_triv | refine vc_later ?_ | refine vc_caseT ?_ | refine vc_caseF ?_ | refine vc_cons ?_ | refine vc_nil ?_ ?_ | refine vc_seq ?_
                         | refine vc_region ?_ | refine vc_cond ?_ | refine vc_block ?_ | refine vc_retc ?_ | refine vc_exit ?_ | refine vc_skip ?_ | refine vc_scope ?_ | refine vc_label ?_ | refine vc_goto ?_ | refine vc_wkSl0
                         | refine vc_wkHp0 | refine vc_eqAVs0 | refine vc_preG0 | refine vc_wkSl ?_ ?_ | refine vc_wkHp ?_ ?_ | refine vc_eqAVs ?_ ?_ | refine vc_preG ?_ ?_ | refine vc_side0 ?_
                         | refine vc_callAt [] 2008 (by with_unfolding_all rfl) (c0) ?_ | refine vc_callAt [] 2008 (by with_unfolding_all rfl) (c1) ?_ | refine vc_callAt [] 2008 (by with_unfolding_all rfl) (c2) ?_
                         | refine vc_callAt [] 2008 (by with_unfolding_all rfl) (c3) ?_ | refine vc_callAt [] 2008 (by with_unfolding_all rfl) (c4) ?_ | refine vc_pure c5 ?_ ?_ ?_ | refine vc_weakf [] ?_ ?_ ?_
                         | refine vc_and ?_ ?_ | refine vc_ret [] [] ?_)
                  | ((with_reducible first | refine vc_caseD (fun h => ?_) (fun h => ?_) | refine vc_caseN (fun h => ?_) (fun h => ?_)) <;> try (exfalso; omega))
                  | ((with_reducible refine vc_case (fun h => ?_) (fun h => ?_)) <;> (try simp only [Bool.cond_true_left, Bool.cond_false_right, Bool.cond_true_right, Bool.cond_false_left, Bool.and_eq_true, Bool.or_eq_true, Bool.and_eq_false_iff, Bool.or_eq_false_iff, Bool.not_eq_true', Bool.not_eq_false', Bool.not_eq_true, Bool.not_eq_false, Bool.not_not, decide_eq_true_eq, decide_eq_false_iff_not, beq_iff_eq, beq_eq_false_iff_ne, bne_iff_ne, bne_eq_false_iff_eq, ne_eq, Classical.not_not, reduceCtorEq, false_or, or_false, true_and, and_true, Bool.false_eq_true, Bool.true_eq_false] at h) <;> try (exfalso; first | omega | (simp at h; done)))))
          all_goals (try simp only [bytesOf_map])
          all_goals first
            | rfl
            | exact ⟨trivial, rfl⟩
            | exact ⟨trivial, trivial⟩
            | exact ⟨trivial, trivial, trivial⟩
            | exact ⟨trivial, trivial, trivial, trivial⟩
            | (exfalso; exact hy ⟨rfl, by omega, by assumption⟩)
      exact local_dn key
  · skip
    have hR : rdReq bs = bif b2 then none else bif decide (1 ≤ x0 ∧ checkI x1 x2 = 0) then some (⟨(x0 : Int), x1, x2, zero32⟩, k2) else none := by
      cases b0 <;> cases b1 <;> cases b2 <;> simp only [optR, cond_true, cond_false, reduceCtorEq] at q0 q1 q2 <;> first
        | (simp [rdReq, ← q0, rdAu_no (bs := bs) (n := x0) (k := k2) hk2]; done)
        | (simp [rdReq, ← q0, ← q1, rdAu_no (bs := bs) (n := x0) (k := k2) hk2]; done)
        | (simp [rdReq, ← q0, ← q1, ← q2, rdAu_no (bs := bs) (n := x0) (k := k2) hk2]; done)
    rw [hR] at hO
    generalize hq : (!b2 && decide (k2 = B.length)) = q
    have c4 := inDone_8 B k2 b2 q hq
    have c5 := rCheck_b x1 x2 m1
    dsimp only at c0 c1 c2 m1
    try dsimp only at c3
    by_cases hy : q = true ∧ 1 ≤ x0 ∧ checkI x1 x2 = 0
    · obtain ⟨rfl, hc⟩ := hy
      simp only [Bool.and_eq_true, Bool.not_eq_true', decide_eq_true_eq] at hq
      obtain ⟨rfl, hk⟩ := hq
      rw [cond_false, decide_eq_true hc, cond_true] at hO
      have : O = some ⟨(x0 : Int), x1, x2, zero32⟩ := by rw [← hO]; simp [toFin, hk, hlen]
      subst this
      refine vc_fn mixed Try.func31 rfl rfl [] (vc_chk rfl) ?_
      repeat' (first
          | ((with_reducible refine vc_chk ?_); first | decide +kernel | rfl)
          | (with_reducible refine vc_side0 ?_; rfl)
          | (with_reducible first
               | refine vc_true ?_ | refine vc_true2 ?_ | refine vc_side ?_ ?_ | refine vc_triv | refine vc_later ?_ | refine vc_caseT ?_ | refine vc_caseF ?_ | refine vc_cons ?_ | refine vc_nil ?_ ?_ | refine vc_seq ?_
                  | refine vc_region ?_ | refine vc_cond ?_ | refine vc_block ?_ | refine vc_retc ?_ | refine vc_exit ?_ | refine vc_skip ?_ | refine vc_scope ?_ | refine vc_label ?_ | refine vc_goto ?_ | refine vc_wkSl0
                  | refine vc_wkHp0 | refine vc_eqAVs0 | refine vc_preG0 | refine vc_wkSl ?_ ?_ | refine vc_wkHp ?_ ?_ | refine vc_eqAVs ?_ ?_ | refine vc_preG ?_ ?_ | refine vc_side0 ?_
                  | refine vc_callAt [] 2008 (by with_unfolding_all rfl) (c0) ?_ | refine vc_callAt [] 2008 (by with_unfolding_all rfl) (c1) ?_ | refine vc_callAt [] 2008 (by with_unfolding_all rfl) (c2) ?_
                  | refine vc_callAt [] 2008 (by with_unfolding_all rfl) (c4) ?_ | refine vc_pure c5 ?_ ?_ ?_ | refine vc_weakf [] ?_ ?_ ?_ | refine vc_and ?_ ?_ | refine vc_ret [] [] ?_)
          | ((with_reducible first | refine vc_caseD (fun h => ?_) (fun h => ?_) | refine vc_caseN (fun h => ?_) (fun h => ?_)) <;> try (exfalso; omega))
          | ((with_reducible refine vc_case (fun h => ?_) (fun h => ?_)) <;> (try simp only [Bool.cond_true_left, Bool.cond_false_right, Bool.cond_true_right, Bool.cond_false_left, Bool.and_eq_true, Bool.or_eq_true, Bool.and_eq_false_iff, Bool.or_eq_false_iff, Bool.not_eq_true', Bool.not_eq_false', Bool.not_eq_true, Bool.not_eq_false, Bool.not_not, decide_eq_true_eq, decide_eq_false_iff_not, beq_iff_eq, beq_eq_false_iff_ne, bne_iff_ne, bne_eq_false_iff_eq, ne_eq, Classical.not_not, reduceCtorEq, false_or, or_false, true_and, and_true, Bool.false_eq_true, Bool.true_eq_false] at h) <;> try (exfalso; first | omega | (simp at h; done)))
          | (conv in Vc _ => arg 1; whnf
             first
              | (with_reducible refine vc_side0 ?_; rfl)
              | (with_reducible first
                  | refine vc_true ?_ | refine vc_true2 ?_ | refine vc_side ?_ ?_ | refine vc_triv | refine vc_later ?_ | refine vc_caseT ?_ | refine vc_caseF ?_ | refine vc_cons ?_ | refine vc_nil ?_ ?_ | refine vc_seq ?_
                     | refine vc_region ?_ | refine vc_cond ?_ | refine vc_block ?_ | refine vc_retc ?_ | refine vc_exit ?_ | refine vc_skip ?_ | refine vc_scope ?_ | refine vc_label ?_ | refine vc_goto ?_ | refine vc_wkSl0
                     | refine vc_wkHp0 | refine vc_eqAVs0 | refine vc_preG0 | refine vc_wkSl ?_ ?_ | refine vc_wkHp ?_ ?_ | refine vc_eqAVs ?_ ?_ | refine vc_preG ?_ ?_ | refine vc_side0 ?_
                     | refine vc_callAt [] 2008 (by with_unfolding_all rfl) (c0) ?_ | refine vc_callAt [] 2008 (by with_unfolding_all rfl) (c1) ?_ | refine vc_callAt [] 2008 (by with_unfolding_all rfl) (c2) ?_
                     | refine vc_callAt [] 2008 (by with_unfolding_all rfl) (c4) ?_ | refine vc_pure c5 ?_ ?_ ?_ | refine vc_weakf [] ?_ ?_ ?_ | refine vc_and ?_ ?_ | refine vc_ret [] [] ?_)
              | ((with_reducible first | refine vc_caseD (fun h => ?_) (fun h => ?_) | refine vc_caseN (fun h => ?_) (fun h => ?_)) <;> try (exfalso; omega))
              | ((with_reducible refine vc_case (fun h => ?_) (fun h => ?_)) <;> (try simp only [Bool.cond_true_left, Bool.cond_false_right, Bool.cond_true_right, Bool.cond_false_left, Bool.and_eq_true, Bool.or_eq_true, Bool.and_eq_false_iff, Bool.or_eq_false_iff, Bool.not_eq_true', Bool.not_eq_false', Bool.not_eq_true, Bool.not_eq_false, Bool.not_not, decide_eq_true_eq, decide_eq_false_iff_not, beq_iff_eq, beq_eq_false_iff_ne, bne_iff_ne, bne_eq_false_iff_eq, ne_eq, Classical.not_not, reduceCtorEq, false_or, or_false, true_and, and_true, Bool.false_eq_true, Bool.true_eq_false] at h) <;> try (exfalso; first | omega | (simp at h; done)))))
      all_goals (try simp only [bytesOf_map])
      all_goals first
        | rfl
        | exact ⟨trivial, rfl⟩
        | exact ⟨trivial, trivial⟩
        | exact ⟨trivial, trivial, trivial⟩
        | exact ⟨trivial, trivial, trivial, trivial⟩
    · have : O = none := by
        rw [← hO]
        cases b2 with
        | true => rfl
        | false =>
          rw [cond_false]
          by_cases hc : 1 ≤ x0 ∧ checkI x1 x2 = 0
          · rw [decide_eq_true hc, cond_true]
            have : ¬ k2 = bs.length := fun hk => hy ⟨by rw [← hq, hk, hlen]; simp, hc⟩
            simp [toFin, this]
          · rw [decide_eq_false hc]; rfl
      subst this
      have key : LocalCall Try.prog 31 [.d (.sl B)] [] [] (one [.d (.st [.int .i64 0, .str ByteArray.empty, .nils, digD zero32]), .d (.int .i64 3)]) [] := by
        refine vc_fn mixed Try.func31 rfl rfl [] (vc_chk rfl) ?_
        cases q
        · skip
          repeat' (first
              | ((with_reducible refine vc_chk ?_); first | decide +kernel | rfl)
              | (with_reducible refine vc_side0 ?_; rfl)
              | (with_reducible first
                   | refine vc_true ?_ | refine vc_true2 ?_ | refine vc_side ?_ ?_ | refine vc_triv | refine vc_later ?_ | refine vc_caseT ?_ | refine vc_caseF ?_ | refine vc_cons ?_ | refine vc_nil ?_ ?_ | refine vc_seq ?_
                      | refine vc_region ?_ | refine vc_cond ?_ | refine vc_block ?_ | refine vc_retc ?_ | refine vc_exit ?_ | refine vc_skip ?_ | refine vc_scope ?_ | refine vc_label ?_ | refine vc_goto ?_ | refine vc_wkSl0
                      | refine vc_wkHp0 | refine vc_eqAVs0 | refine vc_preG0 | refine vc_wkSl ?_ ?_ | refine vc_wkHp ?_ ?_ | refine vc_eqAVs ?_ ?_ | refine vc_preG ?_ ?_ | refine vc_side0 ?_
                      | refine vc_callAt [] 2008 (by with_unfolding_all rfl) (c0) ?_ | refine vc_callAt [] 2008 (by with_unfolding_all rfl) (c1) ?_ | refine vc_callAt [] 2008 (by with_unfolding_all rfl) (c2) ?_
                      | refine vc_callAt [] 2008 (by with_unfolding_all rfl) (c4) ?_ | refine vc_pure c5 ?_ ?_ ?_ | refine vc_weakf [] ?_ ?_ ?_ | refine vc_and ?_ ?_ | refine vc_ret [] [] ?_)
              | ((with_reducible first | refine vc_caseD (fun h => ?_) (fun h => ?_) | refine vc_caseN (fun h => ?_) (fun h => ?_)) <;> try (exfalso; omega))
              | ((with_reducible refine vc_case (fun h => ?_) (fun h => ?_)) <;> (try simp only [Bool.cond_true_left, Bool.cond_false_right, Bool.cond_true_right, Bool.cond_false_left, Bool.and_eq_true, Bool.or_eq_true, Bool.and_eq_false_iff, Bool.or_eq_false_iff, Bool.not_eq_true', Bool.not_eq_false', Bool.not_eq_true, Bool.not_eq_false, Bool.not_not, decide_eq_true_eq, decide_eq_false_iff_not, beq_iff_eq, beq_eq_false_iff_ne, bne_iff_ne, bne_eq_false_iff_eq, ne_eq, Classical.not_not, reduceCtorEq, false_or, or_false, true_and, and_true, Bool.false_eq_true, Bool.true_eq_false] at h) <;> try (exfalso; first | omega | (simp at h; done)))
              | (conv in Vc _ => arg 1; whnf
                 first
                  | (with_reducible refine vc_side0 ?_; rfl)
                  | (with_reducible first
                      | refine vc_true ?_ | refine vc_true2 ?_ | refine vc_side ?_ ?_ | refine vc_triv | refine vc_later ?_ | refine vc_caseT ?_ | refine vc_caseF ?_ | refine vc_cons ?_ | refine vc_nil ?_ ?_ | refine vc_seq ?_
                         | refine vc_region ?_ | refine vc_cond ?_ | refine vc_block ?_ | refine vc_retc ?_ | refine vc_exit ?_ | refine vc_skip ?_ | refine vc_scope ?_ | refine vc_label ?_ | refine vc_goto ?_ | refine vc_wkSl0
                         | refine vc_wkHp0 | refine vc_eqAVs0 | refine vc_preG0 | refine vc_wkSl ?_ ?_ | refine vc_wkHp ?_ ?_ | refine vc_eqAVs ?_ ?_ | refine vc_preG ?_ ?_ | refine vc_side0 ?_
                         | refine vc_callAt [] 2008 (by with_unfolding_all rfl) (c0) ?_ | refine vc_callAt [] 2008 (by with_unfolding_all rfl) (c1) ?_ | refine vc_callAt [] 2008 (by with_unfolding_all rfl) (c2) ?_
                         | refine vc_callAt [] 2008 (by with_unfolding_all rfl) (c4) ?_ | refine vc_pure c5 ?_ ?_ ?_ | refine vc_weakf [] ?_ ?_ ?_ | refine vc_and ?_ ?_ | refine vc_ret [] [] ?_)
                  | ((with_reducible first | refine vc_caseD (fun h => ?_) (fun h => ?_) | refine vc_caseN (fun h => ?_) (fun h => ?_)) <;> try (exfalso; omega))
                  | ((with_reducible refine vc_case (fun h => ?_) (fun h => ?_)) <;> (try simp only [Bool.cond_true_left, Bool.cond_false_right, Bool.cond_true_right, Bool.cond_false_left, Bool.and_eq_true, Bool.or_eq_true, Bool.and_eq_false_iff, Bool.or_eq_false_iff, Bool.not_eq_true', Bool.not_eq_false', Bool.not_eq_true, Bool.not_eq_false, Bool.not_not, decide_eq_true_eq, decide_eq_false_iff_not, beq_iff_eq, beq_eq_false_iff_ne, bne_iff_ne, bne_eq_false_iff_eq, ne_eq, Classical.not_not, reduceCtorEq, false_or, or_false, true_and, and_true, Bool.false_eq_true, Bool.true_eq_false] at h) <;> try (exfalso; first | omega | (simp at h; done)))))
          all_goals (try simp only [bytesOf_map])
          all_goals first
            | rfl
            | exact ⟨trivial, rfl⟩
            | exact ⟨trivial, trivial⟩
            | exact ⟨trivial, trivial, trivial⟩
            | exact ⟨trivial, trivial, trivial, trivial⟩
        · skip
          repeat' (first
              | ((with_reducible refine vc_chk ?_); first | decide +kernel | rfl)
              | (with_reducible refine vc_side0 ?_; rfl)
              | (with_reducible first
                   | refine vc_true ?_ | refine vc_true2 ?_ | refine vc_side ?_ ?_ | refine vc_triv | refine vc_later ?_ | refine vc_caseT ?_ | refine vc_caseF ?_ | refine vc_cons ?_ | refine vc_nil ?_ ?_ | refine vc_seq ?_
                      | refine vc_region ?_ | refine vc_cond ?_ | refine vc_block ?_ | refine vc_retc ?_ | refine vc_exit ?_ | refine vc_skip ?_ | refine vc_scope ?_ | refine vc_label ?_ | refine vc_goto ?_ | refine vc_wkSl0
                      | refine vc_wkHp0 | refine vc_eqAVs0 | refine vc_preG0 | refine vc_wkSl ?_ ?_ | refine vc_wkHp ?_ ?_ | refine vc_eqAVs ?_ ?_ | refine vc_preG ?_ ?_ | refine vc_side0 ?_
                      | refine vc_callAt [] 2008 (by with_unfolding_all rfl) (c0) ?_ | refine vc_callAt [] 2008 (by with_unfolding_all rfl) (c1) ?_ | refine vc_callAt [] 2008 (by with_unfolding_all rfl) (c2) ?_
                      | refine vc_callAt [] 2008 (by with_unfolding_all rfl) (c4) ?_ | refine vc_pure c5 ?_ ?_ ?_ | refine vc_weakf [] ?_ ?_ ?_ | refine vc_and ?_ ?_ | refine vc_ret [] [] ?_)
              | ((with_reducible first | refine vc_caseD (fun h => ?_) (fun h => ?_) | refine vc_caseN (fun h => ?_) (fun h => ?_)) <;> try (exfalso; omega))
              | ((with_reducible refine vc_case (fun h => ?_) (fun h => ?_)) <;> (try simp only [Bool.cond_true_left, Bool.cond_false_right, Bool.cond_true_right, Bool.cond_false_left, Bool.and_eq_true, Bool.or_eq_true, Bool.and_eq_false_iff, Bool.or_eq_false_iff, Bool.not_eq_true', Bool.not_eq_false', Bool.not_eq_true, Bool.not_eq_false, Bool.not_not, decide_eq_true_eq, decide_eq_false_iff_not, beq_iff_eq, beq_eq_false_iff_ne, bne_iff_ne, bne_eq_false_iff_eq, ne_eq, Classical.not_not, reduceCtorEq, false_or, or_false, true_and, and_true, Bool.false_eq_true, Bool.true_eq_false] at h) <;> try (exfalso; first | omega | (simp at h; done)))
              | (conv in Vc _ => arg 1; whnf
                 first
                  | (with_reducible refine vc_side0 ?_; rfl)
                  | (with_reducible first
                      | refine vc_true ?_ | refine vc_true2 ?_ | refine vc_side ?_ ?_ | refine vc_triv | refine vc_later ?_ | refine vc_caseT ?_ | refine vc_caseF ?_ | refine vc_cons ?_ | refine vc_nil ?_ ?_ | refine vc_seq ?_
                         | refine vc_region ?_ | refine vc_cond ?_ | refine vc_block ?_ | refine vc_retc ?_ | refine vc_exit ?_ | refine vc_skip ?_ | refine vc_scope ?_ | refine vc_label ?_ | refine vc_goto ?_ | refine vc_wkSl0
                         | refine vc_wkHp0 | refine vc_eqAVs0 | refine vc_preG0 | refine vc_wkSl ?_ ?_ | refine vc_wkHp ?_ ?_ | refine vc_eqAVs ?_ ?_ | refine vc_preG ?_ ?_ | refine vc_side0 ?_
                         | refine vc_callAt [] 2008 (by with_unfolding_all rfl) (c0) ?_ | refine vc_callAt [] 2008 (by with_unfolding_all rfl) (c1) ?_ | refine vc_callAt [] 2008 (by with_unfolding_all rfl) (c2) ?_
                         | refine vc_callAt [] 2008 (by with_unfolding_all rfl) (c4) ?_ | refine vc_pure c5 ?_ ?_ ?_ | refine vc_weakf [] ?_ ?_ ?_ | refine vc_and ?_ ?_ | refine vc_ret [] [] ?_)
                  | ((with_reducible first | refine vc_caseD (fun h => ?_) (fun h => ?_) | refine vc_caseN (fun h => ?_) (fun h => ?_)) <;> try (exfalso; omega))
                  | ((with_reducible refine vc_case (fun h => ?_) (fun h => ?_)) <;> (try simp only [Bool.cond_true_left, Bool.cond_false_right, Bool.cond_true_right, Bool.cond_false_left, Bool.and_eq_true, Bool.or_eq_true, Bool.and_eq_false_iff, Bool.or_eq_false_iff, Bool.not_eq_true', Bool.not_eq_false', Bool.not_eq_true, Bool.not_eq_false, Bool.not_not, decide_eq_true_eq, decide_eq_false_iff_not, beq_iff_eq, beq_eq_false_iff_ne, bne_iff_ne, bne_eq_false_iff_eq, ne_eq, Classical.not_not, reduceCtorEq, false_or, or_false, true_and, and_true, Bool.false_eq_true, Bool.true_eq_false] at h) <;> try (exfalso; first | omega | (simp at h; done)))))
          all_goals (try simp only [bytesOf_map])
          all_goals first
            | rfl
            | exact ⟨trivial, rfl⟩
            | exact ⟨trivial, trivial⟩
            | exact ⟨trivial, trivial, trivial⟩
            | exact ⟨trivial, trivial, trivial, trivial⟩
            | (exfalso; exact hy ⟨rfl, by omega, by assumption⟩)
      exact local_dn key

theorem rSgn_ok (B : List D) (bs : List UInt8) (hB : B = bs.map byteD) (hl : bs.length < 2 ^ 63) (O : Option Sgn) (hO : toFin bs.length (rdSgn bs) = O) :
    LocalCall Try.prog 33 [.d (.sl B)] [] [] (one [.d (sD (O.getD s0)), .d (.int .i64 (errI O))]) [] := by
  have hlen : B.length = bs.length := by rw [hB]; simp
  have c0 := inNum_8 B bs hB 0 false (Nat.zero_le _) hl
  have l0 := inNs_le bs false 0 (Nat.zero_le _)
  have q0 := inNs_opt bs false 0
  generalize inNs bs false 0 = r0 at c0 l0 q0
  obtain ⟨x0, k0, b0⟩ := r0
  have c1 := inDig_8 B bs hB k0 b0 l0 hl
  have l1 := inGs_le bs b0 k0 l0
  have q1 := inGs_opt bs b0 k0
  generalize inGs bs b0 k0 = r1 at c1 l1 q1
  obtain ⟨x1, k1, b1⟩ := r1
  have c2 := inDig_8 B bs hB k1 b1 l1 hl
  have l2 := inGs_le bs b1 k1 l1
  have q2 := inGs_opt bs b1 k1
  generalize inGs bs b1 k1 = r2 at c2 l2 q2
  obtain ⟨x2, k2, b2⟩ := r2
  have c3 := inDig_8 B bs hB k2 b2 l2 hl
  have l3 := inGs_le bs b2 k2 l2
  have q3 := inGs_opt bs b2 k2
  generalize inGs bs b2 k2 = r3 at c3 l3 q3
  obtain ⟨x3, k3, b3⟩ := r3
  have c4 := inText_8 B bs hB k3 b3 l3 hl
  have l4 := inTs_le bs b3 k3 l3
  have q4 := inTs_opt bs b3 k3
  generalize inTs bs b3 k3 = r4 at c4 l4 q4
  obtain ⟨x4, k4, b4⟩ := r4
  have hR : rdSgn bs = bif b4 then none else some (⟨⟨x0, x1, x2, x3⟩, x4⟩, k4) := by
    cases b0 <;> cases b1 <;> cases b2 <;> cases b3 <;> cases b4 <;> simp only [optR, cond_true, cond_false, reduceCtorEq] at q0 q1 q2 q3 q4 <;> first
      | (simp [rdSgn, ← q0]; done)
      | (simp [rdSgn, ← q0, ← q1]; done)
      | (simp [rdSgn, ← q0, ← q1, ← q2]; done)
      | (simp [rdSgn, ← q0, ← q1, ← q2, ← q3]; done)
      | (simp [rdSgn, ← q0, ← q1, ← q2, ← q3, ← q4]; done)
  rw [hR] at hO
  generalize hq : (!b4 && decide (k4 = B.length)) = q
  have c6 := inDone_8 B k4 b4 q hq
  dsimp only at c0 c1 c2 c3 c4
  cases q
  · have : O = none := by
      rw [← hO]
      cases b4 with
      | true => rfl
      | false =>
        rw [cond_false]
        have : ¬ k4 = bs.length := fun hk => by rw [hk, hlen] at hq; simp at hq
        simp [toFin, this]
    subst this
    have key : LocalCall Try.prog 33 [.d (.sl B)] [] [] (one [.d (.st [.st [.int .u64 0, digD zero32, digD zero32, digD zero32], .nils]), .d (.int .i64 3)]) [] := by
      refine vc_fn mixed Try.func33 rfl rfl [] (vc_chk rfl) ?_
      repeat' (first
          | ((with_reducible refine vc_chk ?_); first | decide +kernel | rfl)
          | (with_reducible refine vc_side0 ?_; rfl)
          | (with_reducible first
               | refine vc_true ?_ | refine vc_true2 ?_ | refine vc_side ?_ ?_ | refine vc_triv | refine vc_later ?_ | refine vc_caseT ?_ | refine vc_caseF ?_ | refine vc_cons ?_ | refine vc_nil ?_ ?_ | refine vc_seq ?_
                  | refine vc_region ?_ | refine vc_cond ?_ | refine vc_block ?_ | refine vc_retc ?_ | refine vc_exit ?_ | refine vc_skip ?_ | refine vc_scope ?_ | refine vc_label ?_ | refine vc_goto ?_ | refine vc_wkSl0
                  | refine vc_wkHp0 | refine vc_eqAVs0 | refine vc_preG0 | refine vc_wkSl ?_ ?_ | refine vc_wkHp ?_ ?_ | refine vc_eqAVs ?_ ?_ | refine vc_preG ?_ ?_ | refine vc_side0 ?_
                  | refine vc_callAt [] 2008 (by with_unfolding_all rfl) (c0) ?_ | refine vc_callAt [] 2008 (by with_unfolding_all rfl) (c1) ?_ | refine vc_callAt [] 2008 (by with_unfolding_all rfl) (c2) ?_
                  | refine vc_callAt [] 2008 (by with_unfolding_all rfl) (c3) ?_ | refine vc_callAt [] 2008 (by with_unfolding_all rfl) (c4) ?_ | refine vc_callAt [] 2008 (by with_unfolding_all rfl) (c6) ?_
                  | refine vc_weakf [] ?_ ?_ ?_ | refine vc_and ?_ ?_ | refine vc_ret [] [] ?_)
          | ((with_reducible first | refine vc_caseD (fun h => ?_) (fun h => ?_) | refine vc_caseN (fun h => ?_) (fun h => ?_)) <;> try (exfalso; omega))
          | ((with_reducible refine vc_case (fun h => ?_) (fun h => ?_)) <;> (try simp only [Bool.cond_true_left, Bool.cond_false_right, Bool.cond_true_right, Bool.cond_false_left, Bool.and_eq_true, Bool.or_eq_true, Bool.and_eq_false_iff, Bool.or_eq_false_iff, Bool.not_eq_true', Bool.not_eq_false', Bool.not_eq_true, Bool.not_eq_false, Bool.not_not, decide_eq_true_eq, decide_eq_false_iff_not, beq_iff_eq, beq_eq_false_iff_ne, bne_iff_ne, bne_eq_false_iff_eq, ne_eq, Classical.not_not, reduceCtorEq, false_or, or_false, true_and, and_true, Bool.false_eq_true, Bool.true_eq_false] at h) <;> try (exfalso; first | omega | (simp at h; done)))
          | (conv in Vc _ => arg 1; whnf
             first
              | (with_reducible refine vc_side0 ?_; rfl)
              | (with_reducible first
                  | refine vc_true ?_ | refine vc_true2 ?_ | refine vc_side ?_ ?_ | refine vc_triv | refine vc_later ?_ | refine vc_caseT ?_ | refine vc_caseF ?_ | refine vc_cons ?_ | refine vc_nil ?_ ?_ | refine vc_seq ?_
                     | refine vc_region ?_ | refine vc_cond ?_ | refine vc_block ?_ | refine vc_retc ?_ | refine vc_exit ?_ | refine vc_skip ?_ | refine vc_scope ?_ | refine vc_label ?_ | refine vc_goto ?_ | refine vc_wkSl0
                     | refine vc_wkHp0 | refine vc_eqAVs0 | refine vc_preG0 | refine vc_wkSl ?_ ?_ | refine vc_wkHp ?_ ?_ | refine vc_eqAVs ?_ ?_ | refine vc_preG ?_ ?_ | refine vc_side0 ?_
                     | refine vc_callAt [] 2008 (by with_unfolding_all rfl) (c0) ?_ | refine vc_callAt [] 2008 (by with_unfolding_all rfl) (c1) ?_ | refine vc_callAt [] 2008 (by with_unfolding_all rfl) (c2) ?_
                     | refine vc_callAt [] 2008 (by with_unfolding_all rfl) (c3) ?_ | refine vc_callAt [] 2008 (by with_unfolding_all rfl) (c4) ?_ | refine vc_callAt [] 2008 (by with_unfolding_all rfl) (c6) ?_
                     | refine vc_weakf [] ?_ ?_ ?_ | refine vc_and ?_ ?_ | refine vc_ret [] [] ?_)
              | ((with_reducible first | refine vc_caseD (fun h => ?_) (fun h => ?_) | refine vc_caseN (fun h => ?_) (fun h => ?_)) <;> try (exfalso; omega))
              | ((with_reducible refine vc_case (fun h => ?_) (fun h => ?_)) <;> (try simp only [Bool.cond_true_left, Bool.cond_false_right, Bool.cond_true_right, Bool.cond_false_left, Bool.and_eq_true, Bool.or_eq_true, Bool.and_eq_false_iff, Bool.or_eq_false_iff, Bool.not_eq_true', Bool.not_eq_false', Bool.not_eq_true, Bool.not_eq_false, Bool.not_not, decide_eq_true_eq, decide_eq_false_iff_not, beq_iff_eq, beq_eq_false_iff_ne, bne_iff_ne, bne_eq_false_iff_eq, ne_eq, Classical.not_not, reduceCtorEq, false_or, or_false, true_and, and_true, Bool.false_eq_true, Bool.true_eq_false] at h) <;> try (exfalso; first | omega | (simp at h; done)))))
      all_goals first | rfl | exact ⟨trivial, rfl⟩ | exact ⟨trivial, trivial⟩ | exact ⟨trivial, trivial, trivial⟩ | exact ⟨trivial, trivial, trivial, trivial⟩
    exact local_dn key
  · simp only [Bool.and_eq_true, Bool.not_eq_true', decide_eq_true_eq] at hq
    obtain ⟨rfl, hk⟩ := hq
    rw [cond_false] at hO
    have : O = some ⟨⟨x0, x1, x2, x3⟩, x4⟩ := by rw [← hO]; simp [toFin, hk, hlen]
    subst this
    refine vc_fn mixed Try.func33 rfl rfl [] (vc_chk rfl) ?_
    repeat' (first
        | ((with_reducible refine vc_chk ?_); first | decide +kernel | rfl)
        | (with_reducible refine vc_side0 ?_; rfl)
        | (with_reducible first
             | refine vc_true ?_ | refine vc_true2 ?_ | refine vc_side ?_ ?_ | refine vc_triv | refine vc_later ?_ | refine vc_caseT ?_ | refine vc_caseF ?_ | refine vc_cons ?_ | refine vc_nil ?_ ?_ | refine vc_seq ?_
                | refine vc_region ?_ | refine vc_cond ?_ | refine vc_block ?_ | refine vc_retc ?_ | refine vc_exit ?_ | refine vc_skip ?_ | refine vc_scope ?_ | refine vc_label ?_ | refine vc_goto ?_ | refine vc_wkSl0
                | refine vc_wkHp0 | refine vc_eqAVs0 | refine vc_preG0 | refine vc_wkSl ?_ ?_ | refine vc_wkHp ?_ ?_ | refine vc_eqAVs ?_ ?_ | refine vc_preG ?_ ?_ | refine vc_side0 ?_
                | refine vc_callAt [] 2008 (by with_unfolding_all rfl) (c0) ?_ | refine vc_callAt [] 2008 (by with_unfolding_all rfl) (c1) ?_ | refine vc_callAt [] 2008 (by with_unfolding_all rfl) (c2) ?_
                | refine vc_callAt [] 2008 (by with_unfolding_all rfl) (c3) ?_ | refine vc_callAt [] 2008 (by with_unfolding_all rfl) (c4) ?_ | refine vc_callAt [] 2008 (by with_unfolding_all rfl) (c6) ?_
                | refine vc_weakf [] ?_ ?_ ?_ | refine vc_and ?_ ?_ | refine vc_ret [] [] ?_)
        | ((with_reducible first | refine vc_caseD (fun h => ?_) (fun h => ?_) | refine vc_caseN (fun h => ?_) (fun h => ?_)) <;> try (exfalso; omega))
        | ((with_reducible refine vc_case (fun h => ?_) (fun h => ?_)) <;> (try simp only [Bool.cond_true_left, Bool.cond_false_right, Bool.cond_true_right, Bool.cond_false_left, Bool.and_eq_true, Bool.or_eq_true, Bool.and_eq_false_iff, Bool.or_eq_false_iff, Bool.not_eq_true', Bool.not_eq_false', Bool.not_eq_true, Bool.not_eq_false, Bool.not_not, decide_eq_true_eq, decide_eq_false_iff_not, beq_iff_eq, beq_eq_false_iff_ne, bne_iff_ne, bne_eq_false_iff_eq, ne_eq, Classical.not_not, reduceCtorEq, false_or, or_false, true_and, and_true, Bool.false_eq_true, Bool.true_eq_false] at h) <;> try (exfalso; first | omega | (simp at h; done)))
        | (conv in Vc _ => arg 1; whnf
           first
            | (with_reducible refine vc_side0 ?_; rfl)
            | (with_reducible first
                | refine vc_true ?_ | refine vc_true2 ?_ | refine vc_side ?_ ?_ | refine vc_triv | refine vc_later ?_ | refine vc_caseT ?_ | refine vc_caseF ?_ | refine vc_cons ?_ | refine vc_nil ?_ ?_ | refine vc_seq ?_
                   | refine vc_region ?_ | refine vc_cond ?_ | refine vc_block ?_ | refine vc_retc ?_ | refine vc_exit ?_ | refine vc_skip ?_ | refine vc_scope ?_ | refine vc_label ?_ | refine vc_goto ?_ | refine vc_wkSl0
                   | refine vc_wkHp0 | refine vc_eqAVs0 | refine vc_preG0 | refine vc_wkSl ?_ ?_ | refine vc_wkHp ?_ ?_ | refine vc_eqAVs ?_ ?_ | refine vc_preG ?_ ?_ | refine vc_side0 ?_
                   | refine vc_callAt [] 2008 (by with_unfolding_all rfl) (c0) ?_ | refine vc_callAt [] 2008 (by with_unfolding_all rfl) (c1) ?_ | refine vc_callAt [] 2008 (by with_unfolding_all rfl) (c2) ?_
                   | refine vc_callAt [] 2008 (by with_unfolding_all rfl) (c3) ?_ | refine vc_callAt [] 2008 (by with_unfolding_all rfl) (c4) ?_ | refine vc_callAt [] 2008 (by with_unfolding_all rfl) (c6) ?_
                   | refine vc_weakf [] ?_ ?_ ?_ | refine vc_and ?_ ?_ | refine vc_ret [] [] ?_)
            | ((with_reducible first | refine vc_caseD (fun h => ?_) (fun h => ?_) | refine vc_caseN (fun h => ?_) (fun h => ?_)) <;> try (exfalso; omega))
            | ((with_reducible refine vc_case (fun h => ?_) (fun h => ?_)) <;> (try simp only [Bool.cond_true_left, Bool.cond_false_right, Bool.cond_true_right, Bool.cond_false_left, Bool.and_eq_true, Bool.or_eq_true, Bool.and_eq_false_iff, Bool.or_eq_false_iff, Bool.not_eq_true', Bool.not_eq_false', Bool.not_eq_true, Bool.not_eq_false, Bool.not_not, decide_eq_true_eq, decide_eq_false_iff_not, beq_iff_eq, beq_eq_false_iff_ne, bne_iff_ne, bne_eq_false_iff_eq, ne_eq, Classical.not_not, reduceCtorEq, false_or, or_false, true_and, and_true, Bool.false_eq_true, Bool.true_eq_false] at h) <;> try (exfalso; first | omega | (simp at h; done)))))
    all_goals first | rfl | exact ⟨trivial, rfl⟩ | exact ⟨trivial, trivial⟩ | exact ⟨trivial, trivial, trivial⟩ | exact ⟨trivial, trivial, trivial, trivial⟩

end Go.Proofs.Ytogncghpngmjpaa
