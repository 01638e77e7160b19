import Derived.Test.YthedcaopedbpdaaJ1
import Derived.Test.YthedcaopedbpdaaJ2
import Derived.Test.YthedcaopedbpdaaJ3
import Derived.Test.YthedcaopedbpdaaJ4
import Derived.Test.YthedcaopedbpdaaJ5
import Derived.Test.YthedcaopedbpdaaProg
set_option linter.unusedSimpArgs false
set_option linter.unusedVariables false
/-
The closure that the law CodecReader reads with.
-/
namespace Go.Proofs.Ythedcaopedbpdaa
open Go.Sym
set_option maxRecDepth 10000
set_option maxHeartbeats 8000000

def zero32 : List UInt8 := List.replicate 32 0
/-- A digest, if there is a number above nought. -/
def rdD (bs : List UInt8) (n k : Nat) : Option (List UInt8 × Nat) := bif decide (0 < n) then (bif decide (k + 32 ≤ bs.length) then some ((bs.drop k).take 32, k + 32) else none) else some (zero32, k)

theorem rdD_yes {bs d : List UInt8} {n k e : Nat} (h : rdD bs n k = some (d, e)) : (n = 0 ∧ d = zero32 ∧ e = k) ∨ (0 < n ∧ k + 32 ≤ bs.length ∧ d = (bs.drop k).take 32 ∧ e = k + 32) := by
  unfold rdD at h
  by_cases hn : 0 < n
  · rw [decide_eq_true hn, cond_true] at h
    by_cases hk : k + 32 ≤ bs.length
    · rw [decide_eq_true hk, cond_true] at h
      cases h
      exact .inr ⟨hn, hk, rfl, rfl⟩
    · rw [decide_eq_false hk, cond_false] at h; cases h
  · rw [decide_eq_false hn, cond_false] at h
    cases h
    exact .inl ⟨by omega, rfl, rfl⟩

theorem rdD_no {bs : List UInt8} {n k : Nat} (h : rdD bs n k = none) : 0 < n ∧ ¬ k + 32 ≤ bs.length := by
  unfold rdD at h
  by_cases hn : 0 < n
  · rw [decide_eq_true hn, cond_true] at h
    by_cases hk : k + 32 ≤ bs.length
    · rw [decide_eq_true hk, cond_true] at h; cases h
    · exact ⟨hn, hk⟩
  · rw [decide_eq_false hn, cond_false] at h; cases h

def crPre (B : List D) (most : Int) : List (Nat × AObj) := [(9, rd B 0), (8, .var (.d (.int .i64 most))), (7, .var (.d (.int .i64 0))), (6, .var (.d (.arr 32 1 (zero32.map byteD)))), (5, .var (.d .nils))]

theorem cr_in (B : List D) (bs : List UInt8) (hB : B = bs.map byteD) (most : Int) (hm : most < 2 ^ 63) (n k k2 e : Nat) (d t : List UInt8) (hc : rdC bs most 0 = some (n, k)) (h2 : ¬ n = 2) (hd : rdD bs n k = some (d, k2)) (ht : rdT bs k2 = some (t, e)) (hl : bs.length < 2 ^ 62) :
    LocalCall Try.prog 19 [.ptr 9 [], .ptr 8 [], .ptr 7 [], .ptr 6 [], .ptr 5 []] (crPre B most) [] (one []) [(9, rd B e), (7, .var (.d (.int .i64 (n : Int)))), (6, .var (.d (.arr 32 1 (d.map byteD)))), (5, .var (.d (.sl (t.map byteD))))] := by
  refine vc_fn mixed Try.func19 rfl rfl [] (vc_chk rfl) ?_
  have c1 := count_ok B bs hB most 0 n k hc hm hl
  rcases rdD_yes hd with ⟨hn, rfl, rfl⟩ | ⟨hn, hk, rfl, rfl⟩
  · skip
    repeat' (first
        | ((with_reducible refine vc_chk ?_); first | decide +kernel | rfl)
        | (with_reducible refine vc_side0 ?_; rfl)
        | (with_reducible first
             | refine vc_true ?_ | refine vc_true2 ?_ | refine vc_side ?_ ?_ | refine vc_triv | refine vc_later ?_ | refine vc_caseT ?_ | refine vc_caseF ?_ | refine vc_cons ?_ | refine vc_nil ?_ ?_ | refine vc_seq ?_
                | refine vc_region ?_ | refine vc_cond ?_ | refine vc_block ?_ | refine vc_retc ?_ | refine vc_exit ?_ | refine vc_skip ?_ | refine vc_scope ?_ | refine vc_label ?_ | refine vc_goto ?_ | refine vc_wkSl0
                | refine vc_wkHp0 | refine vc_eqAVs0 | refine vc_preG0 | refine vc_wkSl ?_ ?_ | refine vc_wkHp ?_ ?_ | refine vc_eqAVs ?_ ?_ | refine vc_preG ?_ ?_ | refine vc_weakf [] ?_ ?_ ?_ | refine vc_side0 ?_
                | refine vc_and ?_ ?_ | refine vc_call [] c1 ?_ | refine vc_call [] (text_read B bs t hB k2 e ht hl) ?_ | refine vc_ret [] [] ?_)
        | ((with_reducible first | refine vc_caseD (fun h => ?_) (fun h => ?_) | refine vc_caseN (fun h => ?_) (fun h => ?_)) <;> try (exfalso; omega))
        | ((with_reducible refine vc_case (fun h => ?_) (fun h => ?_)) <;> (try simp only [Bool.cond_true_left, Bool.cond_false_right, Bool.cond_true_right, Bool.cond_false_left, Bool.and_eq_true, Bool.or_eq_true, Bool.and_eq_false_iff, Bool.or_eq_false_iff, Bool.not_eq_true', Bool.not_eq_false', Bool.not_eq_true, Bool.not_eq_false, Bool.not_not, decide_eq_true_eq, decide_eq_false_iff_not, beq_iff_eq, beq_eq_false_iff_ne, bne_iff_ne, bne_eq_false_iff_eq, ne_eq, Classical.not_not] at h) <;> try (exfalso; first | omega | (simp at h; done)))
        | (conv in Vc _ => arg 1; whnf
           first
            | (with_reducible refine vc_side0 ?_; rfl)
            | (with_reducible first
                | refine vc_true ?_ | refine vc_true2 ?_ | refine vc_side ?_ ?_ | refine vc_triv | refine vc_later ?_ | refine vc_caseT ?_ | refine vc_caseF ?_ | refine vc_cons ?_ | refine vc_nil ?_ ?_ | refine vc_seq ?_
                   | refine vc_region ?_ | refine vc_cond ?_ | refine vc_block ?_ | refine vc_retc ?_ | refine vc_exit ?_ | refine vc_skip ?_ | refine vc_scope ?_ | refine vc_label ?_ | refine vc_goto ?_ | refine vc_wkSl0
                   | refine vc_wkHp0 | refine vc_eqAVs0 | refine vc_preG0 | refine vc_wkSl ?_ ?_ | refine vc_wkHp ?_ ?_ | refine vc_eqAVs ?_ ?_ | refine vc_preG ?_ ?_ | refine vc_weakf [] ?_ ?_ ?_ | refine vc_side0 ?_
                   | refine vc_and ?_ ?_ | refine vc_call [] c1 ?_ | refine vc_call [] (text_read B bs t hB k2 e ht hl) ?_ | refine vc_ret [] [] ?_)
            | ((with_reducible first | refine vc_caseD (fun h => ?_) (fun h => ?_) | refine vc_caseN (fun h => ?_) (fun h => ?_)) <;> try (exfalso; omega))
            | ((with_reducible refine vc_case (fun h => ?_) (fun h => ?_)) <;> (try simp only [Bool.cond_true_left, Bool.cond_false_right, Bool.cond_true_right, Bool.cond_false_left, Bool.and_eq_true, Bool.or_eq_true, Bool.and_eq_false_iff, Bool.or_eq_false_iff, Bool.not_eq_true', Bool.not_eq_false', Bool.not_eq_true, Bool.not_eq_false, Bool.not_not, decide_eq_true_eq, decide_eq_false_iff_not, beq_iff_eq, beq_eq_false_iff_ne, bne_iff_ne, bne_eq_false_iff_eq, ne_eq, Classical.not_not] at h) <;> try (exfalso; first | omega | (simp at h; done)))))
    all_goals rfl
  · skip
    repeat' (first
        | ((with_reducible refine vc_chk ?_); first | decide +kernel | rfl)
        | (with_reducible refine vc_side0 ?_; rfl)
        | (with_reducible first
             | refine vc_true ?_ | refine vc_true2 ?_ | refine vc_side ?_ ?_ | refine vc_triv | refine vc_later ?_ | refine vc_caseT ?_ | refine vc_caseF ?_ | refine vc_cons ?_ | refine vc_nil ?_ ?_ | refine vc_seq ?_
                | refine vc_region ?_ | refine vc_cond ?_ | refine vc_block ?_ | refine vc_retc ?_ | refine vc_exit ?_ | refine vc_skip ?_ | refine vc_scope ?_ | refine vc_label ?_ | refine vc_goto ?_ | refine vc_wkSl0
                | refine vc_wkHp0 | refine vc_eqAVs0 | refine vc_preG0 | refine vc_wkSl ?_ ?_ | refine vc_wkHp ?_ ?_ | refine vc_eqAVs ?_ ?_ | refine vc_preG ?_ ?_ | refine vc_weakf [] ?_ ?_ ?_ | refine vc_side0 ?_
                | refine vc_and ?_ ?_ | refine vc_call [] c1 ?_ | refine vc_call [] (dig_read B bs hB k hk hl) ?_ | refine vc_call [] (text_read B bs t hB (k + 32) e ht hl) ?_ | refine vc_ret [] [] ?_)
        | ((with_reducible first | refine vc_caseD (fun h => ?_) (fun h => ?_) | refine vc_caseN (fun h => ?_) (fun h => ?_)) <;> try (exfalso; omega))
        | ((with_reducible refine vc_case (fun h => ?_) (fun h => ?_)) <;> (try simp only [Bool.cond_true_left, Bool.cond_false_right, Bool.cond_true_right, Bool.cond_false_left, Bool.and_eq_true, Bool.or_eq_true, Bool.and_eq_false_iff, Bool.or_eq_false_iff, Bool.not_eq_true', Bool.not_eq_false', Bool.not_eq_true, Bool.not_eq_false, Bool.not_not, decide_eq_true_eq, decide_eq_false_iff_not, beq_iff_eq, beq_eq_false_iff_ne, bne_iff_ne, bne_eq_false_iff_eq, ne_eq, Classical.not_not] at h) <;> try (exfalso; first | omega | (simp at h; done)))
        | (conv in Vc _ => arg 1; whnf
           first
            | (with_reducible refine vc_side0 ?_; rfl)
            | (with_reducible first
                | refine vc_true ?_ | refine vc_true2 ?_ | refine vc_side ?_ ?_ | refine vc_triv | refine vc_later ?_ | refine vc_caseT ?_ | refine vc_caseF ?_ | refine vc_cons ?_ | refine vc_nil ?_ ?_ | refine vc_seq ?_
                   | refine vc_region ?_ | refine vc_cond ?_ | refine vc_block ?_ | refine vc_retc ?_ | refine vc_exit ?_ | refine vc_skip ?_ | refine vc_scope ?_ | refine vc_label ?_ | refine vc_goto ?_ | refine vc_wkSl0
                   | refine vc_wkHp0 | refine vc_eqAVs0 | refine vc_preG0 | refine vc_wkSl ?_ ?_ | refine vc_wkHp ?_ ?_ | refine vc_eqAVs ?_ ?_ | refine vc_preG ?_ ?_ | refine vc_weakf [] ?_ ?_ ?_ | refine vc_side0 ?_
                   | refine vc_and ?_ ?_ | refine vc_call [] c1 ?_ | refine vc_call [] (dig_read B bs hB k hk hl) ?_ | refine vc_call [] (text_read B bs t hB (k + 32) e ht hl) ?_ | refine vc_ret [] [] ?_)
            | ((with_reducible first | refine vc_caseD (fun h => ?_) (fun h => ?_) | refine vc_caseN (fun h => ?_) (fun h => ?_)) <;> try (exfalso; omega))
            | ((with_reducible refine vc_case (fun h => ?_) (fun h => ?_)) <;> (try simp only [Bool.cond_true_left, Bool.cond_false_right, Bool.cond_true_right, Bool.cond_false_left, Bool.and_eq_true, Bool.or_eq_true, Bool.and_eq_false_iff, Bool.or_eq_false_iff, Bool.not_eq_true', Bool.not_eq_false', Bool.not_eq_true, Bool.not_eq_false, Bool.not_not, decide_eq_true_eq, decide_eq_false_iff_not, beq_iff_eq, beq_eq_false_iff_ne, bne_iff_ne, bne_eq_false_iff_eq, ne_eq, Classical.not_not] at h) <;> try (exfalso; first | omega | (simp at h; done)))))
    all_goals rfl

theorem cr_not (B : List D) (bs : List UInt8) (hB : B = bs.map byteD) (most : Int) (hm1 : -2 ^ 63 ≤ most) (hm : most < 2 ^ 63) (hl : bs.length < 2 ^ 62)
    (h : ∀ n k, rdC bs most 0 = some (n, k) → n = 2 ∨ ∀ d k2, rdD bs n k = some (d, k2) → rdT bs k2 = none) :
    LocalPan Try.prog 19 [.ptr 9 [], .ptr 8 [], .ptr 7 [], .ptr 6 [], .ptr 5 []] (crPre B most) [] fault [(9, .dead), (7, .dead), (6, .dead), (5, .dead)] := by
  refine vc_fnPan mixed Try.func19 rfl rfl [] (vc_chk rfl) ?_
  rcases hc : rdC bs most 0 with _ | ⟨n, k⟩
  · skip
    repeat' (first
        | ((with_reducible refine vc_chk ?_); first | decide +kernel | rfl)
        | (with_reducible refine vc_side0 ?_; rfl)
        | (with_reducible first
             | refine vc_true ?_ | refine vc_true2 ?_ | refine vc_side ?_ ?_ | refine vc_triv | refine vc_later ?_ | refine vc_caseT ?_ | refine vc_caseF ?_ | refine vc_cons ?_ | refine vc_nil ?_ ?_ | refine vc_seq ?_
                | refine vc_region ?_ | refine vc_cond ?_ | refine vc_block ?_ | refine vc_retc ?_ | refine vc_exit ?_ | refine vc_skip ?_ | refine vc_scope ?_ | refine vc_label ?_ | refine vc_goto ?_ | refine vc_wkSl0
                | refine vc_wkHp0 | refine vc_eqAVs0 | refine vc_preG0 | refine vc_wkSl ?_ ?_ | refine vc_wkHp ?_ ?_ | refine vc_eqAVs ?_ ?_ | refine vc_preG ?_ ?_ | refine vc_weakf [] ?_ ?_ ?_ | refine vc_side0 ?_
                | refine vc_and ?_ ?_ | refine vc_pan [] (count_pan B bs hB most 0 hc hm1 hm hl) ?_ | refine vc_panc [] [7, 6, 5] ?_ ?_ | refine vc_ret [] [] ?_)
        | ((with_reducible first | refine vc_caseD (fun h => ?_) (fun h => ?_) | refine vc_caseN (fun h => ?_) (fun h => ?_)) <;> try (exfalso; omega))
        | ((with_reducible refine vc_case (fun h => ?_) (fun h => ?_)) <;> (try simp only [Bool.cond_true_left, Bool.cond_false_right, Bool.cond_true_right, Bool.cond_false_left, Bool.and_eq_true, Bool.or_eq_true, Bool.and_eq_false_iff, Bool.or_eq_false_iff, Bool.not_eq_true', Bool.not_eq_false', Bool.not_eq_true, Bool.not_eq_false, Bool.not_not, decide_eq_true_eq, decide_eq_false_iff_not, beq_iff_eq, beq_eq_false_iff_ne, bne_iff_ne, bne_eq_false_iff_eq, ne_eq, Classical.not_not] at h) <;> try (exfalso; first | omega | (simp at h; done)))
        | (conv in Vc _ => arg 1; whnf
           first
            | (with_reducible refine vc_side0 ?_; rfl)
            | (with_reducible first
                | refine vc_true ?_ | refine vc_true2 ?_ | refine vc_side ?_ ?_ | refine vc_triv | refine vc_later ?_ | refine vc_caseT ?_ | refine vc_caseF ?_ | refine vc_cons ?_ | refine vc_nil ?_ ?_ | refine vc_seq ?_
                   | refine vc_region ?_ | refine vc_cond ?_ | refine vc_block ?_ | refine vc_retc ?_ | refine vc_exit ?_ | refine vc_skip ?_ | refine vc_scope ?_ | refine vc_label ?_ | refine vc_goto ?_ | refine vc_wkSl0
                   | refine vc_wkHp0 | refine vc_eqAVs0 | refine vc_preG0 | refine vc_wkSl ?_ ?_ | refine vc_wkHp ?_ ?_ | refine vc_eqAVs ?_ ?_ | refine vc_preG ?_ ?_ | refine vc_weakf [] ?_ ?_ ?_ | refine vc_side0 ?_
                   | refine vc_and ?_ ?_ | refine vc_pan [] (count_pan B bs hB most 0 hc hm1 hm hl) ?_ | refine vc_panc [] [7, 6, 5] ?_ ?_ | refine vc_ret [] [] ?_)
            | ((with_reducible first | refine vc_caseD (fun h => ?_) (fun h => ?_) | refine vc_caseN (fun h => ?_) (fun h => ?_)) <;> try (exfalso; omega))
            | ((with_reducible refine vc_case (fun h => ?_) (fun h => ?_)) <;> (try simp only [Bool.cond_true_left, Bool.cond_false_right, Bool.cond_true_right, Bool.cond_false_left, Bool.and_eq_true, Bool.or_eq_true, Bool.and_eq_false_iff, Bool.or_eq_false_iff, Bool.not_eq_true', Bool.not_eq_false', Bool.not_eq_true, Bool.not_eq_false, Bool.not_not, decide_eq_true_eq, decide_eq_false_iff_not, beq_iff_eq, beq_eq_false_iff_ne, bne_iff_ne, bne_eq_false_iff_eq, ne_eq, Classical.not_not] at h) <;> try (exfalso; first | omega | (simp at h; done)))))
    all_goals rfl
  · have c1 := count_ok B bs hB most 0 n k hc hm hl
    have hk0 : k ≤ bs.length := (rdN_le bs _ _ _ _ _ _ (rdC_ok hc).1).2
    rcases h n k hc with h2 | h2
    · skip
      repeat' (first
          | ((with_reducible refine vc_chk ?_); first | decide +kernel | rfl)
          | (with_reducible refine vc_side0 ?_; rfl)
          | (with_reducible first
               | refine vc_true ?_ | refine vc_true2 ?_ | refine vc_side ?_ ?_ | refine vc_triv | refine vc_later ?_ | refine vc_caseT ?_ | refine vc_caseF ?_ | refine vc_cons ?_ | refine vc_nil ?_ ?_ | refine vc_seq ?_
                  | refine vc_region ?_ | refine vc_cond ?_ | refine vc_block ?_ | refine vc_retc ?_ | refine vc_exit ?_ | refine vc_skip ?_ | refine vc_scope ?_ | refine vc_label ?_ | refine vc_goto ?_ | refine vc_wkSl0
                  | refine vc_wkHp0 | refine vc_eqAVs0 | refine vc_preG0 | refine vc_wkSl ?_ ?_ | refine vc_wkHp ?_ ?_ | refine vc_eqAVs ?_ ?_ | refine vc_preG ?_ ?_ | refine vc_weakf [] ?_ ?_ ?_ | refine vc_side0 ?_
                  | refine vc_and ?_ ?_ | refine vc_call [] c1 ?_ | refine vc_pan [] (fail_pan B k) ?_ | refine vc_panc [] [7, 6, 5] ?_ ?_ | refine vc_ret [] [] ?_)
          | ((with_reducible first | refine vc_caseD (fun h => ?_) (fun h => ?_) | refine vc_caseN (fun h => ?_) (fun h => ?_)) <;> try (exfalso; omega))
          | ((with_reducible refine vc_case (fun h => ?_) (fun h => ?_)) <;> (try simp only [Bool.cond_true_left, Bool.cond_false_right, Bool.cond_true_right, Bool.cond_false_left, Bool.and_eq_true, Bool.or_eq_true, Bool.and_eq_false_iff, Bool.or_eq_false_iff, Bool.not_eq_true', Bool.not_eq_false', Bool.not_eq_true, Bool.not_eq_false, Bool.not_not, decide_eq_true_eq, decide_eq_false_iff_not, beq_iff_eq, beq_eq_false_iff_ne, bne_iff_ne, bne_eq_false_iff_eq, ne_eq, Classical.not_not] at h) <;> try (exfalso; first | omega | (simp at h; done)))
          | (conv in Vc _ => arg 1; whnf
             first
              | (with_reducible refine vc_side0 ?_; rfl)
              | (with_reducible first
                  | refine vc_true ?_ | refine vc_true2 ?_ | refine vc_side ?_ ?_ | refine vc_triv | refine vc_later ?_ | refine vc_caseT ?_ | refine vc_caseF ?_ | refine vc_cons ?_ | refine vc_nil ?_ ?_ | refine vc_seq ?_
                     | refine vc_region ?_ | refine vc_cond ?_ | refine vc_block ?_ | refine vc_retc ?_ | refine vc_exit ?_ | refine vc_skip ?_ | refine vc_scope ?_ | refine vc_label ?_ | refine vc_goto ?_ | refine vc_wkSl0
                     | refine vc_wkHp0 | refine vc_eqAVs0 | refine vc_preG0 | refine vc_wkSl ?_ ?_ | refine vc_wkHp ?_ ?_ | refine vc_eqAVs ?_ ?_ | refine vc_preG ?_ ?_ | refine vc_weakf [] ?_ ?_ ?_ | refine vc_side0 ?_
                     | refine vc_and ?_ ?_ | refine vc_call [] c1 ?_ | refine vc_pan [] (fail_pan B k) ?_ | refine vc_panc [] [7, 6, 5] ?_ ?_ | refine vc_ret [] [] ?_)
              | ((with_reducible first | refine vc_caseD (fun h => ?_) (fun h => ?_) | refine vc_caseN (fun h => ?_) (fun h => ?_)) <;> try (exfalso; omega))
              | ((with_reducible refine vc_case (fun h => ?_) (fun h => ?_)) <;> (try simp only [Bool.cond_true_left, Bool.cond_false_right, Bool.cond_true_right, Bool.cond_false_left, Bool.and_eq_true, Bool.or_eq_true, Bool.and_eq_false_iff, Bool.or_eq_false_iff, Bool.not_eq_true', Bool.not_eq_false', Bool.not_eq_true, Bool.not_eq_false, Bool.not_not, decide_eq_true_eq, decide_eq_false_iff_not, beq_iff_eq, beq_eq_false_iff_ne, bne_iff_ne, bne_eq_false_iff_eq, ne_eq, Classical.not_not] at h) <;> try (exfalso; first | omega | (simp at h; done)))))
      all_goals rfl
    · by_cases hn2 : n = 2
      · skip
        repeat' (first
            | ((with_reducible refine vc_chk ?_); first | decide +kernel | rfl)
            | (with_reducible refine vc_side0 ?_; rfl)
            | (with_reducible first
                 | refine vc_true ?_ | refine vc_true2 ?_ | refine vc_side ?_ ?_ | refine vc_triv | refine vc_later ?_ | refine vc_caseT ?_ | refine vc_caseF ?_ | refine vc_cons ?_ | refine vc_nil ?_ ?_ | refine vc_seq ?_
                    | refine vc_region ?_ | refine vc_cond ?_ | refine vc_block ?_ | refine vc_retc ?_ | refine vc_exit ?_ | refine vc_skip ?_ | refine vc_scope ?_ | refine vc_label ?_ | refine vc_goto ?_ | refine vc_wkSl0
                    | refine vc_wkHp0 | refine vc_eqAVs0 | refine vc_preG0 | refine vc_wkSl ?_ ?_ | refine vc_wkHp ?_ ?_ | refine vc_eqAVs ?_ ?_ | refine vc_preG ?_ ?_ | refine vc_weakf [] ?_ ?_ ?_ | refine vc_side0 ?_
                    | refine vc_and ?_ ?_ | refine vc_call [] c1 ?_ | refine vc_pan [] (fail_pan B k) ?_ | refine vc_panc [] [7, 6, 5] ?_ ?_ | refine vc_ret [] [] ?_)
            | ((with_reducible first | refine vc_caseD (fun h => ?_) (fun h => ?_) | refine vc_caseN (fun h => ?_) (fun h => ?_)) <;> try (exfalso; omega))
            | ((with_reducible refine vc_case (fun h => ?_) (fun h => ?_)) <;> (try simp only [Bool.cond_true_left, Bool.cond_false_right, Bool.cond_true_right, Bool.cond_false_left, Bool.and_eq_true, Bool.or_eq_true, Bool.and_eq_false_iff, Bool.or_eq_false_iff, Bool.not_eq_true', Bool.not_eq_false', Bool.not_eq_true, Bool.not_eq_false, Bool.not_not, decide_eq_true_eq, decide_eq_false_iff_not, beq_iff_eq, beq_eq_false_iff_ne, bne_iff_ne, bne_eq_false_iff_eq, ne_eq, Classical.not_not] at h) <;> try (exfalso; first | omega | (simp at h; done)))
            | (conv in Vc _ => arg 1; whnf
               first
                | (with_reducible refine vc_side0 ?_; rfl)
                | (with_reducible first
                    | refine vc_true ?_ | refine vc_true2 ?_ | refine vc_side ?_ ?_ | refine vc_triv | refine vc_later ?_ | refine vc_caseT ?_ | refine vc_caseF ?_ | refine vc_cons ?_ | refine vc_nil ?_ ?_ | refine vc_seq ?_
                       | refine vc_region ?_ | refine vc_cond ?_ | refine vc_block ?_ | refine vc_retc ?_ | refine vc_exit ?_ | refine vc_skip ?_ | refine vc_scope ?_ | refine vc_label ?_ | refine vc_goto ?_ | refine vc_wkSl0
                       | refine vc_wkHp0 | refine vc_eqAVs0 | refine vc_preG0 | refine vc_wkSl ?_ ?_ | refine vc_wkHp ?_ ?_ | refine vc_eqAVs ?_ ?_ | refine vc_preG ?_ ?_ | refine vc_weakf [] ?_ ?_ ?_ | refine vc_side0 ?_
                       | refine vc_and ?_ ?_ | refine vc_call [] c1 ?_ | refine vc_pan [] (fail_pan B k) ?_ | refine vc_panc [] [7, 6, 5] ?_ ?_ | refine vc_ret [] [] ?_)
                | ((with_reducible first | refine vc_caseD (fun h => ?_) (fun h => ?_) | refine vc_caseN (fun h => ?_) (fun h => ?_)) <;> try (exfalso; omega))
                | ((with_reducible refine vc_case (fun h => ?_) (fun h => ?_)) <;> (try simp only [Bool.cond_true_left, Bool.cond_false_right, Bool.cond_true_right, Bool.cond_false_left, Bool.and_eq_true, Bool.or_eq_true, Bool.and_eq_false_iff, Bool.or_eq_false_iff, Bool.not_eq_true', Bool.not_eq_false', Bool.not_eq_true, Bool.not_eq_false, Bool.not_not, decide_eq_true_eq, decide_eq_false_iff_not, beq_iff_eq, beq_eq_false_iff_ne, bne_iff_ne, bne_eq_false_iff_eq, ne_eq, Classical.not_not] at h) <;> try (exfalso; first | omega | (simp at h; done)))))
        all_goals rfl
      · rcases hd : rdD bs n k with _ | ⟨d, k2⟩
        · obtain ⟨hn, hk⟩ := rdD_no hd
          repeat' (first
              | ((with_reducible refine vc_chk ?_); first | decide +kernel | rfl)
              | (with_reducible refine vc_side0 ?_; rfl)
              | (with_reducible first
                   | refine vc_true ?_ | refine vc_true2 ?_ | refine vc_side ?_ ?_ | refine vc_triv | refine vc_later ?_ | refine vc_caseT ?_ | refine vc_caseF ?_ | refine vc_cons ?_ | refine vc_nil ?_ ?_ | refine vc_seq ?_
                      | refine vc_region ?_ | refine vc_cond ?_ | refine vc_block ?_ | refine vc_retc ?_ | refine vc_exit ?_ | refine vc_skip ?_ | refine vc_scope ?_ | refine vc_label ?_ | refine vc_goto ?_ | refine vc_wkSl0
                      | refine vc_wkHp0 | refine vc_eqAVs0 | refine vc_preG0 | refine vc_wkSl ?_ ?_ | refine vc_wkHp ?_ ?_ | refine vc_eqAVs ?_ ?_ | refine vc_preG ?_ ?_ | refine vc_weakf [] ?_ ?_ ?_ | refine vc_side0 ?_
                      | refine vc_and ?_ ?_ | refine vc_call [] c1 ?_ | refine vc_pan [] (dig_nread B bs hB k hk0 hk hl) ?_ | refine vc_panc [] [7, 6, 5] ?_ ?_ | refine vc_ret [] [] ?_)
              | ((with_reducible first | refine vc_caseD (fun h => ?_) (fun h => ?_) | refine vc_caseN (fun h => ?_) (fun h => ?_)) <;> try (exfalso; omega))
              | ((with_reducible refine vc_case (fun h => ?_) (fun h => ?_)) <;> (try simp only [Bool.cond_true_left, Bool.cond_false_right, Bool.cond_true_right, Bool.cond_false_left, Bool.and_eq_true, Bool.or_eq_true, Bool.and_eq_false_iff, Bool.or_eq_false_iff, Bool.not_eq_true', Bool.not_eq_false', Bool.not_eq_true, Bool.not_eq_false, Bool.not_not, decide_eq_true_eq, decide_eq_false_iff_not, beq_iff_eq, beq_eq_false_iff_ne, bne_iff_ne, bne_eq_false_iff_eq, ne_eq, Classical.not_not] at h) <;> try (exfalso; first | omega | (simp at h; done)))
              | (conv in Vc _ => arg 1; whnf
                 first
                  | (with_reducible refine vc_side0 ?_; rfl)
                  | (with_reducible first
                      | refine vc_true ?_ | refine vc_true2 ?_ | refine vc_side ?_ ?_ | refine vc_triv | refine vc_later ?_ | refine vc_caseT ?_ | refine vc_caseF ?_ | refine vc_cons ?_ | refine vc_nil ?_ ?_ | refine vc_seq ?_
                         | refine vc_region ?_ | refine vc_cond ?_ | refine vc_block ?_ | refine vc_retc ?_ | refine vc_exit ?_ | refine vc_skip ?_ | refine vc_scope ?_ | refine vc_label ?_ | refine vc_goto ?_ | refine vc_wkSl0
                         | refine vc_wkHp0 | refine vc_eqAVs0 | refine vc_preG0 | refine vc_wkSl ?_ ?_ | refine vc_wkHp ?_ ?_ | refine vc_eqAVs ?_ ?_ | refine vc_preG ?_ ?_ | refine vc_weakf [] ?_ ?_ ?_ | refine vc_side0 ?_
                         | refine vc_and ?_ ?_ | refine vc_call [] c1 ?_ | refine vc_pan [] (dig_nread B bs hB k hk0 hk hl) ?_ | refine vc_panc [] [7, 6, 5] ?_ ?_ | refine vc_ret [] [] ?_)
                  | ((with_reducible first | refine vc_caseD (fun h => ?_) (fun h => ?_) | refine vc_caseN (fun h => ?_) (fun h => ?_)) <;> try (exfalso; omega))
                  | ((with_reducible refine vc_case (fun h => ?_) (fun h => ?_)) <;> (try simp only [Bool.cond_true_left, Bool.cond_false_right, Bool.cond_true_right, Bool.cond_false_left, Bool.and_eq_true, Bool.or_eq_true, Bool.and_eq_false_iff, Bool.or_eq_false_iff, Bool.not_eq_true', Bool.not_eq_false', Bool.not_eq_true, Bool.not_eq_false, Bool.not_not, decide_eq_true_eq, decide_eq_false_iff_not, beq_iff_eq, beq_eq_false_iff_ne, bne_iff_ne, bne_eq_false_iff_eq, ne_eq, Classical.not_not] at h) <;> try (exfalso; first | omega | (simp at h; done)))))
          all_goals rfl
        · have ht := h2 d k2 hd
          rcases rdD_yes hd with ⟨hn, rfl, rfl⟩ | ⟨hn, hk, rfl, rfl⟩
          · skip
            repeat' (first
                | ((with_reducible refine vc_chk ?_); first | decide +kernel | rfl)
                | (with_reducible refine vc_side0 ?_; rfl)
                | (with_reducible first
                     | refine vc_true ?_ | refine vc_true2 ?_ | refine vc_side ?_ ?_ | refine vc_triv | refine vc_later ?_ | refine vc_caseT ?_ | refine vc_caseF ?_ | refine vc_cons ?_ | refine vc_nil ?_ ?_ | refine vc_seq ?_
                        | refine vc_region ?_ | refine vc_cond ?_ | refine vc_block ?_ | refine vc_retc ?_ | refine vc_exit ?_ | refine vc_skip ?_ | refine vc_scope ?_ | refine vc_label ?_ | refine vc_goto ?_ | refine vc_wkSl0
                        | refine vc_wkHp0 | refine vc_eqAVs0 | refine vc_preG0 | refine vc_wkSl ?_ ?_ | refine vc_wkHp ?_ ?_ | refine vc_eqAVs ?_ ?_ | refine vc_preG ?_ ?_ | refine vc_weakf [] ?_ ?_ ?_ | refine vc_side0 ?_
                        | refine vc_and ?_ ?_ | refine vc_call [] c1 ?_ | refine vc_pan [] (text_nread B bs hB k2 ht hl) ?_ | refine vc_panc [] [7, 6, 5] ?_ ?_ | refine vc_ret [] [] ?_)
                | ((with_reducible first | refine vc_caseD (fun h => ?_) (fun h => ?_) | refine vc_caseN (fun h => ?_) (fun h => ?_)) <;> try (exfalso; omega))
                | ((with_reducible refine vc_case (fun h => ?_) (fun h => ?_)) <;> (try simp only [Bool.cond_true_left, Bool.cond_false_right, Bool.cond_true_right, Bool.cond_false_left, Bool.and_eq_true, Bool.or_eq_true, Bool.and_eq_false_iff, Bool.or_eq_false_iff, Bool.not_eq_true', Bool.not_eq_false', Bool.not_eq_true, Bool.not_eq_false, Bool.not_not, decide_eq_true_eq, decide_eq_false_iff_not, beq_iff_eq, beq_eq_false_iff_ne, bne_iff_ne, bne_eq_false_iff_eq, ne_eq, Classical.not_not] at h) <;> try (exfalso; first | omega | (simp at h; done)))
                | (conv in Vc _ => arg 1; whnf
                   first
                    | (with_reducible refine vc_side0 ?_; rfl)
                    | (with_reducible first
                        | refine vc_true ?_ | refine vc_true2 ?_ | refine vc_side ?_ ?_ | refine vc_triv | refine vc_later ?_ | refine vc_caseT ?_ | refine vc_caseF ?_ | refine vc_cons ?_ | refine vc_nil ?_ ?_ | refine vc_seq ?_
                           | refine vc_region ?_ | refine vc_cond ?_ | refine vc_block ?_ | refine vc_retc ?_ | refine vc_exit ?_ | refine vc_skip ?_ | refine vc_scope ?_ | refine vc_label ?_ | refine vc_goto ?_ | refine vc_wkSl0
                           | refine vc_wkHp0 | refine vc_eqAVs0 | refine vc_preG0 | refine vc_wkSl ?_ ?_ | refine vc_wkHp ?_ ?_ | refine vc_eqAVs ?_ ?_ | refine vc_preG ?_ ?_ | refine vc_weakf [] ?_ ?_ ?_ | refine vc_side0 ?_
                           | refine vc_and ?_ ?_ | refine vc_call [] c1 ?_ | refine vc_pan [] (text_nread B bs hB k2 ht hl) ?_ | refine vc_panc [] [7, 6, 5] ?_ ?_ | refine vc_ret [] [] ?_)
                    | ((with_reducible first | refine vc_caseD (fun h => ?_) (fun h => ?_) | refine vc_caseN (fun h => ?_) (fun h => ?_)) <;> try (exfalso; omega))
                    | ((with_reducible refine vc_case (fun h => ?_) (fun h => ?_)) <;> (try simp only [Bool.cond_true_left, Bool.cond_false_right, Bool.cond_true_right, Bool.cond_false_left, Bool.and_eq_true, Bool.or_eq_true, Bool.and_eq_false_iff, Bool.or_eq_false_iff, Bool.not_eq_true', Bool.not_eq_false', Bool.not_eq_true, Bool.not_eq_false, Bool.not_not, decide_eq_true_eq, decide_eq_false_iff_not, beq_iff_eq, beq_eq_false_iff_ne, bne_iff_ne, bne_eq_false_iff_eq, ne_eq, Classical.not_not] at h) <;> try (exfalso; first | omega | (simp at h; done)))))
            all_goals rfl
          · skip
            repeat' (first
                | ((with_reducible refine vc_chk ?_); first | decide +kernel | rfl)
                | (with_reducible refine vc_side0 ?_; rfl)
                | (with_reducible first
                     | refine vc_true ?_ | refine vc_true2 ?_ | refine vc_side ?_ ?_ | refine vc_triv | refine vc_later ?_ | refine vc_caseT ?_ | refine vc_caseF ?_ | refine vc_cons ?_ | refine vc_nil ?_ ?_ | refine vc_seq ?_
                        | refine vc_region ?_ | refine vc_cond ?_ | refine vc_block ?_ | refine vc_retc ?_ | refine vc_exit ?_ | refine vc_skip ?_ | refine vc_scope ?_ | refine vc_label ?_ | refine vc_goto ?_ | refine vc_wkSl0
                        | refine vc_wkHp0 | refine vc_eqAVs0 | refine vc_preG0 | refine vc_wkSl ?_ ?_ | refine vc_wkHp ?_ ?_ | refine vc_eqAVs ?_ ?_ | refine vc_preG ?_ ?_ | refine vc_weakf [] ?_ ?_ ?_ | refine vc_side0 ?_
                        | refine vc_and ?_ ?_ | refine vc_call [] c1 ?_ | refine vc_call [] (dig_read B bs hB k hk hl) ?_ | refine vc_pan [] (text_nread B bs hB (k + 32) ht hl) ?_ | refine vc_panc [] [7, 6, 5] ?_ ?_
                        | refine vc_ret [] [] ?_)
                | ((with_reducible first | refine vc_caseD (fun h => ?_) (fun h => ?_) | refine vc_caseN (fun h => ?_) (fun h => ?_)) <;> try (exfalso; omega))
                | ((with_reducible refine vc_case (fun h => ?_) (fun h => ?_)) <;> (try simp only [Bool.cond_true_left, Bool.cond_false_right, Bool.cond_true_right, Bool.cond_false_left, Bool.and_eq_true, Bool.or_eq_true, Bool.and_eq_false_iff, Bool.or_eq_false_iff, Bool.not_eq_true', Bool.not_eq_false', Bool.not_eq_true, Bool.not_eq_false, Bool.not_not, decide_eq_true_eq, decide_eq_false_iff_not, beq_iff_eq, beq_eq_false_iff_ne, bne_iff_ne, bne_eq_false_iff_eq, ne_eq, Classical.not_not] at h) <;> try (exfalso; first | omega | (simp at h; done)))
                | (conv in Vc _ => arg 1; whnf
                   first
                    | (with_reducible refine vc_side0 ?_; rfl)
                    | (with_reducible first
                        | refine vc_true ?_ | refine vc_true2 ?_ | refine vc_side ?_ ?_ | refine vc_triv | refine vc_later ?_ | refine vc_caseT ?_ | refine vc_caseF ?_ | refine vc_cons ?_ | refine vc_nil ?_ ?_ | refine vc_seq ?_
                           | refine vc_region ?_ | refine vc_cond ?_ | refine vc_block ?_ | refine vc_retc ?_ | refine vc_exit ?_ | refine vc_skip ?_ | refine vc_scope ?_ | refine vc_label ?_ | refine vc_goto ?_ | refine vc_wkSl0
                           | refine vc_wkHp0 | refine vc_eqAVs0 | refine vc_preG0 | refine vc_wkSl ?_ ?_ | refine vc_wkHp ?_ ?_ | refine vc_eqAVs ?_ ?_ | refine vc_preG ?_ ?_ | refine vc_weakf [] ?_ ?_ ?_ | refine vc_side0 ?_
                           | refine vc_and ?_ ?_ | refine vc_call [] c1 ?_ | refine vc_call [] (dig_read B bs hB k hk hl) ?_ | refine vc_pan [] (text_nread B bs hB (k + 32) ht hl) ?_ | refine vc_panc [] [7, 6, 5] ?_ ?_
                           | refine vc_ret [] [] ?_)
                    | ((with_reducible first | refine vc_caseD (fun h => ?_) (fun h => ?_) | refine vc_caseN (fun h => ?_) (fun h => ?_)) <;> try (exfalso; omega))
                    | ((with_reducible refine vc_case (fun h => ?_) (fun h => ?_)) <;> (try simp only [Bool.cond_true_left, Bool.cond_false_right, Bool.cond_true_right, Bool.cond_false_left, Bool.and_eq_true, Bool.or_eq_true, Bool.and_eq_false_iff, Bool.or_eq_false_iff, Bool.not_eq_true', Bool.not_eq_false', Bool.not_eq_true, Bool.not_eq_false, Bool.not_not, decide_eq_true_eq, decide_eq_false_iff_not, beq_iff_eq, beq_eq_false_iff_ne, bne_iff_ne, bne_eq_false_iff_eq, ne_eq, Classical.not_not] at h) <;> try (exfalso; first | omega | (simp at h; done)))))
            all_goals rfl

end Go.Proofs.Ythedcaopedbpdaa

/-
Digests as data: what '==' says of them.
-/
namespace Go.Proofs.Ythedcaopedbpdaa
open Go.Sym
set_option maxRecDepth 10000
set_option maxHeartbeats 1000000

theorem fits_dig (f : Nat) (a : List UInt8) : D.fits Try.prog (f + 2) 25 (.arr 32 1 (a.map byteD)) := by
  have hu : Try.prog.underlying 25 = some (.array 32 5) := rfl
  have hu2 : Try.prog.underlying 5 = some (.int .u8) := rfl
  simp only [D.fits, hu]
  refine ⟨trivial, rfl, rfl, fun y hy => ?_, fun y hy => ?_⟩
  · obtain ⟨c, _, rfl⟩ := List.mem_map.1 hy; rfl
  · obtain ⟨c, _, rfl⟩ := List.mem_map.1 hy
    simp only [hu2, byteD]

theorem beqs_bytes : ∀ a b : List UInt8, D.beqs (a.map byteD) (b.map byteD) = decide (a = b)
  | [], [] => rfl
  | [], _ :: _ => rfl
  | _ :: _, [] => rfl
  | x :: a, y :: b => by
    simp only [List.map_cons, D.beqs, beqs_bytes a b, byteD, D.beq, List.cons.injEq]
    rw [Bool.eq_iff_iff]
    simp only [Bool.and_eq_true, decide_eq_true_eq, beq_iff_eq]
    exact and_congr_left fun _ => ⟨fun h => UInt8.toNat_inj.1 (Int.ofNat_inj.1 h), fun h => by rw [h]⟩
theorem beq_dig (n e m f : Nat) (a b : List UInt8) : (D.arr n e (a.map byteD)).beq (.arr m f (b.map byteD)) = decide (a = b) := by
  simp only [D.beq]; exact beqs_bytes a b

end Go.Proofs.Ythedcaopedbpdaa

/-
What the law CodecReader returns.
-/
namespace Go.Proofs.Ythedcaopedbpdaa
open Go.Sym
set_option maxRecDepth 10000
set_option maxHeartbeats 8000000

def crEnd (bs : List UInt8) (n : Nat) (d : List UInt8) : Option (List UInt8 × Nat) → Option (Nat × List UInt8 × List UInt8)
  | none => none
  | some (t, e) => bif decide (e = bs.length) then some (n, d, t) else none

theorem crEnd_opt (bs : List UInt8) (n : Nat) (d : List UInt8) (r : List UInt8 × Nat × Bool) : crEnd bs n d (optT r) = bif !r.2.2 && decide (r.2.1 = bs.length) then some (n, d, r.1) else none := by
  obtain ⟨t, e, b⟩ := r
  cases b <;> rfl

/-- What the reading hands out: a number, a digest, a text. -/
def crO (bs : List UInt8) (most : Int) : Option (Nat × List UInt8 × List UInt8) := match rdC bs most 0 with
  | none => none
  | some (n, k) => bif decide (n = 2) then none else match rdD bs n k with
    | none => none
    | some (d, k2) => crEnd bs n d (rdT bs k2)

def crVars (most : Int) : List (Nat × AObj) := [(8, .var (.d (.int .i64 most))), (7, .var (.d (.int .i64 0))), (6, .var (.d (.arr 32 1 (zero32.map byteD)))), (5, .var (.d .nils))]

theorem crRead_in (B : List D) (bs : List UInt8) (hB : B = bs.map byteD) (most : Int) (hm : most < 2 ^ 63) (n k k2 e : Nat) (d t : List UInt8) (hc : rdC bs most 0 = some (n, k)) (h2 : ¬ n = 2) (hd : rdD bs n k = some (d, k2)) (ht : rdT bs k2 = some (t, e)) (he : e = bs.length) (hl : bs.length < 2 ^ 62) :
    LocalCall Try.prog 18 [.d (.sl B), .fn (.func 19) [.ptr 8 [], .ptr 7 [], .ptr 6 [], .ptr 5 []]] (crVars most) [] (one [.d (.int .i64 0)]) [(7, .var (.d (.int .i64 (n : Int)))), (6, .var (.d (.arr 32 1 (d.map byteD)))), (5, .var (.d (.sl (t.map byteD))))] := by
  have hlen : B.length = bs.length := by rw [hB]; simp
  refine local_recovers mixed (sl2 := [(0, .d (.sl B)), (1, .fn (.func 19) [.ptr 8 [], .ptr 7 [], .ptr 6 [], .ptr 5 []]), (4, .ptr 1000 [])]) (hp2 := crVars most ++ [(1000, .var (.d (.int .i64 0)))]) (N := 1000) Try.func18 rfl rfl rfl rfl rfl rfl rfl rfl rfl rfl [] catch_idle catch_pan rfl (vc_chk rfl) rfl (by decide) (by decide) rfl ?_ ?_
  · skip
    repeat' (first
        | ((with_reducible refine vc_chk ?_); first | decide +kernel | rfl)
        | (with_reducible refine vc_side0 ?_; rfl)
        | (with_reducible first
             | refine vc_true ?_ | refine vc_true2 ?_ | refine vc_side ?_ ?_ | refine vc_triv | refine vc_later ?_ | refine vc_caseT ?_ | refine vc_caseF ?_ | refine vc_cons ?_ | refine vc_nil ?_ ?_ | refine vc_seq ?_
                | refine vc_region ?_ | refine vc_cond ?_ | refine vc_block ?_ | refine vc_retc ?_ | refine vc_exit ?_ | refine vc_skip ?_ | refine vc_scope ?_ | refine vc_label ?_ | refine vc_goto ?_ | refine vc_wkSl0
                | refine vc_wkHp0 | refine vc_eqAVs0 | refine vc_preG0 | refine vc_wkSl ?_ ?_ | refine vc_wkHp ?_ ?_ | refine vc_eqAVs ?_ ?_ | refine vc_preG ?_ ?_ | refine vc_side0 ?_ | refine vc_mid [] ?_ ?_ ?_ ?_
                | refine vc_weakf [] ?_ ?_ ?_ | refine vc_and ?_ ?_ | refine vc_ret [] [] ?_)
        | ((with_reducible first | refine vc_caseD (fun h => ?_) (fun h => ?_) | refine vc_caseN (fun h => ?_) (fun h => ?_)) <;> try (exfalso; omega))
        | ((with_reducible refine vc_case (fun h => ?_) (fun h => ?_)) <;> (try simp at h) <;> try (exfalso; omega))
        | (conv in Vc _ => arg 1; whnf
           first
            | (with_reducible refine vc_side0 ?_; rfl)
            | (with_reducible first
                | refine vc_true ?_ | refine vc_true2 ?_ | refine vc_side ?_ ?_ | refine vc_triv | refine vc_later ?_ | refine vc_caseT ?_ | refine vc_caseF ?_ | refine vc_cons ?_ | refine vc_nil ?_ ?_ | refine vc_seq ?_
                   | refine vc_region ?_ | refine vc_cond ?_ | refine vc_block ?_ | refine vc_retc ?_ | refine vc_exit ?_ | refine vc_skip ?_ | refine vc_scope ?_ | refine vc_label ?_ | refine vc_goto ?_ | refine vc_wkSl0
                   | refine vc_wkHp0 | refine vc_eqAVs0 | refine vc_preG0 | refine vc_wkSl ?_ ?_ | refine vc_wkHp ?_ ?_ | refine vc_eqAVs ?_ ?_ | refine vc_preG ?_ ?_ | refine vc_side0 ?_ | refine vc_mid [] ?_ ?_ ?_ ?_
                   | refine vc_weakf [] ?_ ?_ ?_ | refine vc_and ?_ ?_ | refine vc_ret [] [] ?_)
            | ((with_reducible first | refine vc_caseD (fun h => ?_) (fun h => ?_) | refine vc_caseN (fun h => ?_) (fun h => ?_)) <;> try (exfalso; omega))
            | ((with_reducible refine vc_case (fun h => ?_) (fun h => ?_)) <;> (try simp at h) <;> try (exfalso; omega))))
    all_goals rfl
  · have hcl := local_ren [(9, 3008)] [(3008, 9)] (cr_in B bs hB most hm n k k2 e d t hc h2 hd ht hl) rfl
    repeat' (first
        | ((with_reducible refine vc_chk ?_); first | decide +kernel | rfl)
        | (with_reducible refine vc_side0 ?_; rfl)
        | (with_reducible first
             | refine vc_true ?_ | refine vc_true2 ?_ | refine vc_side ?_ ?_ | refine vc_triv | refine vc_later ?_ | refine vc_caseT ?_ | refine vc_caseF ?_ | refine vc_cons ?_ | refine vc_nil ?_ ?_ | refine vc_seq ?_
                | refine vc_region ?_ | refine vc_cond ?_ | refine vc_block ?_ | refine vc_retc ?_ | refine vc_exit ?_ | refine vc_skip ?_ | refine vc_scope ?_ | refine vc_label ?_ | refine vc_goto ?_ | refine vc_wkSl0
                | refine vc_wkHp0 | refine vc_eqAVs0 | refine vc_preG0 | refine vc_wkSl ?_ ?_ | refine vc_wkHp ?_ ?_ | refine vc_eqAVs ?_ ?_ | refine vc_preG ?_ ?_ | refine vc_side0 ?_ | refine vc_call [] hcl ?_
                | refine vc_weakf [] ?_ ?_ ?_ | refine vc_and ?_ ?_ | refine vc_ret [] [] ?_)
        | ((with_reducible first | refine vc_caseD (fun h => ?_) (fun h => ?_) | refine vc_caseN (fun h => ?_) (fun h => ?_)) <;> try (exfalso; omega))
        | ((with_reducible refine vc_case (fun h => ?_) (fun h => ?_)) <;> (try simp at h) <;> try (exfalso; omega))
        | (conv in Vc _ => arg 1; whnf
           first
            | (with_reducible refine vc_side0 ?_; rfl)
            | (with_reducible first
                | refine vc_true ?_ | refine vc_true2 ?_ | refine vc_side ?_ ?_ | refine vc_triv | refine vc_later ?_ | refine vc_caseT ?_ | refine vc_caseF ?_ | refine vc_cons ?_ | refine vc_nil ?_ ?_ | refine vc_seq ?_
                   | refine vc_region ?_ | refine vc_cond ?_ | refine vc_block ?_ | refine vc_retc ?_ | refine vc_exit ?_ | refine vc_skip ?_ | refine vc_scope ?_ | refine vc_label ?_ | refine vc_goto ?_ | refine vc_wkSl0
                   | refine vc_wkHp0 | refine vc_eqAVs0 | refine vc_preG0 | refine vc_wkSl ?_ ?_ | refine vc_wkHp ?_ ?_ | refine vc_eqAVs ?_ ?_ | refine vc_preG ?_ ?_ | refine vc_side0 ?_ | refine vc_call [] hcl ?_
                   | refine vc_weakf [] ?_ ?_ ?_ | refine vc_and ?_ ?_ | refine vc_ret [] [] ?_)
            | ((with_reducible first | refine vc_caseD (fun h => ?_) (fun h => ?_) | refine vc_caseN (fun h => ?_) (fun h => ?_)) <;> try (exfalso; omega))
            | ((with_reducible refine vc_case (fun h => ?_) (fun h => ?_)) <;> (try simp at h) <;> try (exfalso; omega))))
    all_goals rfl

theorem crRead_more (B : List D) (bs : List UInt8) (hB : B = bs.map byteD) (most : Int) (hm : most < 2 ^ 63) (n k k2 e : Nat) (d t : List UInt8) (hc : rdC bs most 0 = some (n, k)) (h2 : ¬ n = 2) (hd : rdD bs n k = some (d, k2)) (ht : rdT bs k2 = some (t, e)) (he : ¬ e = bs.length) (hl : bs.length < 2 ^ 62) :
    LocalCall Try.prog 18 [.d (.sl B), .fn (.func 19) [.ptr 8 [], .ptr 7 [], .ptr 6 [], .ptr 5 []]] (crVars most) [] (one [.d (.int .i64 3)]) [(7, .dead), (6, .dead), (5, .dead)] := by
  have hlen : B.length = bs.length := by rw [hB]; simp
  refine local_recovers mixed (sl2 := [(0, .d (.sl B)), (1, .fn (.func 19) [.ptr 8 [], .ptr 7 [], .ptr 6 [], .ptr 5 []]), (4, .ptr 1000 [])]) (hp2 := crVars most ++ [(1000, .var (.d (.int .i64 0)))]) (N := 1000) Try.func18 rfl rfl rfl rfl rfl rfl rfl rfl rfl rfl [] catch_idle catch_pan rfl (vc_chk rfl) rfl (by decide) (by decide) rfl ?_ ?_
  · skip
    repeat' (first
        | ((with_reducible refine vc_chk ?_); first | decide +kernel | rfl)
        | (with_reducible refine vc_side0 ?_; rfl)
        | (with_reducible first
             | refine vc_true ?_ | refine vc_true2 ?_ | refine vc_side ?_ ?_ | refine vc_triv | refine vc_later ?_ | refine vc_caseT ?_ | refine vc_caseF ?_ | refine vc_cons ?_ | refine vc_nil ?_ ?_ | refine vc_seq ?_
                | refine vc_region ?_ | refine vc_cond ?_ | refine vc_block ?_ | refine vc_retc ?_ | refine vc_exit ?_ | refine vc_skip ?_ | refine vc_scope ?_ | refine vc_label ?_ | refine vc_goto ?_ | refine vc_wkSl0
                | refine vc_wkHp0 | refine vc_eqAVs0 | refine vc_preG0 | refine vc_wkSl ?_ ?_ | refine vc_wkHp ?_ ?_ | refine vc_eqAVs ?_ ?_ | refine vc_preG ?_ ?_ | refine vc_side0 ?_ | refine vc_mid [] ?_ ?_ ?_ ?_
                | refine vc_weakf [] ?_ ?_ ?_ | refine vc_and ?_ ?_ | refine vc_ret [] [] ?_)
        | ((with_reducible first | refine vc_caseD (fun h => ?_) (fun h => ?_) | refine vc_caseN (fun h => ?_) (fun h => ?_)) <;> try (exfalso; omega))
        | ((with_reducible refine vc_case (fun h => ?_) (fun h => ?_)) <;> (try simp at h) <;> try (exfalso; omega))
        | (conv in Vc _ => arg 1; whnf
           first
            | (with_reducible refine vc_side0 ?_; rfl)
            | (with_reducible first
                | refine vc_true ?_ | refine vc_true2 ?_ | refine vc_side ?_ ?_ | refine vc_triv | refine vc_later ?_ | refine vc_caseT ?_ | refine vc_caseF ?_ | refine vc_cons ?_ | refine vc_nil ?_ ?_ | refine vc_seq ?_
                   | refine vc_region ?_ | refine vc_cond ?_ | refine vc_block ?_ | refine vc_retc ?_ | refine vc_exit ?_ | refine vc_skip ?_ | refine vc_scope ?_ | refine vc_label ?_ | refine vc_goto ?_ | refine vc_wkSl0
                   | refine vc_wkHp0 | refine vc_eqAVs0 | refine vc_preG0 | refine vc_wkSl ?_ ?_ | refine vc_wkHp ?_ ?_ | refine vc_eqAVs ?_ ?_ | refine vc_preG ?_ ?_ | refine vc_side0 ?_ | refine vc_mid [] ?_ ?_ ?_ ?_
                   | refine vc_weakf [] ?_ ?_ ?_ | refine vc_and ?_ ?_ | refine vc_ret [] [] ?_)
            | ((with_reducible first | refine vc_caseD (fun h => ?_) (fun h => ?_) | refine vc_caseN (fun h => ?_) (fun h => ?_)) <;> try (exfalso; omega))
            | ((with_reducible refine vc_case (fun h => ?_) (fun h => ?_)) <;> (try simp at h) <;> try (exfalso; omega))))
    all_goals rfl
  · have hcl := local_ren [(9, 3008)] [(3008, 9)] (cr_in B bs hB most hm n k k2 e d t hc h2 hd ht hl) rfl
    repeat' (first
        | ((with_reducible refine vc_chk ?_); first | decide +kernel | rfl)
        | (with_reducible refine vc_side0 ?_; rfl)
        | (with_reducible first
             | refine vc_true ?_ | refine vc_true2 ?_ | refine vc_side ?_ ?_ | refine vc_triv | refine vc_later ?_ | refine vc_caseT ?_ | refine vc_caseF ?_ | refine vc_cons ?_ | refine vc_nil ?_ ?_ | refine vc_seq ?_
                | refine vc_region ?_ | refine vc_cond ?_ | refine vc_block ?_ | refine vc_retc ?_ | refine vc_exit ?_ | refine vc_skip ?_ | refine vc_scope ?_ | refine vc_label ?_ | refine vc_goto ?_ | refine vc_wkSl0
                | refine vc_wkHp0 | refine vc_eqAVs0 | refine vc_preG0 | refine vc_wkSl ?_ ?_ | refine vc_wkHp ?_ ?_ | refine vc_eqAVs ?_ ?_ | refine vc_preG ?_ ?_ | refine vc_side0 ?_ | refine vc_call [] hcl ?_
                | refine vc_retK [] [] [7, 6, 5] ?_ | refine vc_weakf [] ?_ ?_ ?_ | refine vc_and ?_ ?_ | refine vc_ret [] [] ?_)
        | ((with_reducible first | refine vc_caseD (fun h => ?_) (fun h => ?_) | refine vc_caseN (fun h => ?_) (fun h => ?_)) <;> try (exfalso; omega))
        | ((with_reducible refine vc_case (fun h => ?_) (fun h => ?_)) <;> (try simp at h) <;> try (exfalso; omega))
        | (conv in Vc _ => arg 1; whnf
           first
            | (with_reducible refine vc_side0 ?_; rfl)
            | (with_reducible first
                | refine vc_true ?_ | refine vc_true2 ?_ | refine vc_side ?_ ?_ | refine vc_triv | refine vc_later ?_ | refine vc_caseT ?_ | refine vc_caseF ?_ | refine vc_cons ?_ | refine vc_nil ?_ ?_ | refine vc_seq ?_
                   | refine vc_region ?_ | refine vc_cond ?_ | refine vc_block ?_ | refine vc_retc ?_ | refine vc_exit ?_ | refine vc_skip ?_ | refine vc_scope ?_ | refine vc_label ?_ | refine vc_goto ?_ | refine vc_wkSl0
                   | refine vc_wkHp0 | refine vc_eqAVs0 | refine vc_preG0 | refine vc_wkSl ?_ ?_ | refine vc_wkHp ?_ ?_ | refine vc_eqAVs ?_ ?_ | refine vc_preG ?_ ?_ | refine vc_side0 ?_ | refine vc_call [] hcl ?_
                   | refine vc_retK [] [] [7, 6, 5] ?_ | refine vc_weakf [] ?_ ?_ ?_ | refine vc_and ?_ ?_ | refine vc_ret [] [] ?_)
            | ((with_reducible first | refine vc_caseD (fun h => ?_) (fun h => ?_) | refine vc_caseN (fun h => ?_) (fun h => ?_)) <;> try (exfalso; omega))
            | ((with_reducible refine vc_case (fun h => ?_) (fun h => ?_)) <;> (try simp at h) <;> try (exfalso; omega))))
    all_goals rfl

theorem crRead_not (B : List D) (bs : List UInt8) (hB : B = bs.map byteD) (most : Int) (hm1 : -2 ^ 63 ≤ most) (hm : most < 2 ^ 63) (hl : bs.length < 2 ^ 62)
    (h : ∀ n k, rdC bs most 0 = some (n, k) → n = 2 ∨ ∀ d k2, rdD bs n k = some (d, k2) → rdT bs k2 = none) :
    LocalCall Try.prog 18 [.d (.sl B), .fn (.func 19) [.ptr 8 [], .ptr 7 [], .ptr 6 [], .ptr 5 []]] (crVars most) [] (one [.d (.int .i64 3)]) [(7, .dead), (6, .dead), (5, .dead)] := by
  have hlen : B.length = bs.length := by rw [hB]; simp
  refine local_recovers mixed (sl2 := [(0, .d (.sl B)), (1, .fn (.func 19) [.ptr 8 [], .ptr 7 [], .ptr 6 [], .ptr 5 []]), (4, .ptr 1000 [])]) (hp2 := crVars most ++ [(1000, .var (.d (.int .i64 0)))]) (N := 1000) Try.func18 rfl rfl rfl rfl rfl rfl rfl rfl rfl rfl [] catch_idle catch_pan rfl (vc_chk rfl) rfl (by decide) (by decide) rfl ?_ ?_
  · skip
    repeat' (first
        | ((with_reducible refine vc_chk ?_); first | decide +kernel | rfl)
        | (with_reducible refine vc_side0 ?_; rfl)
        | (with_reducible first
             | refine vc_true ?_ | refine vc_true2 ?_ | refine vc_side ?_ ?_ | refine vc_triv | refine vc_later ?_ | refine vc_caseT ?_ | refine vc_caseF ?_ | refine vc_cons ?_ | refine vc_nil ?_ ?_ | refine vc_seq ?_
                | refine vc_region ?_ | refine vc_cond ?_ | refine vc_block ?_ | refine vc_retc ?_ | refine vc_exit ?_ | refine vc_skip ?_ | refine vc_scope ?_ | refine vc_label ?_ | refine vc_goto ?_ | refine vc_wkSl0
                | refine vc_wkHp0 | refine vc_eqAVs0 | refine vc_preG0 | refine vc_wkSl ?_ ?_ | refine vc_wkHp ?_ ?_ | refine vc_eqAVs ?_ ?_ | refine vc_preG ?_ ?_ | refine vc_side0 ?_ | refine vc_mid [] ?_ ?_ ?_ ?_
                | refine vc_weakf [] ?_ ?_ ?_ | refine vc_and ?_ ?_ | refine vc_ret [] [] ?_)
        | ((with_reducible first | refine vc_caseD (fun h => ?_) (fun h => ?_) | refine vc_caseN (fun h => ?_) (fun h => ?_)) <;> try (exfalso; omega))
        | ((with_reducible refine vc_case (fun h => ?_) (fun h => ?_)) <;> (try simp at h) <;> try (exfalso; omega))
        | (conv in Vc _ => arg 1; whnf
           first
            | (with_reducible refine vc_side0 ?_; rfl)
            | (with_reducible first
                | refine vc_true ?_ | refine vc_true2 ?_ | refine vc_side ?_ ?_ | refine vc_triv | refine vc_later ?_ | refine vc_caseT ?_ | refine vc_caseF ?_ | refine vc_cons ?_ | refine vc_nil ?_ ?_ | refine vc_seq ?_
                   | refine vc_region ?_ | refine vc_cond ?_ | refine vc_block ?_ | refine vc_retc ?_ | refine vc_exit ?_ | refine vc_skip ?_ | refine vc_scope ?_ | refine vc_label ?_ | refine vc_goto ?_ | refine vc_wkSl0
                   | refine vc_wkHp0 | refine vc_eqAVs0 | refine vc_preG0 | refine vc_wkSl ?_ ?_ | refine vc_wkHp ?_ ?_ | refine vc_eqAVs ?_ ?_ | refine vc_preG ?_ ?_ | refine vc_side0 ?_ | refine vc_mid [] ?_ ?_ ?_ ?_
                   | refine vc_weakf [] ?_ ?_ ?_ | refine vc_and ?_ ?_ | refine vc_ret [] [] ?_)
            | ((with_reducible first | refine vc_caseD (fun h => ?_) (fun h => ?_) | refine vc_caseN (fun h => ?_) (fun h => ?_)) <;> try (exfalso; omega))
            | ((with_reducible refine vc_case (fun h => ?_) (fun h => ?_)) <;> (try simp at h) <;> try (exfalso; omega))))
    all_goals rfl
  · have hcl := localPan_ren [(9, 3008)] [(3008, 9)] (cr_not B bs hB most hm1 hm hl h) rfl
    repeat' (first
        | ((with_reducible refine vc_chk ?_); first | decide +kernel | rfl)
        | (with_reducible refine vc_side0 ?_; rfl)
        | (with_reducible first
             | refine vc_true ?_ | refine vc_true2 ?_ | refine vc_side ?_ ?_ | refine vc_triv | refine vc_later ?_ | refine vc_caseT ?_ | refine vc_caseF ?_ | refine vc_cons ?_ | refine vc_nil ?_ ?_ | refine vc_seq ?_
                | refine vc_region ?_ | refine vc_cond ?_ | refine vc_block ?_ | refine vc_retc ?_ | refine vc_exit ?_ | refine vc_skip ?_ | refine vc_scope ?_ | refine vc_label ?_ | refine vc_goto ?_ | refine vc_wkSl0
                | refine vc_wkHp0 | refine vc_eqAVs0 | refine vc_preG0 | refine vc_wkSl ?_ ?_ | refine vc_wkHp ?_ ?_ | refine vc_eqAVs ?_ ?_ | refine vc_preG ?_ ?_ | refine vc_side0 ?_ | refine vc_pan [] hcl ?_
                | refine vc_weakf [] ?_ ?_ ?_ | refine vc_and ?_ ?_ | refine vc_ret [] [] ?_)
        | ((with_reducible first | refine vc_caseD (fun h => ?_) (fun h => ?_) | refine vc_caseN (fun h => ?_) (fun h => ?_)) <;> try (exfalso; omega))
        | ((with_reducible refine vc_case (fun h => ?_) (fun h => ?_)) <;> (try simp at h) <;> try (exfalso; omega))
        | (conv in Vc _ => arg 1; whnf
           first
            | (with_reducible refine vc_side0 ?_; rfl)
            | (with_reducible first
                | refine vc_true ?_ | refine vc_true2 ?_ | refine vc_side ?_ ?_ | refine vc_triv | refine vc_later ?_ | refine vc_caseT ?_ | refine vc_caseF ?_ | refine vc_cons ?_ | refine vc_nil ?_ ?_ | refine vc_seq ?_
                   | refine vc_region ?_ | refine vc_cond ?_ | refine vc_block ?_ | refine vc_retc ?_ | refine vc_exit ?_ | refine vc_skip ?_ | refine vc_scope ?_ | refine vc_label ?_ | refine vc_goto ?_ | refine vc_wkSl0
                   | refine vc_wkHp0 | refine vc_eqAVs0 | refine vc_preG0 | refine vc_wkSl ?_ ?_ | refine vc_wkHp ?_ ?_ | refine vc_eqAVs ?_ ?_ | refine vc_preG ?_ ?_ | refine vc_side0 ?_ | refine vc_pan [] hcl ?_
                   | refine vc_weakf [] ?_ ?_ ?_ | refine vc_and ?_ ?_ | refine vc_ret [] [] ?_)
            | ((with_reducible first | refine vc_caseD (fun h => ?_) (fun h => ?_) | refine vc_caseN (fun h => ?_) (fun h => ?_)) <;> try (exfalso; omega))
            | ((with_reducible refine vc_case (fun h => ?_) (fun h => ?_)) <;> (try simp at h) <;> try (exfalso; omega))))
    all_goals rfl

theorem crO_some {bs : List UInt8} {most : Int} {n : Nat} {d t : List UInt8} (h : crO bs most = some (n, d, t)) : ∃ k k2 e, rdC bs most 0 = some (n, k) ∧ (¬ n = 2) ∧ rdD bs n k = some (d, k2) ∧ rdT bs k2 = some (t, e) ∧ e = bs.length := by
  unfold crO at h
  split at h
  · cases h
  · rename_i n' k hc
    by_cases h2 : n' = 2
    · rw [decide_eq_true h2] at h; cases h
    · rw [decide_eq_false h2, cond_false] at h
      split at h
      · cases h
      · rename_i d' k2 hd
        rcases ht : rdT bs k2 with _ | ⟨t', e⟩
        · rw [ht] at h; cases h
        · rw [ht, crEnd] at h
          by_cases he : e = bs.length
          · rw [decide_eq_true he] at h
            cases h
            exact ⟨k, k2, e, hc, h2, hd, ht, he⟩
          · rw [decide_eq_false he] at h; cases h

theorem crRead_no (bs : List UInt8) (most : Int) (hm1 : -2 ^ 63 ≤ most) (hm : most < 2 ^ 63) (hl : bs.length < 2 ^ 62) (h : crO bs most = none) :
    LocalCall Try.prog 18 [.d (.sl (bs.map byteD)), .fn (.func 19) [.ptr 8 [], .ptr 7 [], .ptr 6 [], .ptr 5 []]] (crVars most) [] (one [.d (.int .i64 3)]) [(7, .dead), (6, .dead), (5, .dead)] := by
  unfold crO at h
  split at h
  · rename_i hc
    exact crRead_not _ bs rfl most hm1 hm hl fun n k e => by rw [hc] at e; cases e
  · rename_i n k hc
    by_cases h2 : n = 2
    · exact crRead_not _ bs rfl most hm1 hm hl fun n' k' e => by rw [hc] at e; cases e; exact .inl h2
    · rw [decide_eq_false h2, cond_false] at h
      split at h
      · rename_i hd
        exact crRead_not _ bs rfl most hm1 hm hl fun n' k' e => by rw [hc] at e; cases e; exact .inr fun d k2 e => by rw [hd] at e; cases e
      · rename_i d k2 hd
        rcases ht : rdT bs k2 with _ | ⟨t, e⟩
        · exact crRead_not _ bs rfl most hm1 hm hl fun n' k' e => by rw [hc] at e; cases e; exact .inr fun d' k2' e => by rw [hd] at e; cases e; exact ht
        · rw [ht, crEnd] at h
          by_cases he : e = bs.length
          · rw [decide_eq_true he] at h; cases h
          · exact crRead_more _ bs rfl most hm n k k2 e d t hc h2 hd ht he hl

theorem crRead_yes (bs : List UInt8) (most : Int) (hm : most < 2 ^ 63) (hl : bs.length < 2 ^ 62) {n : Nat} {d t : List UInt8} (h : crO bs most = some (n, d, t)) :
    LocalCall Try.prog 18 [.d (.sl (bs.map byteD)), .fn (.func 19) [.ptr 8 [], .ptr 7 [], .ptr 6 [], .ptr 5 []]] (crVars most) [] (one [.d (.int .i64 0)]) [(7, .var (.d (.int .i64 (n : Int)))), (6, .var (.d (.arr 32 1 (d.map byteD)))), (5, .var (.d (.sl (t.map byteD))))] := by
  obtain ⟨k, k2, e, hc, h2, hd, ht, he⟩ := crO_some h
  exact crRead_in _ bs rfl most hm n k k2 e d t hc h2 hd ht he hl

/-- Where the reference and the reader come to. -/
theorem crO_neg (bs : List UInt8) {most : Int} (h : most < 0) : crO bs most = none := by
  have hc : rdC bs most 0 = none := by
    unfold rdC
    split
    · rw [decide_eq_false (show ¬ 0 ≤ most by omega)]; rfl
    · rfl
  unfold crO
  rw [hc]

theorem rdC_of {bs : List UInt8} {most : Int} {v k : Nat} (h0 : 0 ≤ most) (h : inN bs 10 0 0 0 = (v, k, false)) (hv : (v : Int) ≤ most) : rdC bs most 0 = some (v, k) := by
  unfold rdC
  rw [inN_rdN, h]
  simp [optN, h0, hv]

theorem crO_bad (bs : List UInt8) {most : Int} {v k : Nat} (h : inN bs 10 0 0 0 = (v, k, true)) : crO bs most = none := by
  have hc : rdC bs most 0 = none := by
    unfold rdC
    rw [inN_rdN, h]; rfl
  unfold crO
  rw [hc]

theorem crO_much (bs : List UInt8) {most : Int} {v k : Nat} (h : inN bs 10 0 0 0 = (v, k, false)) (hv : most < v) : crO bs most = none := by
  have hc : rdC bs most 0 = none := by
    unfold rdC
    rw [inN_rdN, h]
    have : ¬ (v : Int) ≤ most := by omega
    simp [optN, this]
  unfold crO
  rw [hc]

theorem crO_two (bs : List UInt8) {most : Int} {v k : Nat} (h0 : 0 ≤ most) (h : inN bs 10 0 0 0 = (v, k, false)) (hv : (v : Int) ≤ most) (h2 : v = 2) : crO bs most = none := by
  unfold crO
  rw [rdC_of h0 h hv]
  simp [h2]

theorem crO_nought (bs : List UInt8) {most : Int} {v k : Nat} (h0 : 0 ≤ most) (h : inN bs 10 0 0 0 = (v, k, false)) (hv : (v : Int) ≤ most) (hz : v = 0) : crO bs most = bif !(inT bs k).2.2 && decide ((inT bs k).2.1 = bs.length) then some (0, zero32, (inT bs k).1) else none := by
  subst hz
  unfold crO
  rw [rdC_of h0 h hv, ← crEnd_opt, ← inT_rdT]
  rfl

theorem crO_dno (bs : List UInt8) {most : Int} {v k : Nat} (h0 : 0 ≤ most) (h : inN bs 10 0 0 0 = (v, k, false)) (hv : (v : Int) ≤ most) (h2 : ¬ v = 2) (hz : 0 < v) (hk : ¬ k + 32 ≤ bs.length) : crO bs most = none := by
  unfold crO rdD
  rw [rdC_of h0 h hv]
  simp [h2, hz, hk]

theorem crO_dyes (bs : List UInt8) {most : Int} {v k : Nat} (h0 : 0 ≤ most) (h : inN bs 10 0 0 0 = (v, k, false)) (hv : (v : Int) ≤ most) (h2 : ¬ v = 2) (hz : 0 < v) (hk : k + 32 ≤ bs.length) :
    crO bs most = bif !(inT bs (k + 32)).2.2 && decide ((inT bs (k + 32)).2.1 = bs.length) then some (v, (bs.drop k).take 32, (inT bs (k + 32)).1) else none := by
  rw [← crEnd_opt, ← inT_rdT]
  unfold crO rdD
  rw [rdC_of h0 h hv]
  simp [h2, hz, hk]

theorem inDone_is (B : List D) (bs : List UInt8) (hB : B = bs.map byteD) (k : Nat) (b c : Bool) (h : (!b && decide (k = bs.length)) = c) :
    LocalCall Try.prog 27 [.ptr 9 []] [(9, rIn B k b)] [] (one [.d (.bool c)]) [(9, rIn B k b)] := by
  have := inDone_ok B k b
  have hlen : B.length = bs.length := by rw [hB]; simp
  rw [hlen, h] at this
  exact this

theorem inText_is (B : List D) (bs : List UInt8) (hB : B = bs.map byteD) (k : Nat) (hk : k ≤ bs.length) (hl : bs.length < 2 ^ 62) :
    LocalCall Try.prog 26 [.ptr 9 []] [(9, rIn B k false)] [] (one [.d (.sl ((inT bs k).1.map byteD))]) [(9, rIn B (inT bs k).2.1 (inT bs k).2.2)] := inText_ok B bs hB k hk hl _ rfl

theorem zz : (D.arr (31 + 1) (0 + 1) (zero32.map byteD)).beq (D.arr (31 + 1) (0 + 1) (List.replicate 32 (D.zero Try.prog 7 5))) = true := by decide +kernel

theorem codecReader_neg (b : List UInt8) (most : Int) (hb : b.length ≤ 2 ^ 21) (hm1 : -9223372036854775808 ≤ most) (hm2 : most ≤ 9223372036854775807) (h0 : most < 0) :
    LocalCall Try.prog 4 [.d (.sl (b.map byteD)), .d (.int .i64 most)] [] [] (one [.d (.bool true)]) [] := by
  have hl : b.length < 2 ^ 62 := by omega
  have c1 := local_ren [(8, 1000), (7, 2000), (6, 3000), (5, 4000)] [(1000, 8), (2000, 7), (3000, 6), (4000, 5)] (crRead_no b most (by omega) (by omega) hl (crO_neg b h0)) rfl
  refine vc_fn mixed Try.func4 rfl rfl [] (vc_chk rfl) ?_
  repeat' (first
      | ((with_reducible refine vc_chk ?_); first | decide +kernel | rfl)
      | (with_reducible refine vc_side0 ?_; rfl)
      | (with_reducible first
           | refine vc_true ?_ | refine vc_true2 ?_ | refine vc_side ?_ ?_ | refine vc_triv | refine vc_later ?_ | refine vc_caseT ?_ | refine vc_caseF ?_ | refine vc_cons ?_ | refine vc_nil ?_ ?_ | refine vc_seq ?_
              | refine vc_region ?_ | refine vc_cond ?_ | refine vc_block ?_ | refine vc_retc ?_ | refine vc_exit ?_ | refine vc_skip ?_ | refine vc_scope ?_ | refine vc_label ?_ | refine vc_goto ?_ | refine vc_wkSl0
              | refine vc_wkHp0 | refine vc_eqAVs0 | refine vc_preG0 | refine vc_wkSl ?_ ?_ | refine vc_wkHp ?_ ?_ | refine vc_eqAVs ?_ ?_ | refine vc_preG ?_ ?_ | refine vc_side0 ?_ | refine vc_call [] c1 ?_
              | refine vc_call [] (local_ren [(9, 6008)] [(6008, 9)] (inText_bad (b.map byteD) 0) rfl) ?_ | refine vc_call [] (local_ren [(9, 6008)] [(6008, 9)] (inDone_is (b.map byteD) b rfl 0 true false rfl) rfl) ?_
              | refine vc_pure works_ok ?_ ?_ ?_ | refine vc_pure (same_yes _) ?_ ?_ ?_ | refine vc_weakf [] ?_ ?_ ?_ | refine vc_and ?_ ?_ | refine vc_ret [] [] ?_)
      | ((with_reducible first | refine vc_caseD (fun h => ?_) (fun h => ?_) | refine vc_caseN (fun h => ?_) (fun h => ?_)) <;> try (exfalso; omega))
      | ((with_reducible refine vc_case (fun h => ?_) (fun h => ?_)) <;> (try simp only [Bool.cond_true_left, Bool.cond_false_right, Bool.cond_true_right, Bool.cond_false_left, Bool.and_eq_true, Bool.or_eq_true, Bool.and_eq_false_iff, Bool.or_eq_false_iff, Bool.not_eq_true', Bool.not_eq_false', Bool.not_eq_true, Bool.not_eq_false, Bool.not_not, decide_eq_true_eq, decide_eq_false_iff_not, beq_iff_eq, beq_eq_false_iff_ne, bne_iff_ne, bne_eq_false_iff_eq, ne_eq, Classical.not_not, reduceCtorEq, false_or, or_false, true_and, and_true, Bool.false_eq_true, Bool.true_eq_false] at h) <;> try (exfalso; first | omega | (simp at h; done)))
      | (conv in Vc _ => arg 1; whnf
         first
          | (with_reducible refine vc_side0 ?_; rfl)
          | (with_reducible first
              | refine vc_true ?_ | refine vc_true2 ?_ | refine vc_side ?_ ?_ | refine vc_triv | refine vc_later ?_ | refine vc_caseT ?_ | refine vc_caseF ?_ | refine vc_cons ?_ | refine vc_nil ?_ ?_ | refine vc_seq ?_
                 | refine vc_region ?_ | refine vc_cond ?_ | refine vc_block ?_ | refine vc_retc ?_ | refine vc_exit ?_ | refine vc_skip ?_ | refine vc_scope ?_ | refine vc_label ?_ | refine vc_goto ?_ | refine vc_wkSl0
                 | refine vc_wkHp0 | refine vc_eqAVs0 | refine vc_preG0 | refine vc_wkSl ?_ ?_ | refine vc_wkHp ?_ ?_ | refine vc_eqAVs ?_ ?_ | refine vc_preG ?_ ?_ | refine vc_side0 ?_ | refine vc_call [] c1 ?_
                 | refine vc_call [] (local_ren [(9, 6008)] [(6008, 9)] (inText_bad (b.map byteD) 0) rfl) ?_ | refine vc_call [] (local_ren [(9, 6008)] [(6008, 9)] (inDone_is (b.map byteD) b rfl 0 true false rfl) rfl) ?_
                 | refine vc_pure works_ok ?_ ?_ ?_ | refine vc_pure (same_yes _) ?_ ?_ ?_ | refine vc_weakf [] ?_ ?_ ?_ | refine vc_and ?_ ?_ | refine vc_ret [] [] ?_)
          | ((with_reducible first | refine vc_caseD (fun h => ?_) (fun h => ?_) | refine vc_caseN (fun h => ?_) (fun h => ?_)) <;> try (exfalso; omega))
          | ((with_reducible refine vc_case (fun h => ?_) (fun h => ?_)) <;> (try simp only [Bool.cond_true_left, Bool.cond_false_right, Bool.cond_true_right, Bool.cond_false_left, Bool.and_eq_true, Bool.or_eq_true, Bool.and_eq_false_iff, Bool.or_eq_false_iff, Bool.not_eq_true', Bool.not_eq_false', Bool.not_eq_true, Bool.not_eq_false, Bool.not_not, decide_eq_true_eq, decide_eq_false_iff_not, beq_iff_eq, beq_eq_false_iff_ne, bne_iff_ne, bne_eq_false_iff_eq, ne_eq, Classical.not_not, reduceCtorEq, false_or, or_false, true_and, and_true, Bool.false_eq_true, Bool.true_eq_false] at h) <;> try (exfalso; first | omega | (simp at h; done)))))
  all_goals first
    | rfl
    | exact congrArg (D.arr 32 1) rfl

theorem codecReader_bad (b : List UInt8) (most : Int) (hb : b.length ≤ 2 ^ 21) (hm1 : -9223372036854775808 ≤ most) (hm2 : most ≤ 9223372036854775807) (h0 : 0 ≤ most) (v k : Nat) (hN : inN b 10 0 0 0 = (v, k, true)) :
    LocalCall Try.prog 4 [.d (.sl (b.map byteD)), .d (.int .i64 most)] [] [] (one [.d (.bool true)]) [] := by
  have hl : b.length < 2 ^ 62 := by omega
  have hw : IntKind.u64.wrap most = most := wrapU64_id h0 (by omega)
  have c1 := local_ren [(8, 1000), (7, 2000), (6, 3000), (5, 4000)] [(1000, 8), (2000, 7), (3000, 6), (4000, 5)] (crRead_no b most (by omega) (by omega) hl (crO_bad b hN)) rfl
  refine vc_fn mixed Try.func4 rfl rfl [] (vc_chk rfl) ?_
  repeat' (first
      | ((with_reducible refine vc_chk ?_); first | decide +kernel | rfl)
      | (with_reducible refine vc_side0 ?_; rfl)
      | (with_reducible first
           | refine vc_true ?_ | refine vc_true2 ?_ | refine vc_side ?_ ?_ | refine vc_triv | refine vc_later ?_ | refine vc_caseT ?_ | refine vc_caseF ?_ | refine vc_cons ?_ | refine vc_nil ?_ ?_ | refine vc_seq ?_
              | refine vc_region ?_ | refine vc_cond ?_ | refine vc_block ?_ | refine vc_retc ?_ | refine vc_exit ?_ | refine vc_skip ?_ | refine vc_scope ?_ | refine vc_label ?_ | refine vc_goto ?_ | refine vc_wkSl0
              | refine vc_wkHp0 | refine vc_eqAVs0 | refine vc_preG0 | refine vc_wkSl ?_ ?_ | refine vc_wkHp ?_ ?_ | refine vc_eqAVs ?_ ?_ | refine vc_preG ?_ ?_ | refine vc_side0 ?_ | refine vc_call [] c1 ?_
              | refine vc_call [] (local_ren [(9, 6008)] [(6008, 9)] (inNum_ok (b.map byteD) b rfl 0 (Nat.zero_le _) hl _ hN) rfl) ?_ | refine vc_call [] (local_ren [(9, 6008)] [(6008, 9)] (inText_bad (b.map byteD) k) rfl) ?_
              | refine vc_call [] (local_ren [(9, 6008)] [(6008, 9)] (inDone_is (b.map byteD) b rfl k true false rfl) rfl) ?_ | refine vc_pure works_ok ?_ ?_ ?_ | refine vc_pure (same_yes _) ?_ ?_ ?_ | refine vc_weakf [] ?_ ?_ ?_
              | refine vc_and ?_ ?_ | refine vc_ret [] [] ?_)
      | ((with_reducible first | refine vc_caseD (fun h => ?_) (fun h => ?_) | refine vc_caseN (fun h => ?_) (fun h => ?_)) <;> try (exfalso; omega))
      | ((with_reducible refine vc_case (fun h => ?_) (fun h => ?_)) <;> (try simp only [Bool.cond_true_left, Bool.cond_false_right, Bool.cond_true_right, Bool.cond_false_left, Bool.and_eq_true, Bool.or_eq_true, Bool.and_eq_false_iff, Bool.or_eq_false_iff, Bool.not_eq_true', Bool.not_eq_false', Bool.not_eq_true, Bool.not_eq_false, Bool.not_not, decide_eq_true_eq, decide_eq_false_iff_not, beq_iff_eq, beq_eq_false_iff_ne, bne_iff_ne, bne_eq_false_iff_eq, ne_eq, Classical.not_not, reduceCtorEq, false_or, or_false, true_and, and_true, Bool.false_eq_true, Bool.true_eq_false] at h) <;> try (exfalso; first | omega | (simp at h; done)))
      | (conv in Vc _ => arg 1; whnf
         first
          | (with_reducible refine vc_side0 ?_; rfl)
          | (with_reducible first
              | refine vc_true ?_ | refine vc_true2 ?_ | refine vc_side ?_ ?_ | refine vc_triv | refine vc_later ?_ | refine vc_caseT ?_ | refine vc_caseF ?_ | refine vc_cons ?_ | refine vc_nil ?_ ?_ | refine vc_seq ?_
                 | refine vc_region ?_ | refine vc_cond ?_ | refine vc_block ?_ | refine vc_retc ?_ | refine vc_exit ?_ | refine vc_skip ?_ | refine vc_scope ?_ | refine vc_label ?_ | refine vc_goto ?_ | refine vc_wkSl0
                 | refine vc_wkHp0 | refine vc_eqAVs0 | refine vc_preG0 | refine vc_wkSl ?_ ?_ | refine vc_wkHp ?_ ?_ | refine vc_eqAVs ?_ ?_ | refine vc_preG ?_ ?_ | refine vc_side0 ?_ | refine vc_call [] c1 ?_
                 | refine vc_call [] (local_ren [(9, 6008)] [(6008, 9)] (inNum_ok (b.map byteD) b rfl 0 (Nat.zero_le _) hl _ hN) rfl) ?_ | refine vc_call [] (local_ren [(9, 6008)] [(6008, 9)] (inText_bad (b.map byteD) k) rfl) ?_
                 | refine vc_call [] (local_ren [(9, 6008)] [(6008, 9)] (inDone_is (b.map byteD) b rfl k true false rfl) rfl) ?_ | refine vc_pure works_ok ?_ ?_ ?_ | refine vc_pure (same_yes _) ?_ ?_ ?_
                 | refine vc_weakf [] ?_ ?_ ?_ | refine vc_and ?_ ?_ | refine vc_ret [] [] ?_)
          | ((with_reducible first | refine vc_caseD (fun h => ?_) (fun h => ?_) | refine vc_caseN (fun h => ?_) (fun h => ?_)) <;> try (exfalso; omega))
          | ((with_reducible refine vc_case (fun h => ?_) (fun h => ?_)) <;> (try simp only [Bool.cond_true_left, Bool.cond_false_right, Bool.cond_true_right, Bool.cond_false_left, Bool.and_eq_true, Bool.or_eq_true, Bool.and_eq_false_iff, Bool.or_eq_false_iff, Bool.not_eq_true', Bool.not_eq_false', Bool.not_eq_true, Bool.not_eq_false, Bool.not_not, decide_eq_true_eq, decide_eq_false_iff_not, beq_iff_eq, beq_eq_false_iff_ne, bne_iff_ne, bne_eq_false_iff_eq, ne_eq, Classical.not_not, reduceCtorEq, false_or, or_false, true_and, and_true, Bool.false_eq_true, Bool.true_eq_false] at h) <;> try (exfalso; first | omega | (simp at h; done)))))
  all_goals first
    | rfl
    | exact congrArg (D.arr 32 1) rfl

theorem codecReader_much (b : List UInt8) (most : Int) (hb : b.length ≤ 2 ^ 21) (hm1 : -9223372036854775808 ≤ most) (hm2 : most ≤ 9223372036854775807) (h0 : 0 ≤ most) (v k : Nat) (hN : inN b 10 0 0 0 = (v, k, false)) (hv : most < v) :
    LocalCall Try.prog 4 [.d (.sl (b.map byteD)), .d (.int .i64 most)] [] [] (one [.d (.bool true)]) [] := by
  have hl : b.length < 2 ^ 62 := by omega
  have hw : IntKind.u64.wrap most = most := wrapU64_id h0 (by omega)
  have c1 := local_ren [(8, 1000), (7, 2000), (6, 3000), (5, 4000)] [(1000, 8), (2000, 7), (3000, 6), (4000, 5)] (crRead_no b most (by omega) (by omega) hl (crO_much b hN hv)) rfl
  refine vc_fn mixed Try.func4 rfl rfl [] (vc_chk rfl) ?_
  repeat' (first
      | ((with_reducible refine vc_chk ?_); first | decide +kernel | rfl)
      | (with_reducible refine vc_side0 ?_; rfl)
      | (with_reducible first
           | refine vc_true ?_ | refine vc_true2 ?_ | refine vc_side ?_ ?_ | refine vc_triv | refine vc_later ?_ | refine vc_caseT ?_ | refine vc_caseF ?_ | refine vc_cons ?_ | refine vc_nil ?_ ?_ | refine vc_seq ?_
              | refine vc_region ?_ | refine vc_cond ?_ | refine vc_block ?_ | refine vc_retc ?_ | refine vc_exit ?_ | refine vc_skip ?_ | refine vc_scope ?_ | refine vc_label ?_ | refine vc_goto ?_ | refine vc_wkSl0
              | refine vc_wkHp0 | refine vc_eqAVs0 | refine vc_preG0 | refine vc_wkSl ?_ ?_ | refine vc_wkHp ?_ ?_ | refine vc_eqAVs ?_ ?_ | refine vc_preG ?_ ?_ | refine vc_side0 ?_ | refine vc_call [] c1 ?_
              | refine vc_call [] (local_ren [(9, 6008)] [(6008, 9)] (inNum_ok (b.map byteD) b rfl 0 (Nat.zero_le _) hl _ hN) rfl) ?_ | refine vc_call [] (local_ren [(9, 6008)] [(6008, 9)] (inText_bad (b.map byteD) k) rfl) ?_
              | refine vc_call [] (local_ren [(9, 6008)] [(6008, 9)] (inDone_is (b.map byteD) b rfl k true false rfl) rfl) ?_ | refine vc_pure works_ok ?_ ?_ ?_ | refine vc_pure (same_yes _) ?_ ?_ ?_ | refine vc_weakf [] ?_ ?_ ?_
              | refine vc_and ?_ ?_ | refine vc_ret [] [] ?_)
      | ((with_reducible first | refine vc_caseD (fun h => ?_) (fun h => ?_) | refine vc_caseN (fun h => ?_) (fun h => ?_)) <;> try (exfalso; omega))
      | ((with_reducible refine vc_case (fun h => ?_) (fun h => ?_)) <;> (try simp only [Bool.cond_true_left, Bool.cond_false_right, Bool.cond_true_right, Bool.cond_false_left, Bool.and_eq_true, Bool.or_eq_true, Bool.and_eq_false_iff, Bool.or_eq_false_iff, Bool.not_eq_true', Bool.not_eq_false', Bool.not_eq_true, Bool.not_eq_false, Bool.not_not, decide_eq_true_eq, decide_eq_false_iff_not, beq_iff_eq, beq_eq_false_iff_ne, bne_iff_ne, bne_eq_false_iff_eq, ne_eq, Classical.not_not, reduceCtorEq, false_or, or_false, true_and, and_true, Bool.false_eq_true, Bool.true_eq_false] at h) <;> try (exfalso; first | omega | (simp at h; done)))
      | (conv in Vc _ => arg 1; whnf
         first
          | (with_reducible refine vc_side0 ?_; rfl)
          | (with_reducible first
              | refine vc_true ?_ | refine vc_true2 ?_ | refine vc_side ?_ ?_ | refine vc_triv | refine vc_later ?_ | refine vc_caseT ?_ | refine vc_caseF ?_ | refine vc_cons ?_ | refine vc_nil ?_ ?_ | refine vc_seq ?_
                 | refine vc_region ?_ | refine vc_cond ?_ | refine vc_block ?_ | refine vc_retc ?_ | refine vc_exit ?_ | refine vc_skip ?_ | refine vc_scope ?_ | refine vc_label ?_ | refine vc_goto ?_ | refine vc_wkSl0
                 | refine vc_wkHp0 | refine vc_eqAVs0 | refine vc_preG0 | refine vc_wkSl ?_ ?_ | refine vc_wkHp ?_ ?_ | refine vc_eqAVs ?_ ?_ | refine vc_preG ?_ ?_ | refine vc_side0 ?_ | refine vc_call [] c1 ?_
                 | refine vc_call [] (local_ren [(9, 6008)] [(6008, 9)] (inNum_ok (b.map byteD) b rfl 0 (Nat.zero_le _) hl _ hN) rfl) ?_ | refine vc_call [] (local_ren [(9, 6008)] [(6008, 9)] (inText_bad (b.map byteD) k) rfl) ?_
                 | refine vc_call [] (local_ren [(9, 6008)] [(6008, 9)] (inDone_is (b.map byteD) b rfl k true false rfl) rfl) ?_ | refine vc_pure works_ok ?_ ?_ ?_ | refine vc_pure (same_yes _) ?_ ?_ ?_
                 | refine vc_weakf [] ?_ ?_ ?_ | refine vc_and ?_ ?_ | refine vc_ret [] [] ?_)
          | ((with_reducible first | refine vc_caseD (fun h => ?_) (fun h => ?_) | refine vc_caseN (fun h => ?_) (fun h => ?_)) <;> try (exfalso; omega))
          | ((with_reducible refine vc_case (fun h => ?_) (fun h => ?_)) <;> (try simp only [Bool.cond_true_left, Bool.cond_false_right, Bool.cond_true_right, Bool.cond_false_left, Bool.and_eq_true, Bool.or_eq_true, Bool.and_eq_false_iff, Bool.or_eq_false_iff, Bool.not_eq_true', Bool.not_eq_false', Bool.not_eq_true, Bool.not_eq_false, Bool.not_not, decide_eq_true_eq, decide_eq_false_iff_not, beq_iff_eq, beq_eq_false_iff_ne, bne_iff_ne, bne_eq_false_iff_eq, ne_eq, Classical.not_not, reduceCtorEq, false_or, or_false, true_and, and_true, Bool.false_eq_true, Bool.true_eq_false] at h) <;> try (exfalso; first | omega | (simp at h; done)))))
  all_goals first
    | rfl
    | exact congrArg (D.arr 32 1) rfl

theorem codecReader_two (b : List UInt8) (most : Int) (hb : b.length ≤ 2 ^ 21) (hm1 : -9223372036854775808 ≤ most) (hm2 : most ≤ 9223372036854775807) (h0 : 0 ≤ most) (v k : Nat) (hN : inN b 10 0 0 0 = (v, k, false)) (hv : (v : Int) ≤ most) (h2 : v = 2) :
    LocalCall Try.prog 4 [.d (.sl (b.map byteD)), .d (.int .i64 most)] [] [] (one [.d (.bool true)]) [] := by
  have hl : b.length < 2 ^ 62 := by omega
  have hw : IntKind.u64.wrap most = most := wrapU64_id h0 (by omega)
  subst h2
  have c1 := local_ren [(8, 1000), (7, 2000), (6, 3000), (5, 4000)] [(1000, 8), (2000, 7), (3000, 6), (4000, 5)] (crRead_no b most (by omega) (by omega) hl (crO_two b h0 hN hv rfl)) rfl
  refine vc_fn mixed Try.func4 rfl rfl [] (vc_chk rfl) ?_
  repeat' (first
      | ((with_reducible refine vc_chk ?_); first | decide +kernel | rfl)
      | (with_reducible refine vc_side0 ?_; rfl)
      | (with_reducible first
           | refine vc_true ?_ | refine vc_true2 ?_ | refine vc_side ?_ ?_ | refine vc_triv | refine vc_later ?_ | refine vc_caseT ?_ | refine vc_caseF ?_ | refine vc_cons ?_ | refine vc_nil ?_ ?_ | refine vc_seq ?_
              | refine vc_region ?_ | refine vc_cond ?_ | refine vc_block ?_ | refine vc_retc ?_ | refine vc_exit ?_ | refine vc_skip ?_ | refine vc_scope ?_ | refine vc_label ?_ | refine vc_goto ?_ | refine vc_wkSl0
              | refine vc_wkHp0 | refine vc_eqAVs0 | refine vc_preG0 | refine vc_wkSl ?_ ?_ | refine vc_wkHp ?_ ?_ | refine vc_eqAVs ?_ ?_ | refine vc_preG ?_ ?_ | refine vc_side0 ?_ | refine vc_call [] c1 ?_
              | refine vc_call [] (local_ren [(9, 6008)] [(6008, 9)] (inNum_ok (b.map byteD) b rfl 0 (Nat.zero_le _) hl _ hN) rfl) ?_ | refine vc_call [] (local_ren [(9, 6008)] [(6008, 9)] (inText_bad (b.map byteD) k) rfl) ?_
              | refine vc_call [] (local_ren [(9, 6008)] [(6008, 9)] (inDone_is (b.map byteD) b rfl k true false rfl) rfl) ?_ | refine vc_pure works_ok ?_ ?_ ?_ | refine vc_pure (same_yes _) ?_ ?_ ?_ | refine vc_weakf [] ?_ ?_ ?_
              | refine vc_and ?_ ?_ | refine vc_ret [] [] ?_)
      | ((with_reducible first | refine vc_caseD (fun h => ?_) (fun h => ?_) | refine vc_caseN (fun h => ?_) (fun h => ?_)) <;> try (exfalso; omega))
      | ((with_reducible refine vc_case (fun h => ?_) (fun h => ?_)) <;> (try simp only [Bool.cond_true_left, Bool.cond_false_right, Bool.cond_true_right, Bool.cond_false_left, Bool.and_eq_true, Bool.or_eq_true, Bool.and_eq_false_iff, Bool.or_eq_false_iff, Bool.not_eq_true', Bool.not_eq_false', Bool.not_eq_true, Bool.not_eq_false, Bool.not_not, decide_eq_true_eq, decide_eq_false_iff_not, beq_iff_eq, beq_eq_false_iff_ne, bne_iff_ne, bne_eq_false_iff_eq, ne_eq, Classical.not_not, reduceCtorEq, false_or, or_false, true_and, and_true, Bool.false_eq_true, Bool.true_eq_false] at h) <;> try (exfalso; first | omega | (simp at h; done)))
      | (conv in Vc _ => arg 1; whnf
         first
          | (with_reducible refine vc_side0 ?_; rfl)
          | (with_reducible first
              | refine vc_true ?_ | refine vc_true2 ?_ | refine vc_side ?_ ?_ | refine vc_triv | refine vc_later ?_ | refine vc_caseT ?_ | refine vc_caseF ?_ | refine vc_cons ?_ | refine vc_nil ?_ ?_ | refine vc_seq ?_
                 | refine vc_region ?_ | refine vc_cond ?_ | refine vc_block ?_ | refine vc_retc ?_ | refine vc_exit ?_ | refine vc_skip ?_ | refine vc_scope ?_ | refine vc_label ?_ | refine vc_goto ?_ | refine vc_wkSl0
                 | refine vc_wkHp0 | refine vc_eqAVs0 | refine vc_preG0 | refine vc_wkSl ?_ ?_ | refine vc_wkHp ?_ ?_ | refine vc_eqAVs ?_ ?_ | refine vc_preG ?_ ?_ | refine vc_side0 ?_ | refine vc_call [] c1 ?_
                 | refine vc_call [] (local_ren [(9, 6008)] [(6008, 9)] (inNum_ok (b.map byteD) b rfl 0 (Nat.zero_le _) hl _ hN) rfl) ?_ | refine vc_call [] (local_ren [(9, 6008)] [(6008, 9)] (inText_bad (b.map byteD) k) rfl) ?_
                 | refine vc_call [] (local_ren [(9, 6008)] [(6008, 9)] (inDone_is (b.map byteD) b rfl k true false rfl) rfl) ?_ | refine vc_pure works_ok ?_ ?_ ?_ | refine vc_pure (same_yes _) ?_ ?_ ?_
                 | refine vc_weakf [] ?_ ?_ ?_ | refine vc_and ?_ ?_ | refine vc_ret [] [] ?_)
          | ((with_reducible first | refine vc_caseD (fun h => ?_) (fun h => ?_) | refine vc_caseN (fun h => ?_) (fun h => ?_)) <;> try (exfalso; omega))
          | ((with_reducible refine vc_case (fun h => ?_) (fun h => ?_)) <;> (try simp only [Bool.cond_true_left, Bool.cond_false_right, Bool.cond_true_right, Bool.cond_false_left, Bool.and_eq_true, Bool.or_eq_true, Bool.and_eq_false_iff, Bool.or_eq_false_iff, Bool.not_eq_true', Bool.not_eq_false', Bool.not_eq_true, Bool.not_eq_false, Bool.not_not, decide_eq_true_eq, decide_eq_false_iff_not, beq_iff_eq, beq_eq_false_iff_ne, bne_iff_ne, bne_eq_false_iff_eq, ne_eq, Classical.not_not, reduceCtorEq, false_or, or_false, true_and, and_true, Bool.false_eq_true, Bool.true_eq_false] at h) <;> try (exfalso; first | omega | (simp at h; done)))))
  all_goals first
    | rfl
    | exact congrArg (D.arr 32 1) rfl

theorem codecReader_nought_no (b : List UInt8) (most : Int) (hb : b.length ≤ 2 ^ 21) (hm1 : -9223372036854775808 ≤ most) (hm2 : most ≤ 9223372036854775807) (h0 : 0 ≤ most) (v k : Nat) (hN : inN b 10 0 0 0 = (v, k, false)) (hk : k ≤ b.length) (hv : (v : Int) ≤ most) (hz : v = 0) (hc : (!(inT b k).2.2 && decide ((inT b k).2.1 = b.length)) = false) :
    LocalCall Try.prog 4 [.d (.sl (b.map byteD)), .d (.int .i64 most)] [] [] (one [.d (.bool true)]) [] := by
  have hl : b.length < 2 ^ 62 := by omega
  have hw : IntKind.u64.wrap most = most := wrapU64_id h0 (by omega)
  have hw2 : IntKind.u64.wrap (v : Int) = v := wrapU64_id (by omega) (by omega)
  subst hz
  have c1 := local_ren [(8, 1000), (7, 2000), (6, 3000), (5, 4000)] [(1000, 8), (2000, 7), (3000, 6), (4000, 5)] (crRead_no b most (by omega) (by omega) hl (by rw [crO_nought b h0 hN hv rfl, hc]; rfl)) rfl
  refine vc_fn mixed Try.func4 rfl rfl [] (vc_chk rfl) ?_
  repeat' (first
      | ((with_reducible refine vc_chk ?_); first | decide +kernel | rfl)
      | (with_reducible refine vc_side0 ?_; rfl)
      | (with_reducible first
           | refine vc_true ?_ | refine vc_true2 ?_ | refine vc_side ?_ ?_ | refine vc_triv | refine vc_later ?_ | refine vc_caseT ?_ | refine vc_caseF ?_ | refine vc_cons ?_ | refine vc_nil ?_ ?_ | refine vc_seq ?_
              | refine vc_region ?_ | refine vc_cond ?_ | refine vc_block ?_ | refine vc_retc ?_ | refine vc_exit ?_ | refine vc_skip ?_ | refine vc_scope ?_ | refine vc_label ?_ | refine vc_goto ?_ | refine vc_wkSl0
              | refine vc_wkHp0 | refine vc_eqAVs0 | refine vc_preG0 | refine vc_wkSl ?_ ?_ | refine vc_wkHp ?_ ?_ | refine vc_eqAVs ?_ ?_ | refine vc_preG ?_ ?_ | refine vc_side0 ?_ | refine vc_call [] c1 ?_
              | refine vc_call [] (local_ren [(9, 6008)] [(6008, 9)] (inNum_ok (b.map byteD) b rfl 0 (Nat.zero_le _) hl _ hN) rfl) ?_
              | refine vc_call [] (local_ren [(9, 6008)] [(6008, 9)] (inText_is (b.map byteD) b rfl k hk hl) rfl) ?_ | refine vc_call [] (local_ren [(9, 6008)] [(6008, 9)] (inDone_is (b.map byteD) b rfl _ _ false hc) rfl) ?_
              | refine vc_pure works_ok ?_ ?_ ?_ | refine vc_pure (same_yes _) ?_ ?_ ?_ | refine vc_weakf [] ?_ ?_ ?_ | refine vc_and ?_ ?_ | refine vc_ret [] [] ?_)
      | ((with_reducible first | refine vc_caseD (fun h => ?_) (fun h => ?_) | refine vc_caseN (fun h => ?_) (fun h => ?_)) <;> try (exfalso; omega))
      | ((with_reducible refine vc_case (fun h => ?_) (fun h => ?_)) <;> (try simp only [Bool.cond_true_left, Bool.cond_false_right, Bool.cond_true_right, Bool.cond_false_left, Bool.and_eq_true, Bool.or_eq_true, Bool.and_eq_false_iff, Bool.or_eq_false_iff, Bool.not_eq_true', Bool.not_eq_false', Bool.not_eq_true, Bool.not_eq_false, Bool.not_not, decide_eq_true_eq, decide_eq_false_iff_not, beq_iff_eq, beq_eq_false_iff_ne, bne_iff_ne, bne_eq_false_iff_eq, ne_eq, Classical.not_not, reduceCtorEq, false_or, or_false, true_and, and_true, Bool.false_eq_true, Bool.true_eq_false] at h) <;> try (exfalso; first | omega | (simp at h; done)))
      | (conv in Vc _ => arg 1; whnf
         first
          | (with_reducible refine vc_side0 ?_; rfl)
          | (with_reducible first
              | refine vc_true ?_ | refine vc_true2 ?_ | refine vc_side ?_ ?_ | refine vc_triv | refine vc_later ?_ | refine vc_caseT ?_ | refine vc_caseF ?_ | refine vc_cons ?_ | refine vc_nil ?_ ?_ | refine vc_seq ?_
                 | refine vc_region ?_ | refine vc_cond ?_ | refine vc_block ?_ | refine vc_retc ?_ | refine vc_exit ?_ | refine vc_skip ?_ | refine vc_scope ?_ | refine vc_label ?_ | refine vc_goto ?_ | refine vc_wkSl0
                 | refine vc_wkHp0 | refine vc_eqAVs0 | refine vc_preG0 | refine vc_wkSl ?_ ?_ | refine vc_wkHp ?_ ?_ | refine vc_eqAVs ?_ ?_ | refine vc_preG ?_ ?_ | refine vc_side0 ?_ | refine vc_call [] c1 ?_
                 | refine vc_call [] (local_ren [(9, 6008)] [(6008, 9)] (inNum_ok (b.map byteD) b rfl 0 (Nat.zero_le _) hl _ hN) rfl) ?_
                 | refine vc_call [] (local_ren [(9, 6008)] [(6008, 9)] (inText_is (b.map byteD) b rfl k hk hl) rfl) ?_ | refine vc_call [] (local_ren [(9, 6008)] [(6008, 9)] (inDone_is (b.map byteD) b rfl _ _ false hc) rfl) ?_
                 | refine vc_pure works_ok ?_ ?_ ?_ | refine vc_pure (same_yes _) ?_ ?_ ?_ | refine vc_weakf [] ?_ ?_ ?_ | refine vc_and ?_ ?_ | refine vc_ret [] [] ?_)
          | ((with_reducible first | refine vc_caseD (fun h => ?_) (fun h => ?_) | refine vc_caseN (fun h => ?_) (fun h => ?_)) <;> try (exfalso; omega))
          | ((with_reducible refine vc_case (fun h => ?_) (fun h => ?_)) <;> (try simp only [Bool.cond_true_left, Bool.cond_false_right, Bool.cond_true_right, Bool.cond_false_left, Bool.and_eq_true, Bool.or_eq_true, Bool.and_eq_false_iff, Bool.or_eq_false_iff, Bool.not_eq_true', Bool.not_eq_false', Bool.not_eq_true, Bool.not_eq_false, Bool.not_not, decide_eq_true_eq, decide_eq_false_iff_not, beq_iff_eq, beq_eq_false_iff_ne, bne_iff_ne, bne_eq_false_iff_eq, ne_eq, Classical.not_not, reduceCtorEq, false_or, or_false, true_and, and_true, Bool.false_eq_true, Bool.true_eq_false] at h) <;> try (exfalso; first | omega | (simp at h; done)))))
  all_goals first
    | rfl
    | exact congrArg (D.arr 32 1) rfl
    | exact ⟨fits_dig 6 _, fits_dig 6 _⟩
    | exact ⟨fits_dig 6 _, fits_dig 6 zero32⟩
    | (exfalso; simp [beq_dig, hw2] at h; done)
    | (exfalso; simp only [cond_false, zz] at h; cases h)

theorem codecReader_nought_yes (b : List UInt8) (most : Int) (hb : b.length ≤ 2 ^ 21) (hm1 : -9223372036854775808 ≤ most) (hm2 : most ≤ 9223372036854775807) (h0 : 0 ≤ most) (v k : Nat) (hN : inN b 10 0 0 0 = (v, k, false)) (hk : k ≤ b.length) (hv : (v : Int) ≤ most) (hz : v = 0) (hc : (!(inT b k).2.2 && decide ((inT b k).2.1 = b.length)) = true) :
    LocalCall Try.prog 4 [.d (.sl (b.map byteD)), .d (.int .i64 most)] [] [] (one [.d (.bool true)]) [] := by
  have hl : b.length < 2 ^ 62 := by omega
  have hw : IntKind.u64.wrap most = most := wrapU64_id h0 (by omega)
  have hw2 : IntKind.u64.wrap (v : Int) = v := wrapU64_id (by omega) (by omega)
  subst hz
  have c1 := local_ren [(8, 1000), (7, 2000), (6, 3000), (5, 4000)] [(1000, 8), (2000, 7), (3000, 6), (4000, 5)] (crRead_yes b most (by omega) hl (n := 0) (d := zero32) (t := (inT b k).1) (by rw [crO_nought b h0 hN hv rfl, hc]; rfl)) rfl
  refine vc_fn mixed Try.func4 rfl rfl [] (vc_chk rfl) ?_
  repeat' (first
      | ((with_reducible refine vc_chk ?_); first | decide +kernel | rfl)
      | (with_reducible refine vc_side0 ?_; rfl)
      | (with_reducible first
           | refine vc_true ?_ | refine vc_true2 ?_ | refine vc_side ?_ ?_ | refine vc_triv | refine vc_later ?_ | refine vc_caseT ?_ | refine vc_caseF ?_ | refine vc_cons ?_ | refine vc_nil ?_ ?_ | refine vc_seq ?_
              | refine vc_region ?_ | refine vc_cond ?_ | refine vc_block ?_ | refine vc_retc ?_ | refine vc_exit ?_ | refine vc_skip ?_ | refine vc_scope ?_ | refine vc_label ?_ | refine vc_goto ?_ | refine vc_wkSl0
              | refine vc_wkHp0 | refine vc_eqAVs0 | refine vc_preG0 | refine vc_wkSl ?_ ?_ | refine vc_wkHp ?_ ?_ | refine vc_eqAVs ?_ ?_ | refine vc_preG ?_ ?_ | refine vc_side0 ?_ | refine vc_call [] c1 ?_
              | refine vc_call [] (local_ren [(9, 6008)] [(6008, 9)] (inNum_ok (b.map byteD) b rfl 0 (Nat.zero_le _) hl _ hN) rfl) ?_
              | refine vc_call [] (local_ren [(9, 6008)] [(6008, 9)] (inText_is (b.map byteD) b rfl k hk hl) rfl) ?_ | refine vc_call [] (local_ren [(9, 6008)] [(6008, 9)] (inDone_is (b.map byteD) b rfl _ _ true hc) rfl) ?_
              | refine vc_pure works_ok ?_ ?_ ?_ | refine vc_pure (same_yes _) ?_ ?_ ?_ | refine vc_weakf [] ?_ ?_ ?_ | refine vc_and ?_ ?_ | refine vc_ret [] [] ?_)
      | ((with_reducible first | refine vc_caseD (fun h => ?_) (fun h => ?_) | refine vc_caseN (fun h => ?_) (fun h => ?_)) <;> try (exfalso; omega))
      | ((with_reducible refine vc_case (fun h => ?_) (fun h => ?_)) <;> (try simp only [Bool.cond_true_left, Bool.cond_false_right, Bool.cond_true_right, Bool.cond_false_left, Bool.and_eq_true, Bool.or_eq_true, Bool.and_eq_false_iff, Bool.or_eq_false_iff, Bool.not_eq_true', Bool.not_eq_false', Bool.not_eq_true, Bool.not_eq_false, Bool.not_not, decide_eq_true_eq, decide_eq_false_iff_not, beq_iff_eq, beq_eq_false_iff_ne, bne_iff_ne, bne_eq_false_iff_eq, ne_eq, Classical.not_not, reduceCtorEq, false_or, or_false, true_and, and_true, Bool.false_eq_true, Bool.true_eq_false] at h) <;> try (exfalso; first | omega | (simp at h; done)))
      | (conv in Vc _ => arg 1; whnf
         first
          | (with_reducible refine vc_side0 ?_; rfl)
          | (with_reducible first
              | refine vc_true ?_ | refine vc_true2 ?_ | refine vc_side ?_ ?_ | refine vc_triv | refine vc_later ?_ | refine vc_caseT ?_ | refine vc_caseF ?_ | refine vc_cons ?_ | refine vc_nil ?_ ?_ | refine vc_seq ?_
                 | refine vc_region ?_ | refine vc_cond ?_ | refine vc_block ?_ | refine vc_retc ?_ | refine vc_exit ?_ | refine vc_skip ?_ | refine vc_scope ?_ | refine vc_label ?_ | refine vc_goto ?_ | refine vc_wkSl0
                 | refine vc_wkHp0 | refine vc_eqAVs0 | refine vc_preG0 | refine vc_wkSl ?_ ?_ | refine vc_wkHp ?_ ?_ | refine vc_eqAVs ?_ ?_ | refine vc_preG ?_ ?_ | refine vc_side0 ?_ | refine vc_call [] c1 ?_
                 | refine vc_call [] (local_ren [(9, 6008)] [(6008, 9)] (inNum_ok (b.map byteD) b rfl 0 (Nat.zero_le _) hl _ hN) rfl) ?_
                 | refine vc_call [] (local_ren [(9, 6008)] [(6008, 9)] (inText_is (b.map byteD) b rfl k hk hl) rfl) ?_ | refine vc_call [] (local_ren [(9, 6008)] [(6008, 9)] (inDone_is (b.map byteD) b rfl _ _ true hc) rfl) ?_
                 | refine vc_pure works_ok ?_ ?_ ?_ | refine vc_pure (same_yes _) ?_ ?_ ?_ | refine vc_weakf [] ?_ ?_ ?_ | refine vc_and ?_ ?_ | refine vc_ret [] [] ?_)
          | ((with_reducible first | refine vc_caseD (fun h => ?_) (fun h => ?_) | refine vc_caseN (fun h => ?_) (fun h => ?_)) <;> try (exfalso; omega))
          | ((with_reducible refine vc_case (fun h => ?_) (fun h => ?_)) <;> (try simp only [Bool.cond_true_left, Bool.cond_false_right, Bool.cond_true_right, Bool.cond_false_left, Bool.and_eq_true, Bool.or_eq_true, Bool.and_eq_false_iff, Bool.or_eq_false_iff, Bool.not_eq_true', Bool.not_eq_false', Bool.not_eq_true, Bool.not_eq_false, Bool.not_not, decide_eq_true_eq, decide_eq_false_iff_not, beq_iff_eq, beq_eq_false_iff_ne, bne_iff_ne, bne_eq_false_iff_eq, ne_eq, Classical.not_not, reduceCtorEq, false_or, or_false, true_and, and_true, Bool.false_eq_true, Bool.true_eq_false] at h) <;> try (exfalso; first | omega | (simp at h; done)))))
  all_goals first
    | rfl
    | exact congrArg (D.arr 32 1) rfl
    | exact ⟨fits_dig 6 _, fits_dig 6 _⟩
    | exact ⟨fits_dig 6 _, fits_dig 6 zero32⟩
    | (exfalso; simp [beq_dig, hw2] at h; done)
    | (exfalso; simp only [cond_false, zz] at h; cases h)

theorem codecReader_dno (b : List UInt8) (most : Int) (hb : b.length ≤ 2 ^ 21) (hm1 : -9223372036854775808 ≤ most) (hm2 : most ≤ 9223372036854775807) (h0 : 0 ≤ most) (v k : Nat) (hN : inN b 10 0 0 0 = (v, k, false)) (hk : k ≤ b.length) (hv : (v : Int) ≤ most) (h2 : ¬ v = 2) (hz : 0 < v) (hd : ¬ k + 32 ≤ b.length) :
    LocalCall Try.prog 4 [.d (.sl (b.map byteD)), .d (.int .i64 most)] [] [] (one [.d (.bool true)]) [] := by
  have hl : b.length < 2 ^ 62 := by omega
  have hw : IntKind.u64.wrap most = most := wrapU64_id h0 (by omega)
  have hw2 : IntKind.u64.wrap (v : Int) = v := wrapU64_id (by omega) (by omega)
  have hK : inK b 32 k = ([], k, true) := by unfold inK; rw [decide_eq_false hd]; rfl
  have c1 := local_ren [(8, 1000), (7, 2000), (6, 3000), (5, 4000)] [(1000, 8), (2000, 7), (3000, 6), (4000, 5)] (crRead_no b most (by omega) (by omega) hl (crO_dno b h0 hN hv h2 hz hd)) rfl
  refine vc_fn mixed Try.func4 rfl rfl [] (vc_chk rfl) ?_
  repeat' (first
      | ((with_reducible refine vc_chk ?_); first | decide +kernel | rfl)
      | (with_reducible refine vc_side0 ?_; rfl)
      | (with_reducible first
           | refine vc_true ?_ | refine vc_true2 ?_ | refine vc_side ?_ ?_ | refine vc_triv | refine vc_later ?_ | refine vc_caseT ?_ | refine vc_caseF ?_ | refine vc_cons ?_ | refine vc_nil ?_ ?_ | refine vc_seq ?_
              | refine vc_region ?_ | refine vc_cond ?_ | refine vc_block ?_ | refine vc_retc ?_ | refine vc_exit ?_ | refine vc_skip ?_ | refine vc_scope ?_ | refine vc_label ?_ | refine vc_goto ?_ | refine vc_wkSl0
              | refine vc_wkHp0 | refine vc_eqAVs0 | refine vc_preG0 | refine vc_wkSl ?_ ?_ | refine vc_wkHp ?_ ?_ | refine vc_eqAVs ?_ ?_ | refine vc_preG ?_ ?_ | refine vc_side0 ?_ | refine vc_call [] c1 ?_
              | refine vc_call [] (local_ren [(9, 6008)] [(6008, 9)] (inNum_ok (b.map byteD) b rfl 0 (Nat.zero_le _) hl _ hN) rfl) ?_
              | refine vc_call [] (local_ren [(9, 6008)] [(6008, 9)] (inDig_ok (b.map byteD) b rfl k hk hl _ hK) rfl) ?_ | refine vc_call [] (local_ren [(9, 6008)] [(6008, 9)] (inText_bad (b.map byteD) k) rfl) ?_
              | refine vc_call [] (local_ren [(9, 6008)] [(6008, 9)] (inDone_is (b.map byteD) b rfl k true false rfl) rfl) ?_ | refine vc_pure works_ok ?_ ?_ ?_ | refine vc_pure (same_yes _) ?_ ?_ ?_ | refine vc_weakf [] ?_ ?_ ?_
              | refine vc_and ?_ ?_ | refine vc_ret [] [] ?_)
      | ((with_reducible first | refine vc_caseD (fun h => ?_) (fun h => ?_) | refine vc_caseN (fun h => ?_) (fun h => ?_)) <;> try (exfalso; omega))
      | ((with_reducible refine vc_case (fun h => ?_) (fun h => ?_)) <;> (try simp only [Bool.cond_true_left, Bool.cond_false_right, Bool.cond_true_right, Bool.cond_false_left, Bool.and_eq_true, Bool.or_eq_true, Bool.and_eq_false_iff, Bool.or_eq_false_iff, Bool.not_eq_true', Bool.not_eq_false', Bool.not_eq_true, Bool.not_eq_false, Bool.not_not, decide_eq_true_eq, decide_eq_false_iff_not, beq_iff_eq, beq_eq_false_iff_ne, bne_iff_ne, bne_eq_false_iff_eq, ne_eq, Classical.not_not, reduceCtorEq, false_or, or_false, true_and, and_true, Bool.false_eq_true, Bool.true_eq_false] at h) <;> try (exfalso; first | omega | (simp at h; done)))
      | (conv in Vc _ => arg 1; whnf
         first
          | (with_reducible refine vc_side0 ?_; rfl)
          | (with_reducible first
              | refine vc_true ?_ | refine vc_true2 ?_ | refine vc_side ?_ ?_ | refine vc_triv | refine vc_later ?_ | refine vc_caseT ?_ | refine vc_caseF ?_ | refine vc_cons ?_ | refine vc_nil ?_ ?_ | refine vc_seq ?_
                 | refine vc_region ?_ | refine vc_cond ?_ | refine vc_block ?_ | refine vc_retc ?_ | refine vc_exit ?_ | refine vc_skip ?_ | refine vc_scope ?_ | refine vc_label ?_ | refine vc_goto ?_ | refine vc_wkSl0
                 | refine vc_wkHp0 | refine vc_eqAVs0 | refine vc_preG0 | refine vc_wkSl ?_ ?_ | refine vc_wkHp ?_ ?_ | refine vc_eqAVs ?_ ?_ | refine vc_preG ?_ ?_ | refine vc_side0 ?_ | refine vc_call [] c1 ?_
                 | refine vc_call [] (local_ren [(9, 6008)] [(6008, 9)] (inNum_ok (b.map byteD) b rfl 0 (Nat.zero_le _) hl _ hN) rfl) ?_
                 | refine vc_call [] (local_ren [(9, 6008)] [(6008, 9)] (inDig_ok (b.map byteD) b rfl k hk hl _ hK) rfl) ?_ | refine vc_call [] (local_ren [(9, 6008)] [(6008, 9)] (inText_bad (b.map byteD) k) rfl) ?_
                 | refine vc_call [] (local_ren [(9, 6008)] [(6008, 9)] (inDone_is (b.map byteD) b rfl k true false rfl) rfl) ?_ | refine vc_pure works_ok ?_ ?_ ?_ | refine vc_pure (same_yes _) ?_ ?_ ?_
                 | refine vc_weakf [] ?_ ?_ ?_ | refine vc_and ?_ ?_ | refine vc_ret [] [] ?_)
          | ((with_reducible first | refine vc_caseD (fun h => ?_) (fun h => ?_) | refine vc_caseN (fun h => ?_) (fun h => ?_)) <;> try (exfalso; omega))
          | ((with_reducible refine vc_case (fun h => ?_) (fun h => ?_)) <;> (try simp only [Bool.cond_true_left, Bool.cond_false_right, Bool.cond_true_right, Bool.cond_false_left, Bool.and_eq_true, Bool.or_eq_true, Bool.and_eq_false_iff, Bool.or_eq_false_iff, Bool.not_eq_true', Bool.not_eq_false', Bool.not_eq_true, Bool.not_eq_false, Bool.not_not, decide_eq_true_eq, decide_eq_false_iff_not, beq_iff_eq, beq_eq_false_iff_ne, bne_iff_ne, bne_eq_false_iff_eq, ne_eq, Classical.not_not, reduceCtorEq, false_or, or_false, true_and, and_true, Bool.false_eq_true, Bool.true_eq_false] at h) <;> try (exfalso; first | omega | (simp at h; done)))))
  all_goals first
    | rfl
    | exact congrArg (D.arr 32 1) rfl
    | exact ⟨fits_dig 6 _, fits_dig 6 _⟩
    | exact ⟨fits_dig 6 _, fits_dig 6 zero32⟩
    | (exfalso; simp [beq_dig, hw2] at h; done)
    | (exfalso; simp only [cond_false, zz] at h; cases h)
    | (have e2 : (((v : Nat) : Int) == 2) = false := by rw [beq_eq_false_iff_ne]; omega
       simp only [cond_false, e2])

theorem codecReader_dyes_no (b : List UInt8) (most : Int) (hb : b.length ≤ 2 ^ 21) (hm1 : -9223372036854775808 ≤ most) (hm2 : most ≤ 9223372036854775807) (h0 : 0 ≤ most) (v k : Nat) (hN : inN b 10 0 0 0 = (v, k, false)) (hk : k ≤ b.length) (hv : (v : Int) ≤ most) (h2 : ¬ v = 2) (hz : 0 < v) (hd : k + 32 ≤ b.length) (hc : (!(inT b (k + 32)).2.2 && decide ((inT b (k + 32)).2.1 = b.length)) = false) :
    LocalCall Try.prog 4 [.d (.sl (b.map byteD)), .d (.int .i64 most)] [] [] (one [.d (.bool true)]) [] := by
  have hl : b.length < 2 ^ 62 := by omega
  have hw : IntKind.u64.wrap most = most := wrapU64_id h0 (by omega)
  have hw2 : IntKind.u64.wrap (v : Int) = v := wrapU64_id (by omega) (by omega)
  have hK : inK b 32 k = ((b.drop k).take 32, k + 32, false) := by unfold inK; rw [decide_eq_true hd]; rfl
  have hl32 : ((b.drop k).take 32).length = 32 := by rw [List.length_take, List.length_drop]; omega
  have hp : padB ((b.drop k).take 32) ((b.drop k).take 32).length = (b.drop k).take 32 := by rw [hl32, padB_full hl32]
  have hD := inDig_ok (b.map byteD) b rfl k hk hl _ hK
  simp only [hp] at hD
  have c1 := local_ren [(8, 1000), (7, 2000), (6, 3000), (5, 4000)] [(1000, 8), (2000, 7), (3000, 6), (4000, 5)] (crRead_no b most (by omega) (by omega) hl (by rw [crO_dyes b h0 hN hv h2 hz hd, hc]; rfl)) rfl
  refine vc_fn mixed Try.func4 rfl rfl [] (vc_chk rfl) ?_
  repeat' (first
      | ((with_reducible refine vc_chk ?_); first | decide +kernel | rfl)
      | (with_reducible refine vc_side0 ?_; rfl)
      | (with_reducible first
           | refine vc_true ?_ | refine vc_true2 ?_ | refine vc_side ?_ ?_ | refine vc_triv | refine vc_later ?_ | refine vc_caseT ?_ | refine vc_caseF ?_ | refine vc_cons ?_ | refine vc_nil ?_ ?_ | refine vc_seq ?_
              | refine vc_region ?_ | refine vc_cond ?_ | refine vc_block ?_ | refine vc_retc ?_ | refine vc_exit ?_ | refine vc_skip ?_ | refine vc_scope ?_ | refine vc_label ?_ | refine vc_goto ?_ | refine vc_wkSl0
              | refine vc_wkHp0 | refine vc_eqAVs0 | refine vc_preG0 | refine vc_wkSl ?_ ?_ | refine vc_wkHp ?_ ?_ | refine vc_eqAVs ?_ ?_ | refine vc_preG ?_ ?_ | refine vc_side0 ?_ | refine vc_call [] c1 ?_
              | refine vc_call [] (local_ren [(9, 6008)] [(6008, 9)] (inNum_ok (b.map byteD) b rfl 0 (Nat.zero_le _) hl _ hN) rfl) ?_ | refine vc_call [] (local_ren [(9, 6008)] [(6008, 9)] (hD) rfl) ?_
              | refine vc_call [] (local_ren [(9, 6008)] [(6008, 9)] (inText_is (b.map byteD) b rfl (k + 32) hd hl) rfl) ?_
              | refine vc_call [] (local_ren [(9, 6008)] [(6008, 9)] (inDone_is (b.map byteD) b rfl _ _ false hc) rfl) ?_ | refine vc_pure works_ok ?_ ?_ ?_ | refine vc_pure (same_yes _) ?_ ?_ ?_ | refine vc_weakf [] ?_ ?_ ?_
              | refine vc_and ?_ ?_ | refine vc_ret [] [] ?_)
      | ((with_reducible first | refine vc_caseD (fun h => ?_) (fun h => ?_) | refine vc_caseN (fun h => ?_) (fun h => ?_)) <;> try (exfalso; omega))
      | ((with_reducible refine vc_case (fun h => ?_) (fun h => ?_)) <;> (try simp only [Bool.cond_true_left, Bool.cond_false_right, Bool.cond_true_right, Bool.cond_false_left, Bool.and_eq_true, Bool.or_eq_true, Bool.and_eq_false_iff, Bool.or_eq_false_iff, Bool.not_eq_true', Bool.not_eq_false', Bool.not_eq_true, Bool.not_eq_false, Bool.not_not, decide_eq_true_eq, decide_eq_false_iff_not, beq_iff_eq, beq_eq_false_iff_ne, bne_iff_ne, bne_eq_false_iff_eq, ne_eq, Classical.not_not, reduceCtorEq, false_or, or_false, true_and, and_true, Bool.false_eq_true, Bool.true_eq_false] at h) <;> try (exfalso; first | omega | (simp at h; done)))
      | (conv in Vc _ => arg 1; whnf
         first
          | (with_reducible refine vc_side0 ?_; rfl)
          | (with_reducible first
              | refine vc_true ?_ | refine vc_true2 ?_ | refine vc_side ?_ ?_ | refine vc_triv | refine vc_later ?_ | refine vc_caseT ?_ | refine vc_caseF ?_ | refine vc_cons ?_ | refine vc_nil ?_ ?_ | refine vc_seq ?_
                 | refine vc_region ?_ | refine vc_cond ?_ | refine vc_block ?_ | refine vc_retc ?_ | refine vc_exit ?_ | refine vc_skip ?_ | refine vc_scope ?_ | refine vc_label ?_ | refine vc_goto ?_ | refine vc_wkSl0
                 | refine vc_wkHp0 | refine vc_eqAVs0 | refine vc_preG0 | refine vc_wkSl ?_ ?_ | refine vc_wkHp ?_ ?_ | refine vc_eqAVs ?_ ?_ | refine vc_preG ?_ ?_ | refine vc_side0 ?_ | refine vc_call [] c1 ?_
                 | refine vc_call [] (local_ren [(9, 6008)] [(6008, 9)] (inNum_ok (b.map byteD) b rfl 0 (Nat.zero_le _) hl _ hN) rfl) ?_ | refine vc_call [] (local_ren [(9, 6008)] [(6008, 9)] (hD) rfl) ?_
                 | refine vc_call [] (local_ren [(9, 6008)] [(6008, 9)] (inText_is (b.map byteD) b rfl (k + 32) hd hl) rfl) ?_
                 | refine vc_call [] (local_ren [(9, 6008)] [(6008, 9)] (inDone_is (b.map byteD) b rfl _ _ false hc) rfl) ?_ | refine vc_pure works_ok ?_ ?_ ?_ | refine vc_pure (same_yes _) ?_ ?_ ?_ | refine vc_weakf [] ?_ ?_ ?_
                 | refine vc_and ?_ ?_ | refine vc_ret [] [] ?_)
          | ((with_reducible first | refine vc_caseD (fun h => ?_) (fun h => ?_) | refine vc_caseN (fun h => ?_) (fun h => ?_)) <;> try (exfalso; omega))
          | ((with_reducible refine vc_case (fun h => ?_) (fun h => ?_)) <;> (try simp only [Bool.cond_true_left, Bool.cond_false_right, Bool.cond_true_right, Bool.cond_false_left, Bool.and_eq_true, Bool.or_eq_true, Bool.and_eq_false_iff, Bool.or_eq_false_iff, Bool.not_eq_true', Bool.not_eq_false', Bool.not_eq_true, Bool.not_eq_false, Bool.not_not, decide_eq_true_eq, decide_eq_false_iff_not, beq_iff_eq, beq_eq_false_iff_ne, bne_iff_ne, bne_eq_false_iff_eq, ne_eq, Classical.not_not, reduceCtorEq, false_or, or_false, true_and, and_true, Bool.false_eq_true, Bool.true_eq_false] at h) <;> try (exfalso; first | omega | (simp at h; done)))))
  all_goals first
    | rfl
    | exact congrArg (D.arr 32 1) rfl
    | exact ⟨fits_dig 6 _, fits_dig 6 _⟩
    | exact ⟨fits_dig 6 _, fits_dig 6 zero32⟩
    | (exfalso; simp [beq_dig, hw2] at h; done)
    | (exfalso; simp only [cond_false, zz] at h; cases h)
    | (have e2 : (((v : Nat) : Int) == 2) = false := by rw [beq_eq_false_iff_ne]; omega
       simp only [cond_false, e2])

theorem codecReader_dyes_yes (b : List UInt8) (most : Int) (hb : b.length ≤ 2 ^ 21) (hm1 : -9223372036854775808 ≤ most) (hm2 : most ≤ 9223372036854775807) (h0 : 0 ≤ most) (v k : Nat) (hN : inN b 10 0 0 0 = (v, k, false)) (hk : k ≤ b.length) (hv : (v : Int) ≤ most) (h2 : ¬ v = 2) (hz : 0 < v) (hd : k + 32 ≤ b.length) (hc : (!(inT b (k + 32)).2.2 && decide ((inT b (k + 32)).2.1 = b.length)) = true) :
    LocalCall Try.prog 4 [.d (.sl (b.map byteD)), .d (.int .i64 most)] [] [] (one [.d (.bool true)]) [] := by
  have hl : b.length < 2 ^ 62 := by omega
  have hw : IntKind.u64.wrap most = most := wrapU64_id h0 (by omega)
  have hw2 : IntKind.u64.wrap (v : Int) = v := wrapU64_id (by omega) (by omega)
  have hK : inK b 32 k = ((b.drop k).take 32, k + 32, false) := by unfold inK; rw [decide_eq_true hd]; rfl
  have hl32 : ((b.drop k).take 32).length = 32 := by rw [List.length_take, List.length_drop]; omega
  have hp : padB ((b.drop k).take 32) ((b.drop k).take 32).length = (b.drop k).take 32 := by rw [hl32, padB_full hl32]
  have hD := inDig_ok (b.map byteD) b rfl k hk hl _ hK
  simp only [hp] at hD
  have c1 := local_ren [(8, 1000), (7, 2000), (6, 3000), (5, 4000)] [(1000, 8), (2000, 7), (3000, 6), (4000, 5)] (crRead_yes b most (by omega) hl (n := v) (d := (b.drop k).take 32) (t := (inT b (k + 32)).1) (by rw [crO_dyes b h0 hN hv h2 hz hd, hc]; rfl)) rfl
  refine vc_fn mixed Try.func4 rfl rfl [] (vc_chk rfl) ?_
  repeat' (first
      | ((with_reducible refine vc_chk ?_); first | decide +kernel | rfl)
      | (with_reducible refine vc_side0 ?_; rfl)
      | (with_reducible first
           | refine vc_true ?_ | refine vc_true2 ?_ | refine vc_side ?_ ?_ | refine vc_triv | refine vc_later ?_ | refine vc_caseT ?_ | refine vc_caseF ?_ | refine vc_cons ?_ | refine vc_nil ?_ ?_ | refine vc_seq ?_
              | refine vc_region ?_ | refine vc_cond ?_ | refine vc_block ?_ | refine vc_retc ?_ | refine vc_exit ?_ | refine vc_skip ?_ | refine vc_scope ?_ | refine vc_label ?_ | refine vc_goto ?_ | refine vc_wkSl0
              | refine vc_wkHp0 | refine vc_eqAVs0 | refine vc_preG0 | refine vc_wkSl ?_ ?_ | refine vc_wkHp ?_ ?_ | refine vc_eqAVs ?_ ?_ | refine vc_preG ?_ ?_ | refine vc_side0 ?_ | refine vc_call [] c1 ?_
              | refine vc_call [] (local_ren [(9, 6008)] [(6008, 9)] (inNum_ok (b.map byteD) b rfl 0 (Nat.zero_le _) hl _ hN) rfl) ?_ | refine vc_call [] (local_ren [(9, 6008)] [(6008, 9)] (hD) rfl) ?_
              | refine vc_call [] (local_ren [(9, 6008)] [(6008, 9)] (inText_is (b.map byteD) b rfl (k + 32) hd hl) rfl) ?_ | refine vc_call [] (local_ren [(9, 6008)] [(6008, 9)] (inDone_is (b.map byteD) b rfl _ _ true hc) rfl) ?_
              | refine vc_pure works_ok ?_ ?_ ?_ | refine vc_pure (same_yes _) ?_ ?_ ?_ | refine vc_weakf [] ?_ ?_ ?_ | refine vc_and ?_ ?_ | refine vc_ret [] [] ?_)
      | ((with_reducible first | refine vc_caseD (fun h => ?_) (fun h => ?_) | refine vc_caseN (fun h => ?_) (fun h => ?_)) <;> try (exfalso; omega))
      | ((with_reducible refine vc_case (fun h => ?_) (fun h => ?_)) <;> (try simp only [Bool.cond_true_left, Bool.cond_false_right, Bool.cond_true_right, Bool.cond_false_left, Bool.and_eq_true, Bool.or_eq_true, Bool.and_eq_false_iff, Bool.or_eq_false_iff, Bool.not_eq_true', Bool.not_eq_false', Bool.not_eq_true, Bool.not_eq_false, Bool.not_not, decide_eq_true_eq, decide_eq_false_iff_not, beq_iff_eq, beq_eq_false_iff_ne, bne_iff_ne, bne_eq_false_iff_eq, ne_eq, Classical.not_not, reduceCtorEq, false_or, or_false, true_and, and_true, Bool.false_eq_true, Bool.true_eq_false] at h) <;> try (exfalso; first | omega | (simp at h; done)))
      | (conv in Vc _ => arg 1; whnf
         first
          | (with_reducible refine vc_side0 ?_; rfl)
          | (with_reducible first
              | refine vc_true ?_ | refine vc_true2 ?_ | refine vc_side ?_ ?_ | refine vc_triv | refine vc_later ?_ | refine vc_caseT ?_ | refine vc_caseF ?_ | refine vc_cons ?_ | refine vc_nil ?_ ?_ | refine vc_seq ?_
                 | refine vc_region ?_ | refine vc_cond ?_ | refine vc_block ?_ | refine vc_retc ?_ | refine vc_exit ?_ | refine vc_skip ?_ | refine vc_scope ?_ | refine vc_label ?_ | refine vc_goto ?_ | refine vc_wkSl0
                 | refine vc_wkHp0 | refine vc_eqAVs0 | refine vc_preG0 | refine vc_wkSl ?_ ?_ | refine vc_wkHp ?_ ?_ | refine vc_eqAVs ?_ ?_ | refine vc_preG ?_ ?_ | refine vc_side0 ?_ | refine vc_call [] c1 ?_
                 | refine vc_call [] (local_ren [(9, 6008)] [(6008, 9)] (inNum_ok (b.map byteD) b rfl 0 (Nat.zero_le _) hl _ hN) rfl) ?_ | refine vc_call [] (local_ren [(9, 6008)] [(6008, 9)] (hD) rfl) ?_
                 | refine vc_call [] (local_ren [(9, 6008)] [(6008, 9)] (inText_is (b.map byteD) b rfl (k + 32) hd hl) rfl) ?_
                 | refine vc_call [] (local_ren [(9, 6008)] [(6008, 9)] (inDone_is (b.map byteD) b rfl _ _ true hc) rfl) ?_ | refine vc_pure works_ok ?_ ?_ ?_ | refine vc_pure (same_yes _) ?_ ?_ ?_ | refine vc_weakf [] ?_ ?_ ?_
                 | refine vc_and ?_ ?_ | refine vc_ret [] [] ?_)
          | ((with_reducible first | refine vc_caseD (fun h => ?_) (fun h => ?_) | refine vc_caseN (fun h => ?_) (fun h => ?_)) <;> try (exfalso; omega))
          | ((with_reducible refine vc_case (fun h => ?_) (fun h => ?_)) <;> (try simp only [Bool.cond_true_left, Bool.cond_false_right, Bool.cond_true_right, Bool.cond_false_left, Bool.and_eq_true, Bool.or_eq_true, Bool.and_eq_false_iff, Bool.or_eq_false_iff, Bool.not_eq_true', Bool.not_eq_false', Bool.not_eq_true, Bool.not_eq_false, Bool.not_not, decide_eq_true_eq, decide_eq_false_iff_not, beq_iff_eq, beq_eq_false_iff_ne, bne_iff_ne, bne_eq_false_iff_eq, ne_eq, Classical.not_not, reduceCtorEq, false_or, or_false, true_and, and_true, Bool.false_eq_true, Bool.true_eq_false] at h) <;> try (exfalso; first | omega | (simp at h; done)))))
  all_goals first
    | rfl
    | exact congrArg (D.arr 32 1) rfl
    | exact ⟨fits_dig 6 _, fits_dig 6 _⟩
    | exact ⟨fits_dig 6 _, fits_dig 6 zero32⟩
    | (exfalso; simp [beq_dig, hw2] at h; done)
    | (exfalso; simp only [cond_false] at h; rw [beq_dig, decide_eq_true rfl] at h; cases h)
    | (exfalso; simp only [cond_false, zz] at h; cases h)
    | (have e2 : (((v : Nat) : Int) == 2) = false := by rw [beq_eq_false_iff_ne]; omega
       simp only [cond_false, e2])

theorem codecReader_main (b : List UInt8) (most : Int) (hb : b.length ≤ 2 ^ 21) (hm1 : -9223372036854775808 ≤ most) (hm2 : most ≤ 9223372036854775807) :
    LocalCall Try.prog 4 [.d (.sl (b.map byteD)), .d (.int .i64 most)] [] [] (one [.d (.bool true)]) [] := by
  by_cases h0 : most < 0
  · exact codecReader_neg b most hb hm1 hm2 h0
  have h0 : 0 ≤ most := by omega
  have hk := inN_le b 10 0 0 0 (Nat.zero_le _)
  rcases hN : inN b 10 0 0 0 with ⟨v, k, bad⟩
  rw [hN] at hk
  simp only at hk
  cases bad with
  | true => exact codecReader_bad b most hb hm1 hm2 h0 v k hN
  | false =>
    by_cases hv : most < v
    · exact codecReader_much b most hb hm1 hm2 h0 v k hN hv
    have hv : (v : Int) ≤ most := by omega
    by_cases h2 : v = 2
    · exact codecReader_two b most hb hm1 hm2 h0 v k hN hv h2
    by_cases hz : v = 0
    · cases hc : (!(inT b k).2.2 && decide ((inT b k).2.1 = b.length)) with
      | true => exact codecReader_nought_yes b most hb hm1 hm2 h0 v k hN hk hv hz hc
      | false => exact codecReader_nought_no b most hb hm1 hm2 h0 v k hN hk hv hz hc
    have hz : 0 < v := by omega
    by_cases hd : k + 32 ≤ b.length
    · cases hc : (!(inT b (k + 32)).2.2 && decide ((inT b (k + 32)).2.1 = b.length)) with
      | true => exact codecReader_dyes_yes b most hb hm1 hm2 h0 v k hN hk hv h2 hz hd hc
      | false => exact codecReader_dyes_no b most hb hm1 hm2 h0 v k hN hk hv h2 hz hd hc
    · exact codecReader_dno b most hb hm1 hm2 h0 v k hN hk hv h2 hz hd

end Go.Proofs.Ythedcaopedbpdaa
