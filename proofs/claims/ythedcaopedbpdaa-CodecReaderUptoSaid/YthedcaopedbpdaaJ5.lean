import Derived.Test.YthedcaopedbpdaaJ1
import Derived.Test.YthedcaopedbpdaaJ2
import Derived.Test.YthedcaopedbpdaaJ3
import Derived.Test.YthedcaopedbpdaaJ4
set_option linter.unusedSimpArgs false
set_option linter.unusedVariables false
/-
The reference's reader: counts, pieces, texts, digests; whether it is done.
-/
namespace Go.Proofs.Ythedcaopedbpdaa
open Go.Sym
set_option maxRecDepth 10000
set_option maxHeartbeats 1000000

def inC (bs : List UInt8) (most k : Nat) : Nat × Nat × Bool := let r := inN bs 10 k 0 0; bif r.2.2 || decide (most < r.1) then (0, r.2.1, true) else (r.1, r.2.1, false)

theorem inC_rdC (bs : List UInt8) (most k : Nat) : rdC bs (most : Int) k = optN (inC bs most k) := by
  unfold rdC inC
  rw [inN_rdN]
  rcases inN bs 10 k 0 0 with ⟨v, e, b⟩
  cases b with
  | true => rfl
  | false =>
    simp only [optN, cond_false, Bool.false_or]
    by_cases h : most < v
    · have : ¬ ((v : Int) ≤ most) := by omega
      simp [h, this]
    · have : ((v : Int) ≤ most) := by omega
      simp [h, this]

theorem inC_le (bs : List UInt8) (most k : Nat) (h : k ≤ bs.length) : (inC bs most k).2.1 ≤ bs.length := by
  have := inN_le bs 10 k 0 0 h
  unfold inC
  simp only
  cases (inN bs 10 k 0 0).2.2 || decide (most < (inN bs 10 k 0 0).1) <;> exact this

theorem inC_most (bs : List UInt8) (most k : Nat) : (inC bs most k).1 ≤ most := by
  unfold inC
  simp only
  cases h : (inN bs 10 k 0 0).2.2 || decide (most < (inN bs 10 k 0 0).1) with
  | true => exact Nat.zero_le _
  | false =>
    simp only [Bool.or_eq_false_iff, decide_eq_false_iff_not] at h
    simp only [cond_false]
    omega

theorem inCnt_bad (B : List D) (k : Nat) (most : Int) :
    LocalCall Try.prog 42 [.ptr 9 [], .d (.int .i64 most)] [(9, rIn B k true)] [] (one [.d (.int .i64 0)]) [(9, rIn B k true)] := by
  refine vc_fn mixed Try.func42 rfl rfl [] (vc_chk rfl) ?_
  repeat' (first
      | ((with_reducible refine vc_chk ?_); first | decide +kernel | rfl)
      | (with_reducible refine vc_side0 ?_; rfl)
      | (with_reducible first
           | refine vc_call [] (inNum_bad B k) ?_ | refine vc_true ?_ | refine vc_true2 ?_ | refine vc_side ?_ ?_ | refine vc_triv | refine vc_later ?_ | refine vc_caseT ?_ | refine vc_caseF ?_ | refine vc_cons ?_
              | refine vc_nil ?_ ?_ | refine vc_seq ?_ | refine vc_region ?_ | refine vc_cond ?_ | refine vc_block ?_ | refine vc_retc ?_ | refine vc_exit ?_ | refine vc_skip ?_ | refine vc_scope ?_ | refine vc_label ?_
              | refine vc_goto ?_ | refine vc_wkSl0 | refine vc_wkHp0 | refine vc_eqAVs0 | refine vc_preG0 | refine vc_wkSl ?_ ?_ | refine vc_wkHp ?_ ?_ | refine vc_eqAVs ?_ ?_ | refine vc_preG ?_ ?_ | refine vc_ret [] [] ?_
              | refine vc_weakf [] ?_ ?_ ?_ | refine vc_side0 ?_ | refine vc_and ?_ ?_)
      | ((with_reducible first | refine vc_caseD (fun h => ?_) (fun h => ?_) | refine vc_caseN (fun h => ?_) (fun h => ?_)) <;> try (exfalso; omega))
      | ((with_reducible refine vc_case (fun h => ?_) (fun h => ?_)) <;> (try simp at h) <;> try (exfalso; omega))
      | (conv in Vc _ => arg 1; whnf
         first
          | (with_reducible refine vc_side0 ?_; rfl)
          | (with_reducible first
              | refine vc_call [] (inNum_bad B k) ?_ | refine vc_true ?_ | refine vc_true2 ?_ | refine vc_side ?_ ?_ | refine vc_triv | refine vc_later ?_ | refine vc_caseT ?_ | refine vc_caseF ?_ | refine vc_cons ?_
                 | refine vc_nil ?_ ?_ | refine vc_seq ?_ | refine vc_region ?_ | refine vc_cond ?_ | refine vc_block ?_ | refine vc_retc ?_ | refine vc_exit ?_ | refine vc_skip ?_ | refine vc_scope ?_ | refine vc_label ?_
                 | refine vc_goto ?_ | refine vc_wkSl0 | refine vc_wkHp0 | refine vc_eqAVs0 | refine vc_preG0 | refine vc_wkSl ?_ ?_ | refine vc_wkHp ?_ ?_ | refine vc_eqAVs ?_ ?_ | refine vc_preG ?_ ?_ | refine vc_ret [] [] ?_
                 | refine vc_weakf [] ?_ ?_ ?_ | refine vc_side0 ?_ | refine vc_and ?_ ?_)
          | ((with_reducible first | refine vc_caseD (fun h => ?_) (fun h => ?_) | refine vc_caseN (fun h => ?_) (fun h => ?_)) <;> try (exfalso; omega))
          | ((with_reducible refine vc_case (fun h => ?_) (fun h => ?_)) <;> (try simp at h) <;> try (exfalso; omega))))
  all_goals rfl

theorem inCnt_ok (B : List D) (bs : List UInt8) (hB : B = bs.map byteD) (most k : Nat) (hm : most < 2 ^ 62) (hk : k ≤ bs.length) (hl : bs.length < 2 ^ 62) (R : Nat × Nat × Bool) (hR : inC bs most k = R) :
    LocalCall Try.prog 42 [.ptr 9 [], .d (.int .i64 (most : Int))] [(9, rIn B k false)] [] (one [.d (.int .i64 (R.1 : Int))]) [(9, rIn B R.2.1 R.2.2)] := by
  have hw : IntKind.u64.wrap (most : Int) = most := wrapU64_id (by omega) (by omega)
  unfold inC at hR
  simp only at hR
  rcases h0 : inN bs 10 k 0 0 with ⟨v, e, b⟩
  rw [h0] at hR
  have hc := inNum_ok B bs hB k hk hl _ h0
  simp only at hR hc
  refine vc_fn mixed Try.func42 rfl rfl [] (vc_chk rfl) ?_
  cases b with
  | true =>
    simp only [Bool.true_or, cond_true] at hR
    subst hR
    repeat' (first
        | ((with_reducible refine vc_chk ?_); first | decide +kernel | rfl)
        | (with_reducible refine vc_side0 ?_; rfl)
        | (with_reducible first
             | refine vc_call [] hc ?_ | refine vc_true ?_ | refine vc_true2 ?_ | refine vc_side ?_ ?_ | refine vc_triv | refine vc_later ?_ | refine vc_caseT ?_ | refine vc_caseF ?_ | refine vc_cons ?_ | refine vc_nil ?_ ?_
                | refine vc_seq ?_ | refine vc_region ?_ | refine vc_cond ?_ | refine vc_block ?_ | refine vc_retc ?_ | refine vc_exit ?_ | refine vc_skip ?_ | refine vc_scope ?_ | refine vc_label ?_ | refine vc_goto ?_
                | refine vc_wkSl0 | refine vc_wkHp0 | refine vc_eqAVs0 | refine vc_preG0 | refine vc_wkSl ?_ ?_ | refine vc_wkHp ?_ ?_ | refine vc_eqAVs ?_ ?_ | refine vc_preG ?_ ?_ | refine vc_ret [] [] ?_
                | refine vc_weakf [] ?_ ?_ ?_ | refine vc_side0 ?_ | refine vc_and ?_ ?_)
        | ((with_reducible first | refine vc_caseD (fun h => ?_) (fun h => ?_) | refine vc_caseN (fun h => ?_) (fun h => ?_)) <;> try (exfalso; omega))
        | ((with_reducible refine vc_case (fun h => ?_) (fun h => ?_)) <;> (try simp at h) <;> try (exfalso; omega))
        | (conv in Vc _ => arg 1; whnf
           first
            | (with_reducible refine vc_side0 ?_; rfl)
            | (with_reducible first
                | refine vc_call [] hc ?_ | refine vc_true ?_ | refine vc_true2 ?_ | refine vc_side ?_ ?_ | refine vc_triv | refine vc_later ?_ | refine vc_caseT ?_ | refine vc_caseF ?_ | refine vc_cons ?_ | refine vc_nil ?_ ?_
                   | refine vc_seq ?_ | refine vc_region ?_ | refine vc_cond ?_ | refine vc_block ?_ | refine vc_retc ?_ | refine vc_exit ?_ | refine vc_skip ?_ | refine vc_scope ?_ | refine vc_label ?_ | refine vc_goto ?_
                   | refine vc_wkSl0 | refine vc_wkHp0 | refine vc_eqAVs0 | refine vc_preG0 | refine vc_wkSl ?_ ?_ | refine vc_wkHp ?_ ?_ | refine vc_eqAVs ?_ ?_ | refine vc_preG ?_ ?_ | refine vc_ret [] [] ?_
                   | refine vc_weakf [] ?_ ?_ ?_ | refine vc_side0 ?_ | refine vc_and ?_ ?_)
            | ((with_reducible first | refine vc_caseD (fun h => ?_) (fun h => ?_) | refine vc_caseN (fun h => ?_) (fun h => ?_)) <;> try (exfalso; omega))
            | ((with_reducible refine vc_case (fun h => ?_) (fun h => ?_)) <;> (try simp at h) <;> try (exfalso; omega))))
    all_goals rfl
  | false =>
    simp only [Bool.false_or] at hR
    by_cases hv : most < v
    · rw [decide_eq_true hv, cond_true] at hR
      subst hR
      repeat' (first
          | ((with_reducible refine vc_chk ?_); first | decide +kernel | rfl)
          | (with_reducible refine vc_side0 ?_; rfl)
          | (with_reducible first
               | refine vc_call [] hc ?_ | refine vc_true ?_ | refine vc_true2 ?_ | refine vc_side ?_ ?_ | refine vc_triv | refine vc_later ?_ | refine vc_caseT ?_ | refine vc_caseF ?_ | refine vc_cons ?_ | refine vc_nil ?_ ?_
                  | refine vc_seq ?_ | refine vc_region ?_ | refine vc_cond ?_ | refine vc_block ?_ | refine vc_retc ?_ | refine vc_exit ?_ | refine vc_skip ?_ | refine vc_scope ?_ | refine vc_label ?_ | refine vc_goto ?_
                  | refine vc_wkSl0 | refine vc_wkHp0 | refine vc_eqAVs0 | refine vc_preG0 | refine vc_wkSl ?_ ?_ | refine vc_wkHp ?_ ?_ | refine vc_eqAVs ?_ ?_ | refine vc_preG ?_ ?_ | refine vc_ret [] [] ?_
                  | refine vc_weakf [] ?_ ?_ ?_ | refine vc_side0 ?_ | refine vc_and ?_ ?_)
          | ((with_reducible first | refine vc_caseD (fun h => ?_) (fun h => ?_) | refine vc_caseN (fun h => ?_) (fun h => ?_)) <;> try (exfalso; omega))
          | ((with_reducible refine vc_case (fun h => ?_) (fun h => ?_)) <;> (try simp at h) <;> try (exfalso; omega))
          | (conv in Vc _ => arg 1; whnf
             first
              | (with_reducible refine vc_side0 ?_; rfl)
              | (with_reducible first
                  | refine vc_call [] hc ?_ | refine vc_true ?_ | refine vc_true2 ?_ | refine vc_side ?_ ?_ | refine vc_triv | refine vc_later ?_ | refine vc_caseT ?_ | refine vc_caseF ?_ | refine vc_cons ?_ | refine vc_nil ?_ ?_
                     | refine vc_seq ?_ | refine vc_region ?_ | refine vc_cond ?_ | refine vc_block ?_ | refine vc_retc ?_ | refine vc_exit ?_ | refine vc_skip ?_ | refine vc_scope ?_ | refine vc_label ?_ | refine vc_goto ?_
                     | refine vc_wkSl0 | refine vc_wkHp0 | refine vc_eqAVs0 | refine vc_preG0 | refine vc_wkSl ?_ ?_ | refine vc_wkHp ?_ ?_ | refine vc_eqAVs ?_ ?_ | refine vc_preG ?_ ?_ | refine vc_ret [] [] ?_
                     | refine vc_weakf [] ?_ ?_ ?_ | refine vc_side0 ?_ | refine vc_and ?_ ?_)
              | ((with_reducible first | refine vc_caseD (fun h => ?_) (fun h => ?_) | refine vc_caseN (fun h => ?_) (fun h => ?_)) <;> try (exfalso; omega))
              | ((with_reducible refine vc_case (fun h => ?_) (fun h => ?_)) <;> (try simp at h) <;> try (exfalso; omega))))
      all_goals first
        | rfl
        | (exfalso; rw [hw] at h; omega)
    · rw [decide_eq_false hv, cond_false] at hR
      subst hR
      have hv2 : IntKind.i64.wrap (v : Int) = v := wrap64_id (by omega) (by omega)
      repeat' (first
          | ((with_reducible refine vc_chk ?_); first | decide +kernel | rfl)
          | (with_reducible refine vc_side0 ?_; rfl)
          | (with_reducible first
               | refine vc_call [] hc ?_ | refine vc_true ?_ | refine vc_true2 ?_ | refine vc_side ?_ ?_ | refine vc_triv | refine vc_later ?_ | refine vc_caseT ?_ | refine vc_caseF ?_ | refine vc_cons ?_ | refine vc_nil ?_ ?_
                  | refine vc_seq ?_ | refine vc_region ?_ | refine vc_cond ?_ | refine vc_block ?_ | refine vc_retc ?_ | refine vc_exit ?_ | refine vc_skip ?_ | refine vc_scope ?_ | refine vc_label ?_ | refine vc_goto ?_
                  | refine vc_wkSl0 | refine vc_wkHp0 | refine vc_eqAVs0 | refine vc_preG0 | refine vc_wkSl ?_ ?_ | refine vc_wkHp ?_ ?_ | refine vc_eqAVs ?_ ?_ | refine vc_preG ?_ ?_ | refine vc_ret [] [] ?_
                  | refine vc_weakf [] ?_ ?_ ?_ | refine vc_side0 ?_ | refine vc_and ?_ ?_)
          | ((with_reducible first | refine vc_caseD (fun h => ?_) (fun h => ?_) | refine vc_caseN (fun h => ?_) (fun h => ?_)) <;> try (exfalso; omega))
          | ((with_reducible refine vc_case (fun h => ?_) (fun h => ?_)) <;> (try simp at h) <;> try (exfalso; omega))
          | (conv in Vc _ => arg 1; whnf
             first
              | (with_reducible refine vc_side0 ?_; rfl)
              | (with_reducible first
                  | refine vc_call [] hc ?_ | refine vc_true ?_ | refine vc_true2 ?_ | refine vc_side ?_ ?_ | refine vc_triv | refine vc_later ?_ | refine vc_caseT ?_ | refine vc_caseF ?_ | refine vc_cons ?_ | refine vc_nil ?_ ?_
                     | refine vc_seq ?_ | refine vc_region ?_ | refine vc_cond ?_ | refine vc_block ?_ | refine vc_retc ?_ | refine vc_exit ?_ | refine vc_skip ?_ | refine vc_scope ?_ | refine vc_label ?_ | refine vc_goto ?_
                     | refine vc_wkSl0 | refine vc_wkHp0 | refine vc_eqAVs0 | refine vc_preG0 | refine vc_wkSl ?_ ?_ | refine vc_wkHp ?_ ?_ | refine vc_eqAVs ?_ ?_ | refine vc_preG ?_ ?_ | refine vc_ret [] [] ?_
                     | refine vc_weakf [] ?_ ?_ ?_ | refine vc_side0 ?_ | refine vc_and ?_ ?_)
              | ((with_reducible first | refine vc_caseD (fun h => ?_) (fun h => ?_) | refine vc_caseN (fun h => ?_) (fun h => ?_)) <;> try (exfalso; omega))
              | ((with_reducible refine vc_case (fun h => ?_) (fun h => ?_)) <;> (try simp at h) <;> try (exfalso; omega))))
      all_goals first
        | rfl
        | (exfalso; rw [hw] at h; omega)
        | (rw [hv2]; done)

/-- So many bytes. -/
def inK (bs : List UInt8) (n k : Nat) : List UInt8 × Nat × Bool := bif decide (k + n ≤ bs.length) then ((bs.drop k).take n, k + n, false) else ([], k, true)

theorem inTake_bad (B : List D) (k : Nat) (n : Int) :
    LocalCall Try.prog 41 [.ptr 9 [], .d (.int .i64 n)] [(9, rIn B k true)] [] (one [.d (.sl [])]) [(9, rIn B k true)] := by
  refine vc_fn mixed Try.func41 rfl rfl [] (vc_chk rfl) ?_
  repeat' (first
      | ((with_reducible refine vc_chk ?_); first | decide +kernel | rfl)
      | (with_reducible refine vc_side0 ?_; rfl)
      | (with_reducible first
           | refine vc_ret [true] [] ?_ | refine vc_true ?_ | refine vc_true2 ?_ | refine vc_side ?_ ?_ | refine vc_triv | refine vc_later ?_ | refine vc_caseT ?_ | refine vc_caseF ?_ | refine vc_cons ?_ | refine vc_nil ?_ ?_
              | refine vc_seq ?_ | refine vc_region ?_ | refine vc_cond ?_ | refine vc_block ?_ | refine vc_retc ?_ | refine vc_exit ?_ | refine vc_skip ?_ | refine vc_scope ?_ | refine vc_label ?_ | refine vc_goto ?_
              | refine vc_wkSl0 | refine vc_wkHp0 | refine vc_eqAVs0 | refine vc_preG0 | refine vc_wkSl ?_ ?_ | refine vc_wkHp ?_ ?_ | refine vc_eqAVs ?_ ?_ | refine vc_preG ?_ ?_ | refine vc_ret [] [] ?_
              | refine vc_weakf [] ?_ ?_ ?_ | refine vc_side0 ?_ | refine vc_and ?_ ?_)
      | ((with_reducible first | refine vc_caseD (fun h => ?_) (fun h => ?_) | refine vc_caseN (fun h => ?_) (fun h => ?_)) <;> try (exfalso; omega))
      | ((with_reducible refine vc_case (fun h => ?_) (fun h => ?_)) <;> (try simp at h) <;> try (exfalso; omega))
      | (conv in Vc _ => arg 1; whnf
         first
          | (with_reducible refine vc_side0 ?_; rfl)
          | (with_reducible first
              | refine vc_ret [true] [] ?_ | refine vc_true ?_ | refine vc_true2 ?_ | refine vc_side ?_ ?_ | refine vc_triv | refine vc_later ?_ | refine vc_caseT ?_ | refine vc_caseF ?_ | refine vc_cons ?_ | refine vc_nil ?_ ?_
                 | refine vc_seq ?_ | refine vc_region ?_ | refine vc_cond ?_ | refine vc_block ?_ | refine vc_retc ?_ | refine vc_exit ?_ | refine vc_skip ?_ | refine vc_scope ?_ | refine vc_label ?_ | refine vc_goto ?_
                 | refine vc_wkSl0 | refine vc_wkHp0 | refine vc_eqAVs0 | refine vc_preG0 | refine vc_wkSl ?_ ?_ | refine vc_wkHp ?_ ?_ | refine vc_eqAVs ?_ ?_ | refine vc_preG ?_ ?_ | refine vc_ret [] [] ?_
                 | refine vc_weakf [] ?_ ?_ ?_ | refine vc_side0 ?_ | refine vc_and ?_ ?_)
          | ((with_reducible first | refine vc_caseD (fun h => ?_) (fun h => ?_) | refine vc_caseN (fun h => ?_) (fun h => ?_)) <;> try (exfalso; omega))
          | ((with_reducible refine vc_case (fun h => ?_) (fun h => ?_)) <;> (try simp at h) <;> try (exfalso; omega))))
  all_goals rfl

theorem inTake_ok (B : List D) (bs : List UInt8) (hB : B = bs.map byteD) (n k : Nat) (hn : n ≤ 1048576) (hk : k ≤ bs.length) (hl : bs.length < 2 ^ 62) (R : List UInt8 × Nat × Bool) (hR : inK bs n k = R) :
    LocalCall Try.prog 41 [.ptr 9 [], .d (.int .i64 (n : Int))] [(9, rIn B k false)] [] (one [.d (.sl (R.1.map byteD))]) [(9, rIn B R.2.1 R.2.2)] := by
  have hlen : B.length = bs.length := by rw [hB]; simp
  have w0 : IntKind.i64.wrap ((B.length : Int) - (k : Int)) = (B.length : Int) - k := wrap64_id (by omega) (by omega)
  refine vc_fn mixed Try.func41 rfl rfl [] (vc_chk rfl) ?_
  unfold inK at hR
  by_cases hc : k + n ≤ bs.length
  · rw [decide_eq_true hc, cond_true] at hR
    subst hR
    have w1 : IntKind.i64.wrap ((k : Int) + (n : Int)) = ((k + n : Nat) : Int) := by rw [wrap64_id (by omega) (by omega)]; rfl
    have w2 : IntKind.i64.wrap (((k + n : Nat) : Int) - (n : Int)) = (k : Int) := by rw [wrap64_id (by omega) (by omega)]; omega
    have hcut : cutD B (k : Int) ((k + n : Nat) : Int) = ((bs.drop k).take n).map byteD := by
      unfold cutD
      rw [Int.toNat_natCast, Int.toNat_natCast, hB, List.drop_take, ← List.map_drop, ← List.map_take]
      congr 2; omega
    have hcl : (((bs.drop k).take n).map byteD).length = n := by
      rw [List.length_map, List.length_take, List.length_drop]; omega
    repeat' (first
        | ((with_reducible refine vc_chk ?_); first | decide +kernel | rfl)
        | (with_reducible refine vc_side0 ?_; rfl)
        | (with_reducible first
             | refine vc_ret [true] [] ?_ | refine vc_true ?_ | refine vc_true2 ?_ | refine vc_side ?_ ?_ | refine vc_triv | refine vc_later ?_ | refine vc_caseT ?_ | refine vc_caseF ?_ | refine vc_cons ?_ | refine vc_nil ?_ ?_
                | refine vc_seq ?_ | refine vc_region ?_ | refine vc_cond ?_ | refine vc_block ?_ | refine vc_retc ?_ | refine vc_exit ?_ | refine vc_skip ?_ | refine vc_scope ?_ | refine vc_label ?_ | refine vc_goto ?_
                | refine vc_wkSl0 | refine vc_wkHp0 | refine vc_eqAVs0 | refine vc_preG0 | refine vc_wkSl ?_ ?_ | refine vc_wkHp ?_ ?_ | refine vc_eqAVs ?_ ?_ | refine vc_preG ?_ ?_ | refine vc_ret [] [] ?_
                | refine vc_weakf [] ?_ ?_ ?_ | refine vc_side0 ?_ | refine vc_and ?_ ?_)
        | ((with_reducible first | refine vc_caseD (fun h => ?_) (fun h => ?_) | refine vc_caseN (fun h => ?_) (fun h => ?_)) <;> try (exfalso; omega))
        | ((with_reducible refine vc_case (fun h => ?_) (fun h => ?_)) <;> (try simp at h) <;> try (exfalso; omega))
        | (conv in Vc _ => arg 1; whnf
           first
            | (with_reducible refine vc_side0 ?_; rfl)
            | (with_reducible first
                | refine vc_ret [true] [] ?_ | refine vc_true ?_ | refine vc_true2 ?_ | refine vc_side ?_ ?_ | refine vc_triv | refine vc_later ?_ | refine vc_caseT ?_ | refine vc_caseF ?_ | refine vc_cons ?_ | refine vc_nil ?_ ?_
                   | refine vc_seq ?_ | refine vc_region ?_ | refine vc_cond ?_ | refine vc_block ?_ | refine vc_retc ?_ | refine vc_exit ?_ | refine vc_skip ?_ | refine vc_scope ?_ | refine vc_label ?_ | refine vc_goto ?_
                   | refine vc_wkSl0 | refine vc_wkHp0 | refine vc_eqAVs0 | refine vc_preG0 | refine vc_wkSl ?_ ?_ | refine vc_wkHp ?_ ?_ | refine vc_eqAVs ?_ ?_ | refine vc_preG ?_ ?_ | refine vc_ret [] [] ?_
                   | refine vc_weakf [] ?_ ?_ ?_ | refine vc_side0 ?_ | refine vc_and ?_ ?_)
            | ((with_reducible first | refine vc_caseD (fun h => ?_) (fun h => ?_) | refine vc_caseN (fun h => ?_) (fun h => ?_)) <;> try (exfalso; omega))
            | ((with_reducible refine vc_case (fun h => ?_) (fun h => ?_)) <;> (try simp at h) <;> try (exfalso; omega))))
    all_goals (try simp only [w1, w2, hcut])
    all_goals first
      | rfl
      | (exfalso; rw [w0] at h; omega)
      | exact ⟨⟨by omega, by omega, by omega⟩, fun y hy => by rw [hB] at hy; obtain ⟨c, _, rfl⟩ := List.mem_map.1 hy; rfl⟩
      | exact ⟨⟨trivial, room_le (b := 1048576) (by unfold Room; omega) rfl (by rw [hcl]; omega)⟩, fun y hy => by obtain ⟨c, _, rfl⟩ := List.mem_map.1 hy; rfl⟩
      | exact ⟨Nat.le_of_eq (Nat.zero_add _), trivial⟩
      | (rw [List.drop_zero, List.take_length]; done)
      | skip
  · rw [decide_eq_false hc, cond_false] at hR
    subst hR
    repeat' (first
        | ((with_reducible refine vc_chk ?_); first | decide +kernel | rfl)
        | (with_reducible refine vc_side0 ?_; rfl)
        | (with_reducible first
             | refine vc_ret [true] [] ?_ | refine vc_true ?_ | refine vc_true2 ?_ | refine vc_side ?_ ?_ | refine vc_triv | refine vc_later ?_ | refine vc_caseT ?_ | refine vc_caseF ?_ | refine vc_cons ?_ | refine vc_nil ?_ ?_
                | refine vc_seq ?_ | refine vc_region ?_ | refine vc_cond ?_ | refine vc_block ?_ | refine vc_retc ?_ | refine vc_exit ?_ | refine vc_skip ?_ | refine vc_scope ?_ | refine vc_label ?_ | refine vc_goto ?_
                | refine vc_wkSl0 | refine vc_wkHp0 | refine vc_eqAVs0 | refine vc_preG0 | refine vc_wkSl ?_ ?_ | refine vc_wkHp ?_ ?_ | refine vc_eqAVs ?_ ?_ | refine vc_preG ?_ ?_ | refine vc_ret [] [] ?_
                | refine vc_weakf [] ?_ ?_ ?_ | refine vc_side0 ?_ | refine vc_and ?_ ?_)
        | ((with_reducible first | refine vc_caseD (fun h => ?_) (fun h => ?_) | refine vc_caseN (fun h => ?_) (fun h => ?_)) <;> try (exfalso; omega))
        | ((with_reducible refine vc_case (fun h => ?_) (fun h => ?_)) <;> (try simp at h) <;> try (exfalso; omega))
        | (conv in Vc _ => arg 1; whnf
           first
            | (with_reducible refine vc_side0 ?_; rfl)
            | (with_reducible first
                | refine vc_ret [true] [] ?_ | refine vc_true ?_ | refine vc_true2 ?_ | refine vc_side ?_ ?_ | refine vc_triv | refine vc_later ?_ | refine vc_caseT ?_ | refine vc_caseF ?_ | refine vc_cons ?_ | refine vc_nil ?_ ?_
                   | refine vc_seq ?_ | refine vc_region ?_ | refine vc_cond ?_ | refine vc_block ?_ | refine vc_retc ?_ | refine vc_exit ?_ | refine vc_skip ?_ | refine vc_scope ?_ | refine vc_label ?_ | refine vc_goto ?_
                   | refine vc_wkSl0 | refine vc_wkHp0 | refine vc_eqAVs0 | refine vc_preG0 | refine vc_wkSl ?_ ?_ | refine vc_wkHp ?_ ?_ | refine vc_eqAVs ?_ ?_ | refine vc_preG ?_ ?_ | refine vc_ret [] [] ?_
                   | refine vc_weakf [] ?_ ?_ ?_ | refine vc_side0 ?_ | refine vc_and ?_ ?_)
            | ((with_reducible first | refine vc_caseD (fun h => ?_) (fun h => ?_) | refine vc_caseN (fun h => ?_) (fun h => ?_)) <;> try (exfalso; omega))
            | ((with_reducible refine vc_case (fun h => ?_) (fun h => ?_)) <;> (try simp at h) <;> try (exfalso; omega))))
    all_goals first
      | rfl
      | (exfalso; rw [w0] at h; omega)
      | skip

/-- A text. -/
def inT (bs : List UInt8) (k : Nat) : List UInt8 × Nat × Bool := let c := inC bs 1048576 k; bif c.2.2 then ([], c.2.1, true) else inK bs c.1 c.2.1

theorem inText_bad (B : List D) (k : Nat) :
    LocalCall Try.prog 26 [.ptr 9 []] [(9, rIn B k true)] [] (one [.d (.sl [])]) [(9, rIn B k true)] := by
  refine vc_fn mixed Try.func26 rfl rfl [] (vc_chk rfl) ?_
  repeat' (first
      | ((with_reducible refine vc_chk ?_); first | decide +kernel | rfl)
      | (with_reducible refine vc_side0 ?_; rfl)
      | (with_reducible first
           | refine vc_call [] (inCnt_bad B k 1048576) ?_ | refine vc_call [] (inTake_bad B k 0) ?_ | refine vc_true ?_ | refine vc_true2 ?_ | refine vc_side ?_ ?_ | refine vc_triv | refine vc_later ?_ | refine vc_caseT ?_
              | refine vc_caseF ?_ | refine vc_cons ?_ | refine vc_nil ?_ ?_ | refine vc_seq ?_ | refine vc_region ?_ | refine vc_cond ?_ | refine vc_block ?_ | refine vc_retc ?_ | refine vc_exit ?_ | refine vc_skip ?_
              | refine vc_scope ?_ | refine vc_label ?_ | refine vc_goto ?_ | refine vc_wkSl0 | refine vc_wkHp0 | refine vc_eqAVs0 | refine vc_preG0 | refine vc_wkSl ?_ ?_ | refine vc_wkHp ?_ ?_ | refine vc_eqAVs ?_ ?_
              | refine vc_preG ?_ ?_ | refine vc_ret [] [] ?_ | refine vc_weakf [] ?_ ?_ ?_ | refine vc_side0 ?_ | refine vc_and ?_ ?_)
      | ((with_reducible first | refine vc_caseD (fun h => ?_) (fun h => ?_) | refine vc_caseN (fun h => ?_) (fun h => ?_)) <;> try (exfalso; omega))
      | ((with_reducible refine vc_case (fun h => ?_) (fun h => ?_)) <;> (try simp at h) <;> try (exfalso; omega))
      | (conv in Vc _ => arg 1; whnf
         first
          | (with_reducible refine vc_side0 ?_; rfl)
          | (with_reducible first
              | refine vc_call [] (inCnt_bad B k 1048576) ?_ | refine vc_call [] (inTake_bad B k 0) ?_ | refine vc_true ?_ | refine vc_true2 ?_ | refine vc_side ?_ ?_ | refine vc_triv | refine vc_later ?_ | refine vc_caseT ?_
                 | refine vc_caseF ?_ | refine vc_cons ?_ | refine vc_nil ?_ ?_ | refine vc_seq ?_ | refine vc_region ?_ | refine vc_cond ?_ | refine vc_block ?_ | refine vc_retc ?_ | refine vc_exit ?_ | refine vc_skip ?_
                 | refine vc_scope ?_ | refine vc_label ?_ | refine vc_goto ?_ | refine vc_wkSl0 | refine vc_wkHp0 | refine vc_eqAVs0 | refine vc_preG0 | refine vc_wkSl ?_ ?_ | refine vc_wkHp ?_ ?_ | refine vc_eqAVs ?_ ?_
                 | refine vc_preG ?_ ?_ | refine vc_ret [] [] ?_ | refine vc_weakf [] ?_ ?_ ?_ | refine vc_side0 ?_ | refine vc_and ?_ ?_)
          | ((with_reducible first | refine vc_caseD (fun h => ?_) (fun h => ?_) | refine vc_caseN (fun h => ?_) (fun h => ?_)) <;> try (exfalso; omega))
          | ((with_reducible refine vc_case (fun h => ?_) (fun h => ?_)) <;> (try simp at h) <;> try (exfalso; omega))))
  all_goals rfl

theorem inText_ok (B : List D) (bs : List UInt8) (hB : B = bs.map byteD) (k : Nat) (hk : k ≤ bs.length) (hl : bs.length < 2 ^ 62) (R : List UInt8 × Nat × Bool) (hR : inT bs k = R) :
    LocalCall Try.prog 26 [.ptr 9 []] [(9, rIn B k false)] [] (one [.d (.sl (R.1.map byteD))]) [(9, rIn B R.2.1 R.2.2)] := by
  have hle := inC_le bs 1048576 k hk
  have hmost := inC_most bs 1048576 k
  unfold inT at hR
  simp only at hR
  rcases h0 : inC bs 1048576 k with ⟨v, e, b⟩
  rw [h0] at hR hle hmost
  have hc := inCnt_ok B bs hB 1048576 k (by omega) hk hl _ h0
  simp only at hR hc hle hmost
  refine vc_fn mixed Try.func26 rfl rfl [] (vc_chk rfl) ?_
  cases b with
  | true =>
    simp only [cond_true] at hR
    subst hR
    repeat' (first
        | ((with_reducible refine vc_chk ?_); first | decide +kernel | rfl)
        | (with_reducible refine vc_side0 ?_; rfl)
        | (with_reducible first
             | refine vc_call [] hc ?_ | refine vc_call [] (inTake_bad B e (v : Int)) ?_ | refine vc_true ?_ | refine vc_true2 ?_ | refine vc_side ?_ ?_ | refine vc_triv | refine vc_later ?_ | refine vc_caseT ?_
                | refine vc_caseF ?_ | refine vc_cons ?_ | refine vc_nil ?_ ?_ | refine vc_seq ?_ | refine vc_region ?_ | refine vc_cond ?_ | refine vc_block ?_ | refine vc_retc ?_ | refine vc_exit ?_ | refine vc_skip ?_
                | refine vc_scope ?_ | refine vc_label ?_ | refine vc_goto ?_ | refine vc_wkSl0 | refine vc_wkHp0 | refine vc_eqAVs0 | refine vc_preG0 | refine vc_wkSl ?_ ?_ | refine vc_wkHp ?_ ?_ | refine vc_eqAVs ?_ ?_
                | refine vc_preG ?_ ?_ | refine vc_ret [] [] ?_ | refine vc_weakf [] ?_ ?_ ?_ | refine vc_side0 ?_ | refine vc_and ?_ ?_)
        | ((with_reducible first | refine vc_caseD (fun h => ?_) (fun h => ?_) | refine vc_caseN (fun h => ?_) (fun h => ?_)) <;> try (exfalso; omega))
        | ((with_reducible refine vc_case (fun h => ?_) (fun h => ?_)) <;> (try simp at h) <;> try (exfalso; omega))
        | (conv in Vc _ => arg 1; whnf
           first
            | (with_reducible refine vc_side0 ?_; rfl)
            | (with_reducible first
                | refine vc_call [] hc ?_ | refine vc_call [] (inTake_bad B e (v : Int)) ?_ | refine vc_true ?_ | refine vc_true2 ?_ | refine vc_side ?_ ?_ | refine vc_triv | refine vc_later ?_ | refine vc_caseT ?_
                   | refine vc_caseF ?_ | refine vc_cons ?_ | refine vc_nil ?_ ?_ | refine vc_seq ?_ | refine vc_region ?_ | refine vc_cond ?_ | refine vc_block ?_ | refine vc_retc ?_ | refine vc_exit ?_ | refine vc_skip ?_
                   | refine vc_scope ?_ | refine vc_label ?_ | refine vc_goto ?_ | refine vc_wkSl0 | refine vc_wkHp0 | refine vc_eqAVs0 | refine vc_preG0 | refine vc_wkSl ?_ ?_ | refine vc_wkHp ?_ ?_ | refine vc_eqAVs ?_ ?_
                   | refine vc_preG ?_ ?_ | refine vc_ret [] [] ?_ | refine vc_weakf [] ?_ ?_ ?_ | refine vc_side0 ?_ | refine vc_and ?_ ?_)
            | ((with_reducible first | refine vc_caseD (fun h => ?_) (fun h => ?_) | refine vc_caseN (fun h => ?_) (fun h => ?_)) <;> try (exfalso; omega))
            | ((with_reducible refine vc_case (fun h => ?_) (fun h => ?_)) <;> (try simp at h) <;> try (exfalso; omega))))
    all_goals rfl
  | false =>
    simp only [cond_false] at hR
    have hc2 := inTake_ok B bs hB v e hmost hle hl _ hR
    repeat' (first
        | ((with_reducible refine vc_chk ?_); first | decide +kernel | rfl)
        | (with_reducible refine vc_side0 ?_; rfl)
        | (with_reducible first
             | refine vc_call [] hc ?_ | refine vc_call [] hc2 ?_ | refine vc_true ?_ | refine vc_true2 ?_ | refine vc_side ?_ ?_ | refine vc_triv | refine vc_later ?_ | refine vc_caseT ?_ | refine vc_caseF ?_ | refine vc_cons ?_
                | refine vc_nil ?_ ?_ | refine vc_seq ?_ | refine vc_region ?_ | refine vc_cond ?_ | refine vc_block ?_ | refine vc_retc ?_ | refine vc_exit ?_ | refine vc_skip ?_ | refine vc_scope ?_ | refine vc_label ?_
                | refine vc_goto ?_ | refine vc_wkSl0 | refine vc_wkHp0 | refine vc_eqAVs0 | refine vc_preG0 | refine vc_wkSl ?_ ?_ | refine vc_wkHp ?_ ?_ | refine vc_eqAVs ?_ ?_ | refine vc_preG ?_ ?_ | refine vc_ret [] [] ?_
                | refine vc_weakf [] ?_ ?_ ?_ | refine vc_side0 ?_ | refine vc_and ?_ ?_)
        | ((with_reducible first | refine vc_caseD (fun h => ?_) (fun h => ?_) | refine vc_caseN (fun h => ?_) (fun h => ?_)) <;> try (exfalso; omega))
        | ((with_reducible refine vc_case (fun h => ?_) (fun h => ?_)) <;> (try simp at h) <;> try (exfalso; omega))
        | (conv in Vc _ => arg 1; whnf
           first
            | (with_reducible refine vc_side0 ?_; rfl)
            | (with_reducible first
                | refine vc_call [] hc ?_ | refine vc_call [] hc2 ?_ | refine vc_true ?_ | refine vc_true2 ?_ | refine vc_side ?_ ?_ | refine vc_triv | refine vc_later ?_ | refine vc_caseT ?_ | refine vc_caseF ?_
                   | refine vc_cons ?_ | refine vc_nil ?_ ?_ | refine vc_seq ?_ | refine vc_region ?_ | refine vc_cond ?_ | refine vc_block ?_ | refine vc_retc ?_ | refine vc_exit ?_ | refine vc_skip ?_ | refine vc_scope ?_
                   | refine vc_label ?_ | refine vc_goto ?_ | refine vc_wkSl0 | refine vc_wkHp0 | refine vc_eqAVs0 | refine vc_preG0 | refine vc_wkSl ?_ ?_ | refine vc_wkHp ?_ ?_ | refine vc_eqAVs ?_ ?_ | refine vc_preG ?_ ?_
                   | refine vc_ret [] [] ?_ | refine vc_weakf [] ?_ ?_ ?_ | refine vc_side0 ?_ | refine vc_and ?_ ?_)
            | ((with_reducible first | refine vc_caseD (fun h => ?_) (fun h => ?_) | refine vc_caseN (fun h => ?_) (fun h => ?_)) <;> try (exfalso; omega))
            | ((with_reducible refine vc_case (fun h => ?_) (fun h => ?_)) <;> (try simp at h) <;> try (exfalso; omega))))
    all_goals rfl

theorem inDone_ok (B : List D) (k : Nat) (b : Bool) :
    LocalCall Try.prog 27 [.ptr 9 []] [(9, rIn B k b)] [] (one [.d (.bool (!b && decide (k = B.length)))]) [(9, rIn B k b)] := by
  refine vc_fn mixed Try.func27 rfl rfl [] (vc_chk rfl) ?_
  cases b with
  | true =>
    repeat' (first
        | ((with_reducible refine vc_chk ?_); first | decide +kernel | rfl)
        | (with_reducible refine vc_side0 ?_; rfl)
        | (with_reducible first
             | refine vc_true ?_ | refine vc_true2 ?_ | refine vc_side ?_ ?_ | refine vc_triv | refine vc_later ?_ | refine vc_caseT ?_ | refine vc_caseF ?_ | refine vc_cons ?_ | refine vc_nil ?_ ?_ | refine vc_seq ?_
                | refine vc_region ?_ | refine vc_cond ?_ | refine vc_block ?_ | refine vc_retc ?_ | refine vc_exit ?_ | refine vc_skip ?_ | refine vc_scope ?_ | refine vc_label ?_ | refine vc_goto ?_ | refine vc_wkSl0
                | refine vc_wkHp0 | refine vc_eqAVs0 | refine vc_preG0 | refine vc_wkSl ?_ ?_ | refine vc_wkHp ?_ ?_ | refine vc_eqAVs ?_ ?_ | refine vc_preG ?_ ?_ | refine vc_ret [] [] ?_ | refine vc_weakf [] ?_ ?_ ?_
                | refine vc_side0 ?_ | refine vc_and ?_ ?_)
        | ((with_reducible first | refine vc_caseD (fun h => ?_) (fun h => ?_) | refine vc_caseN (fun h => ?_) (fun h => ?_)) <;> try (exfalso; omega))
        | ((with_reducible refine vc_case (fun h => ?_) (fun h => ?_)) <;> (try simp at h) <;> try (exfalso; omega))
        | (conv in Vc _ => arg 1; whnf
           first
            | (with_reducible refine vc_side0 ?_; rfl)
            | (with_reducible first
                | refine vc_true ?_ | refine vc_true2 ?_ | refine vc_side ?_ ?_ | refine vc_triv | refine vc_later ?_ | refine vc_caseT ?_ | refine vc_caseF ?_ | refine vc_cons ?_ | refine vc_nil ?_ ?_ | refine vc_seq ?_
                   | refine vc_region ?_ | refine vc_cond ?_ | refine vc_block ?_ | refine vc_retc ?_ | refine vc_exit ?_ | refine vc_skip ?_ | refine vc_scope ?_ | refine vc_label ?_ | refine vc_goto ?_ | refine vc_wkSl0
                   | refine vc_wkHp0 | refine vc_eqAVs0 | refine vc_preG0 | refine vc_wkSl ?_ ?_ | refine vc_wkHp ?_ ?_ | refine vc_eqAVs ?_ ?_ | refine vc_preG ?_ ?_ | refine vc_ret [] [] ?_ | refine vc_weakf [] ?_ ?_ ?_
                   | refine vc_side0 ?_ | refine vc_and ?_ ?_)
            | ((with_reducible first | refine vc_caseD (fun h => ?_) (fun h => ?_) | refine vc_caseN (fun h => ?_) (fun h => ?_)) <;> try (exfalso; omega))
            | ((with_reducible refine vc_case (fun h => ?_) (fun h => ?_)) <;> (try simp at h) <;> try (exfalso; omega))))
    all_goals rfl
  | false =>
    repeat' (first
        | ((with_reducible refine vc_chk ?_); first | decide +kernel | rfl)
        | (with_reducible refine vc_side0 ?_; rfl)
        | (with_reducible first
             | refine vc_true ?_ | refine vc_true2 ?_ | refine vc_side ?_ ?_ | refine vc_triv | refine vc_later ?_ | refine vc_caseT ?_ | refine vc_caseF ?_ | refine vc_cons ?_ | refine vc_nil ?_ ?_ | refine vc_seq ?_
                | refine vc_region ?_ | refine vc_cond ?_ | refine vc_block ?_ | refine vc_retc ?_ | refine vc_exit ?_ | refine vc_skip ?_ | refine vc_scope ?_ | refine vc_label ?_ | refine vc_goto ?_ | refine vc_wkSl0
                | refine vc_wkHp0 | refine vc_eqAVs0 | refine vc_preG0 | refine vc_wkSl ?_ ?_ | refine vc_wkHp ?_ ?_ | refine vc_eqAVs ?_ ?_ | refine vc_preG ?_ ?_ | refine vc_ret [] [] ?_ | refine vc_weakf [] ?_ ?_ ?_
                | refine vc_side0 ?_ | refine vc_and ?_ ?_)
        | ((with_reducible first | refine vc_caseD (fun h => ?_) (fun h => ?_) | refine vc_caseN (fun h => ?_) (fun h => ?_)) <;> try (exfalso; omega))
        | ((with_reducible refine vc_case (fun h => ?_) (fun h => ?_)) <;> (try simp at h) <;> try (exfalso; omega))
        | (conv in Vc _ => arg 1; whnf
           first
            | (with_reducible refine vc_side0 ?_; rfl)
            | (with_reducible first
                | refine vc_true ?_ | refine vc_true2 ?_ | refine vc_side ?_ ?_ | refine vc_triv | refine vc_later ?_ | refine vc_caseT ?_ | refine vc_caseF ?_ | refine vc_cons ?_ | refine vc_nil ?_ ?_ | refine vc_seq ?_
                   | refine vc_region ?_ | refine vc_cond ?_ | refine vc_block ?_ | refine vc_retc ?_ | refine vc_exit ?_ | refine vc_skip ?_ | refine vc_scope ?_ | refine vc_label ?_ | refine vc_goto ?_ | refine vc_wkSl0
                   | refine vc_wkHp0 | refine vc_eqAVs0 | refine vc_preG0 | refine vc_wkSl ?_ ?_ | refine vc_wkHp ?_ ?_ | refine vc_eqAVs ?_ ?_ | refine vc_preG ?_ ?_ | refine vc_ret [] [] ?_ | refine vc_weakf [] ?_ ?_ ?_
                   | refine vc_side0 ?_ | refine vc_and ?_ ?_)
            | ((with_reducible first | refine vc_caseD (fun h => ?_) (fun h => ?_) | refine vc_caseN (fun h => ?_) (fun h => ?_)) <;> try (exfalso; omega))
            | ((with_reducible refine vc_case (fun h => ?_) (fun h => ?_)) <;> (try simp at h) <;> try (exfalso; omega))))
    all_goals first
      | rfl
      | (congr 1; simp only [Bool.not_false, Bool.true_and]; rw [Bool.eq_iff_iff]; simp; omega)

/-- A digest's bytes, and what is not yet laid. -/
def padB (ts : List UInt8) (i : Nat) : List UInt8 := ts.take i ++ List.replicate (32 - i) 0

theorem padB_set {ts : List UInt8} {i : Nat} (h : i < ts.length) (h32 : i < 32) : ((padB ts i).map byteD).set i (byteD (ts.getD i 0)) = (padB ts (i + 1)).map byteD := by
  rw [← List.map_set]
  congr 1
  unfold padB
  rw [List.set_append_right _ _ (by rw [List.length_take]; omega), List.length_take, Nat.min_eq_left (by omega), Nat.sub_self]
  rw [show 32 - i = (32 - (i + 1)) + 1 by omega, List.replicate_succ, List.set_cons_zero, List.take_succ_eq_append_getElem h, List.getD_eq_getElem?_getD, List.getElem?_eq_getElem h, List.append_assoc]
  rfl

theorem padB_full {ts : List UInt8} (h : ts.length = 32) : padB ts 32 = ts := by
  unfold padB
  rw [List.take_of_length_le (by omega)]; simp

theorem padB_length {ts : List UInt8} {i : Nat} (h : i ≤ ts.length) (h32 : i ≤ 32) : (padB ts i).length = 32 := by
  unfold padB
  rw [List.length_append, List.length_take, List.length_replicate]; omega

def inD (bs : List UInt8) (k : Nat) : List UInt8 × Nat × Bool := let r := inK bs 32 k; (padB r.1 r.1.length, r.2)

theorem inDig_ok (B : List D) (bs : List UInt8) (hB : B = bs.map byteD) (k : Nat) (hk : k ≤ bs.length) (hl : bs.length < 2 ^ 62) (R : List UInt8 × Nat × Bool) (hR : inK bs 32 k = R) :
    LocalCall Try.prog 25 [.ptr 9 []] [(9, rIn B k false)] [] (one [.d (.arr 32 1 ((padB R.1 R.1.length).map byteD))]) [(9, rIn B R.2.1 R.2.2)] := by
  have hc := inTake_ok B bs hB 32 k (by omega) hk hl _ hR
  have h32 : R.1.length ≤ 32 := by
    rw [← hR]; unfold inK
    cases decide (k + 32 ≤ bs.length) with
    | true => simp only [cond_true, List.length_take]; omega
    | false => simp
  have hlm : (R.1.map byteD).length = R.1.length := List.length_map _
  have hget : ∀ i, i < R.1.length → (R.1.map byteD).getD i .nilp = byteD (R.1.getD i 0) := fun i hi => getD_byte hi
  refine vc_fn mixed Try.func25 rfl rfl [] (vc_chk rfl) ?_
  repeat' (first
      | ((with_reducible refine vc_chk ?_); first | decide +kernel | rfl)
      | (with_reducible refine vc_side0 ?_; rfl)
      | (with_reducible first
           | refine vc_call [] hc ?_
              | refine vc_loopI 21 (fun (i : Nat) => [(0, .ptr 9 []), (2, .ptr 1000 []), (3, .ptr 2000 []), (4, .d (.sl (R.1.map byteD))), (5, .d (.int .i64 (i : Int)))]) (fun i => [(9, rIn B R.2.1 R.2.2), (1000, .var (.d (.arr 32 1 (List.replicate 32 (.int .u8 0))))), (2000, .var (.d (.arr 32 1 ((padB R.1 i).map byteD))))]) (fun i => 32 - i) (fun i => i ≤ R.1.length) 0 [] ?_ ?_ ?_ ?_ ?_ (fun i hI => ?_)
              | refine vc_nextI (i + 1) [] ?_ ?_ ?_ ?_ ?_ ?_ | refine vc_true ?_ | refine vc_true2 ?_ | refine vc_side ?_ ?_ | refine vc_triv | refine vc_later ?_ | refine vc_caseT ?_ | refine vc_caseF ?_ | refine vc_cons ?_
              | refine vc_nil ?_ ?_ | refine vc_seq ?_ | refine vc_region ?_ | refine vc_cond ?_ | refine vc_block ?_ | refine vc_retc ?_ | refine vc_exit ?_ | refine vc_skip ?_ | refine vc_scope ?_ | refine vc_label ?_
              | refine vc_goto ?_ | refine vc_wkSl0 | refine vc_wkHp0 | refine vc_eqAVs0 | refine vc_preG0 | refine vc_wkSl ?_ ?_ | refine vc_wkHp ?_ ?_ | refine vc_eqAVs ?_ ?_ | refine vc_preG ?_ ?_ | refine vc_ret [] [] ?_
              | refine vc_weakf [] ?_ ?_ ?_ | refine vc_side0 ?_ | refine vc_and ?_ ?_)
      | ((with_reducible first | refine vc_caseD (fun h => ?_) (fun h => ?_) | refine vc_caseN (fun h => ?_) (fun h => ?_)) <;> try (exfalso; omega))
      | ((with_reducible refine vc_case (fun h => ?_) (fun h => ?_)) <;> (try simp at h) <;> try (exfalso; omega))
      | (conv in Vc _ => arg 1; whnf
         first
          | (with_reducible refine vc_side0 ?_; rfl)
          | (with_reducible first
              | refine vc_call [] hc ?_
                 | refine vc_loopI 21 (fun (i : Nat) => [(0, .ptr 9 []), (2, .ptr 1000 []), (3, .ptr 2000 []), (4, .d (.sl (R.1.map byteD))), (5, .d (.int .i64 (i : Int)))]) (fun i => [(9, rIn B R.2.1 R.2.2), (1000, .var (.d (.arr 32 1 (List.replicate 32 (.int .u8 0))))), (2000, .var (.d (.arr 32 1 ((padB R.1 i).map byteD))))]) (fun i => 32 - i) (fun i => i ≤ R.1.length) 0 [] ?_ ?_ ?_ ?_ ?_ (fun i hI => ?_)
                 | refine vc_nextI (i + 1) [] ?_ ?_ ?_ ?_ ?_ ?_ | refine vc_true ?_ | refine vc_true2 ?_ | refine vc_side ?_ ?_ | refine vc_triv | refine vc_later ?_ | refine vc_caseT ?_ | refine vc_caseF ?_ | refine vc_cons ?_
                 | refine vc_nil ?_ ?_ | refine vc_seq ?_ | refine vc_region ?_ | refine vc_cond ?_ | refine vc_block ?_ | refine vc_retc ?_ | refine vc_exit ?_ | refine vc_skip ?_ | refine vc_scope ?_ | refine vc_label ?_
                 | refine vc_goto ?_ | refine vc_wkSl0 | refine vc_wkHp0 | refine vc_eqAVs0 | refine vc_preG0 | refine vc_wkSl ?_ ?_ | refine vc_wkHp ?_ ?_ | refine vc_eqAVs ?_ ?_ | refine vc_preG ?_ ?_ | refine vc_ret [] [] ?_
                 | refine vc_weakf [] ?_ ?_ ?_ | refine vc_side0 ?_ | refine vc_and ?_ ?_)
          | ((with_reducible first | refine vc_caseD (fun h => ?_) (fun h => ?_) | refine vc_caseN (fun h => ?_) (fun h => ?_)) <;> try (exfalso; omega))
          | ((with_reducible refine vc_case (fun h => ?_) (fun h => ?_)) <;> (try simp at h) <;> try (exfalso; omega))))
  all_goals (try simp only [Int.toNat_natCast])
  all_goals first
    | rfl
    | omega
    | (simp [padB]; rfl)
    | (rw [hget _ (by omega)]; exact ⟨⟨by omega, by omega⟩, rfl⟩)
    | (congr 1; rw [wrap64_id (by omega) (by omega)]; omega)
    | (rw [hget _ (by omega)]; exact congrArg (D.arr 32 1) (padB_set (by omega) (by omega)))
    | (obtain rfl : i = R.1.length := by omega
       rfl)

end Go.Proofs.Ythedcaopedbpdaa

/-
The reader's digests; lists compared one by one.
-/
namespace Go.Proofs.Ythedcaopedbpdaa
open Go.Sym
set_option maxRecDepth 10000
set_option maxHeartbeats 1000000

theorem dig_read (B : List D) (bs : List UInt8) (hB : B = bs.map byteD) (k : Nat) (hk : k + 32 ≤ bs.length) (hl : bs.length < 2 ^ 62) :
    LocalCall Try.prog 22 [.ptr 9 []] [(9, rd B k)] [] (one [.d (.arr 32 1 (((bs.drop k).take 32).map byteD))]) [(9, rd B (k + 32))] := by
  have hl32 : ((bs.drop k).take 32).length = 32 := by rw [List.length_take, List.length_drop]; omega
  have hget : ∀ i, i < 32 → bs.getD (k + i) 0 = ((bs.drop k).take 32).getD i 0 := fun i hi => by
    rw [List.getD_eq_getElem?_getD, List.getD_eq_getElem?_getD, List.getElem?_take, if_pos hi, List.getElem?_drop]
  refine vc_fn mixed Try.func22 rfl rfl [] (vc_chk rfl) ?_
  repeat' (first
      | ((with_reducible refine vc_chk ?_); first | decide +kernel | rfl)
      | (with_reducible refine vc_side0 ?_; rfl)
      | (with_reducible first
          
              | refine vc_loopI 14 (fun (i : Nat) => [(0, .ptr 9 []), (2, .ptr 1000 []), (3, .ptr 2000 []), (5, .d (.int .i64 (i : Int)))]) (fun i => [(9, rd B (k + i)), (1000, .var (.d (.arr 32 1 (List.replicate 32 (.int .u8 0))))), (2000, .var (.d (.arr 32 1 ((padB ((bs.drop k).take 32) i).map byteD))))]) (fun i => 32 - i) (fun i => i ≤ 32) 0 [] ?_ ?_ ?_ ?_ ?_ (fun i hI => ?_)
              | refine vc_call [] (byte_ok B bs hB (k + i) (by omega) hl _ (hget i (by omega))) ?_ | refine vc_nextI (i + 1) [] ?_ ?_ ?_ ?_ ?_ ?_ | refine vc_true ?_ | refine vc_true2 ?_ | refine vc_side ?_ ?_ | refine vc_triv
              | refine vc_later ?_ | refine vc_caseT ?_ | refine vc_caseF ?_ | refine vc_cons ?_ | refine vc_nil ?_ ?_ | refine vc_seq ?_ | refine vc_region ?_ | refine vc_cond ?_ | refine vc_block ?_ | refine vc_retc ?_
              | refine vc_exit ?_ | refine vc_skip ?_ | refine vc_scope ?_ | refine vc_label ?_ | refine vc_goto ?_ | refine vc_wkSl0 | refine vc_wkHp0 | refine vc_eqAVs0 | refine vc_preG0 | refine vc_wkSl ?_ ?_
              | refine vc_wkHp ?_ ?_ | refine vc_eqAVs ?_ ?_ | refine vc_preG ?_ ?_ | refine vc_ret [] [] ?_ | refine vc_weakf [] ?_ ?_ ?_ | refine vc_side0 ?_ | refine vc_and ?_ ?_)
      | ((with_reducible first | refine vc_caseD (fun h => ?_) (fun h => ?_) | refine vc_caseN (fun h => ?_) (fun h => ?_)) <;> try (exfalso; omega))
      | ((with_reducible refine vc_case (fun h => ?_) (fun h => ?_)) <;> (try simp at h) <;> try (exfalso; omega))
      | (conv in Vc _ => arg 1; whnf
         first
          | (with_reducible refine vc_side0 ?_; rfl)
          | (with_reducible first
             
                 | refine vc_loopI 14 (fun (i : Nat) => [(0, .ptr 9 []), (2, .ptr 1000 []), (3, .ptr 2000 []), (5, .d (.int .i64 (i : Int)))]) (fun i => [(9, rd B (k + i)), (1000, .var (.d (.arr 32 1 (List.replicate 32 (.int .u8 0))))), (2000, .var (.d (.arr 32 1 ((padB ((bs.drop k).take 32) i).map byteD))))]) (fun i => 32 - i) (fun i => i ≤ 32) 0 [] ?_ ?_ ?_ ?_ ?_ (fun i hI => ?_)
                 | refine vc_call [] (byte_ok B bs hB (k + i) (by omega) hl _ (hget i (by omega))) ?_ | refine vc_nextI (i + 1) [] ?_ ?_ ?_ ?_ ?_ ?_ | refine vc_true ?_ | refine vc_true2 ?_ | refine vc_side ?_ ?_ | refine vc_triv
                 | refine vc_later ?_ | refine vc_caseT ?_ | refine vc_caseF ?_ | refine vc_cons ?_ | refine vc_nil ?_ ?_ | refine vc_seq ?_ | refine vc_region ?_ | refine vc_cond ?_ | refine vc_block ?_ | refine vc_retc ?_
                 | refine vc_exit ?_ | refine vc_skip ?_ | refine vc_scope ?_ | refine vc_label ?_ | refine vc_goto ?_ | refine vc_wkSl0 | refine vc_wkHp0 | refine vc_eqAVs0 | refine vc_preG0 | refine vc_wkSl ?_ ?_
                 | refine vc_wkHp ?_ ?_ | refine vc_eqAVs ?_ ?_ | refine vc_preG ?_ ?_ | refine vc_ret [] [] ?_ | refine vc_weakf [] ?_ ?_ ?_ | refine vc_side0 ?_ | refine vc_and ?_ ?_)
          | ((with_reducible first | refine vc_caseD (fun h => ?_) (fun h => ?_) | refine vc_caseN (fun h => ?_) (fun h => ?_)) <;> try (exfalso; omega))
          | ((with_reducible refine vc_case (fun h => ?_) (fun h => ?_)) <;> (try simp at h) <;> try (exfalso; omega))))
  all_goals (try simp only [Int.toNat_natCast])
  all_goals first
    | rfl
    | omega
    | (simp [padB]; rfl)
    | (congr 1; rw [wrap64_id (by omega) (by omega)]; omega)
    | exact congrArg (D.arr 32 1) (padB_set (by omega) (by omega))
    | (obtain rfl : i = 32 := by omega
       rw [padB_full hl32]; done)
    | (obtain rfl : i = 32 := by omega
       rfl)

theorem dig_nread (B : List D) (bs : List UInt8) (hB : B = bs.map byteD) (k : Nat) (hk0 : k ≤ bs.length) (hk : ¬ k + 32 ≤ bs.length) (hl : bs.length < 2 ^ 62) :
    LocalPan Try.prog 22 [.ptr 9 []] [(9, rd B k)] [] fault [(9, .dead)] := by
  refine vc_fnPan mixed Try.func22 rfl rfl [] (vc_chk rfl) ?_
  repeat' (first
      | ((with_reducible refine vc_chk ?_); first | decide +kernel | rfl)
      | (with_reducible refine vc_side0 ?_; rfl)
      | (with_reducible first
          
              | refine vc_loopI 14 (fun (i : Nat) => [(0, .ptr 9 []), (2, .ptr 1000 []), (3, .ptr 2000 []), (5, .d (.int .i64 (i : Int)))]) (fun i => [(9, rd B (k + i)), (1000, .var (.d (.arr 32 1 (List.replicate 32 (.int .u8 0))))), (2000, .var (.d (.arr 32 1 ((padB (bs.drop k) i).map byteD))))]) (fun i => 32 - i) (fun i => k + i ≤ bs.length) 0 [] ?_ ?_ ?_ ?_ ?_ (fun i hI => vc_by (k + i < bs.length) (fun hlt => ?_) (fun hge => ?_))
              | refine vc_call [] (byte_ok B bs hB (k + i) hlt hl _ rfl) ?_ | refine vc_pan [] (byte_pan B bs hB (k + i) hge) ?_ | refine vc_nextI (i + 1) [] ?_ ?_ ?_ ?_ ?_ ?_ | refine vc_panc [] [1000, 2000] ?_ ?_
              | refine vc_true ?_ | refine vc_true2 ?_ | refine vc_side ?_ ?_ | refine vc_triv | refine vc_later ?_ | refine vc_caseT ?_ | refine vc_caseF ?_ | refine vc_cons ?_ | refine vc_nil ?_ ?_ | refine vc_seq ?_
              | refine vc_region ?_ | refine vc_cond ?_ | refine vc_block ?_ | refine vc_retc ?_ | refine vc_exit ?_ | refine vc_skip ?_ | refine vc_scope ?_ | refine vc_label ?_ | refine vc_goto ?_ | refine vc_wkSl0
              | refine vc_wkHp0 | refine vc_eqAVs0 | refine vc_preG0 | refine vc_wkSl ?_ ?_ | refine vc_wkHp ?_ ?_ | refine vc_eqAVs ?_ ?_ | refine vc_preG ?_ ?_ | refine vc_ret [] [] ?_ | refine vc_weakf [] ?_ ?_ ?_
              | refine vc_side0 ?_ | refine vc_and ?_ ?_)
      | ((with_reducible first | refine vc_caseD (fun h => ?_) (fun h => ?_) | refine vc_caseN (fun h => ?_) (fun h => ?_)) <;> try (exfalso; omega))
      | ((with_reducible refine vc_case (fun h => ?_) (fun h => ?_)) <;> (try simp at h) <;> try (exfalso; omega))
      | (conv in Vc _ => arg 1; whnf
         first
          | (with_reducible refine vc_side0 ?_; rfl)
          | (with_reducible first
             
                 | refine vc_loopI 14 (fun (i : Nat) => [(0, .ptr 9 []), (2, .ptr 1000 []), (3, .ptr 2000 []), (5, .d (.int .i64 (i : Int)))]) (fun i => [(9, rd B (k + i)), (1000, .var (.d (.arr 32 1 (List.replicate 32 (.int .u8 0))))), (2000, .var (.d (.arr 32 1 ((padB (bs.drop k) i).map byteD))))]) (fun i => 32 - i) (fun i => k + i ≤ bs.length) 0 [] ?_ ?_ ?_ ?_ ?_ (fun i hI => vc_by (k + i < bs.length) (fun hlt => ?_) (fun hge => ?_))
                 | refine vc_call [] (byte_ok B bs hB (k + i) hlt hl _ rfl) ?_ | refine vc_pan [] (byte_pan B bs hB (k + i) hge) ?_ | refine vc_nextI (i + 1) [] ?_ ?_ ?_ ?_ ?_ ?_ | refine vc_panc [] [1000, 2000] ?_ ?_
                 | refine vc_true ?_ | refine vc_true2 ?_ | refine vc_side ?_ ?_ | refine vc_triv | refine vc_later ?_ | refine vc_caseT ?_ | refine vc_caseF ?_ | refine vc_cons ?_ | refine vc_nil ?_ ?_ | refine vc_seq ?_
                 | refine vc_region ?_ | refine vc_cond ?_ | refine vc_block ?_ | refine vc_retc ?_ | refine vc_exit ?_ | refine vc_skip ?_ | refine vc_scope ?_ | refine vc_label ?_ | refine vc_goto ?_ | refine vc_wkSl0
                 | refine vc_wkHp0 | refine vc_eqAVs0 | refine vc_preG0 | refine vc_wkSl ?_ ?_ | refine vc_wkHp ?_ ?_ | refine vc_eqAVs ?_ ?_ | refine vc_preG ?_ ?_ | refine vc_ret [] [] ?_ | refine vc_weakf [] ?_ ?_ ?_
                 | refine vc_side0 ?_ | refine vc_and ?_ ?_)
          | ((with_reducible first | refine vc_caseD (fun h => ?_) (fun h => ?_) | refine vc_caseN (fun h => ?_) (fun h => ?_)) <;> try (exfalso; omega))
          | ((with_reducible refine vc_case (fun h => ?_) (fun h => ?_)) <;> (try simp at h) <;> try (exfalso; omega))))
  all_goals (try simp only [Int.toNat_natCast])
  all_goals first
    | rfl
    | omega
    | (simp [padB]; rfl)
    | (congr 1; rw [wrap64_id (by omega) (by omega)]; omega)
    | (have e : bs.getD (k + i) 0 = (bs.drop k).getD i 0 := by rw [List.getD_eq_getElem?_getD, List.getD_eq_getElem?_getD, List.getElem?_drop]
       rw [e]
       exact congrArg (D.arr 32 1) (padB_set (by rw [List.length_drop]; omega) (by omega)))

theorem take_ne {α : Type} {xs ys : List α} {i : Nat} {d : α} (h : ¬ xs.getD i d = ys.getD i d) : ¬ xs = ys := fun e => h (by rw [e])

theorem take_more {α : Type} {xs ys : List α} {i : Nat} {d : α} (hx : i < xs.length) (hy : i < ys.length) (h : xs.take i = ys.take i) (he : xs.getD i d = ys.getD i d) : xs.take (i + 1) = ys.take (i + 1) := by
  rw [List.getD_eq_getElem?_getD, List.getD_eq_getElem?_getD, List.getElem?_eq_getElem hx, List.getElem?_eq_getElem hy] at he
  have he : xs[i] = ys[i] := he
  rw [List.take_succ_eq_append_getElem hx, List.take_succ_eq_append_getElem hy, h, he]

theorem take_all {α : Type} {xs ys : List α} {i : Nat} (hl : xs.length = ys.length) (hi : xs.length ≤ i) (h : xs.take i = ys.take i) : xs = ys := by
  rwa [List.take_of_length_le hi, List.take_of_length_le (by omega)] at h

theorem map_at {α : Type} {f : α → D} {xs : List α} {i : Nat} {d : α} (hi : i < xs.length) : (xs.map f).getD i .nilp = f (xs.getD i d) ∧ (Option.map f xs[i]?).getD .nilp = f (xs.getD i d) := by
  rw [List.getD_eq_getElem?_getD, List.getElem?_map, List.getD_eq_getElem?_getD, List.getElem?_eq_getElem hi]; exact ⟨rfl, rfl⟩

theorem bool_no {p : Prop} [Decidable p] (h : ¬ p) : D.bool false = D.bool (decide p) := by rw [decide_eq_false h]
theorem bool_yes {p : Prop} [Decidable p] (h : p) : D.bool true = D.bool (decide p) := by rw [decide_eq_true h]

theorem sameNums_ok (xs ys : List Nat) (hx : xs.length < 2 ^ 62) : LocalCall Try.prog 29 [.d (.sl (xs.map nD)), .d (.sl (ys.map nD))] [] [] (one [.d (.bool (decide (xs = ys)))]) [] := by
  have lx : (xs.map nD).length = xs.length := List.length_map _
  have ly : (ys.map nD).length = ys.length := List.length_map _
  refine vc_fn mixed Try.func29 rfl rfl [] (vc_chk rfl) ?_
  repeat' (first
      | ((with_reducible refine vc_chk ?_); first | decide +kernel | rfl)
      | (with_reducible refine vc_side0 ?_; rfl)
      | (with_reducible first
          
              | refine vc_loopI 26 (fun (i : Nat) => [(0, .d (.sl (xs.map nD))), (1, .d (.sl (ys.map nD))), (5, .d (.int .i64 (i : Int)))]) (fun i => []) (fun i => xs.length - i) (fun i => i ≤ xs.length ∧ xs.length = ys.length ∧ xs.take i = ys.take i) 0 [] ?_ ?_ ?_ ?_ ?_ (fun i hI => ?_)
              | refine vc_nextI (i + 1) [] ?_ ?_ ?_ ?_ ?_ ?_ | refine vc_true ?_ | refine vc_true2 ?_ | refine vc_side ?_ ?_ | refine vc_triv | refine vc_later ?_ | refine vc_caseT ?_ | refine vc_caseF ?_ | refine vc_cons ?_
              | refine vc_nil ?_ ?_ | refine vc_seq ?_ | refine vc_region ?_ | refine vc_cond ?_ | refine vc_block ?_ | refine vc_retc ?_ | refine vc_exit ?_ | refine vc_skip ?_ | refine vc_scope ?_ | refine vc_label ?_
              | refine vc_goto ?_ | refine vc_wkSl0 | refine vc_wkHp0 | refine vc_eqAVs0 | refine vc_preG0 | refine vc_wkSl ?_ ?_ | refine vc_wkHp ?_ ?_ | refine vc_eqAVs ?_ ?_ | refine vc_preG ?_ ?_ | refine vc_ret [] [] ?_
              | refine vc_weakf [] ?_ ?_ ?_ | refine vc_side0 ?_ | refine vc_and ?_ ?_)
      | ((with_reducible first | refine vc_caseD (fun h => ?_) (fun h => ?_) | refine vc_caseN (fun h => ?_) (fun h => ?_)) <;> try (exfalso; omega))
      | ((with_reducible refine vc_case (fun h => ?_) (fun h => ?_)) <;> (try simp at h) <;> try (exfalso; omega))
      | (conv in Vc _ => arg 1; whnf
         first
          | (with_reducible refine vc_side0 ?_; rfl)
          | (with_reducible first
             
                 | refine vc_loopI 26 (fun (i : Nat) => [(0, .d (.sl (xs.map nD))), (1, .d (.sl (ys.map nD))), (5, .d (.int .i64 (i : Int)))]) (fun i => []) (fun i => xs.length - i) (fun i => i ≤ xs.length ∧ xs.length = ys.length ∧ xs.take i = ys.take i) 0 [] ?_ ?_ ?_ ?_ ?_ (fun i hI => ?_)
                 | refine vc_nextI (i + 1) [] ?_ ?_ ?_ ?_ ?_ ?_ | refine vc_true ?_ | refine vc_true2 ?_ | refine vc_side ?_ ?_ | refine vc_triv | refine vc_later ?_ | refine vc_caseT ?_ | refine vc_caseF ?_ | refine vc_cons ?_
                 | refine vc_nil ?_ ?_ | refine vc_seq ?_ | refine vc_region ?_ | refine vc_cond ?_ | refine vc_block ?_ | refine vc_retc ?_ | refine vc_exit ?_ | refine vc_skip ?_ | refine vc_scope ?_ | refine vc_label ?_
                 | refine vc_goto ?_ | refine vc_wkSl0 | refine vc_wkHp0 | refine vc_eqAVs0 | refine vc_preG0 | refine vc_wkSl ?_ ?_ | refine vc_wkHp ?_ ?_ | refine vc_eqAVs ?_ ?_ | refine vc_preG ?_ ?_ | refine vc_ret [] [] ?_
                 | refine vc_weakf [] ?_ ?_ ?_ | refine vc_side0 ?_ | refine vc_and ?_ ?_)
          | ((with_reducible first | refine vc_caseD (fun h => ?_) (fun h => ?_) | refine vc_caseN (fun h => ?_) (fun h => ?_)) <;> try (exfalso; omega))
          | ((with_reducible refine vc_case (fun h => ?_) (fun h => ?_)) <;> (try simp at h) <;> try (exfalso; omega))))
  all_goals (try simp only [Int.toNat_natCast])
  all_goals first
    | rfl
    | omega
    | exact bool_no (fun e => h (by rw [e]))
    | exact ⟨Nat.zero_le _, by omega, rfl⟩
    | (congr 1; rw [wrap64_id (by omega) (by omega)]; omega)
    | exact bool_yes (take_all hI.2.1 (by omega) hI.2.2)
    | skip
  all_goals
    obtain ⟨v1, v2⟩ := map_at (f := nD) (d := 0) (show i < xs.length by omega)
    obtain ⟨v3, v4⟩ := map_at (f := nD) (d := 0) (show i < ys.length by omega)
    simp only [v1, v2, v3, v4, nD, D.toInt] at *
  all_goals first
    | exact ⟨⟨by omega, by omega⟩, rfl⟩
    | exact bool_no (take_ne (i := i) (d := 0) (by omega))
    | exact ⟨by omega, by omega, take_more (d := 0) (by omega) (by omega) hI.2.2 (by omega)⟩

theorem sameTexts_ok (xs ys : List (List UInt8)) (hx : xs.length < 2 ^ 62) : LocalCall Try.prog 31 [.d (.sl (xs.map tD)), .d (.sl (ys.map tD))] [] [] (one [.d (.bool (decide (xs = ys)))]) [] := by
  have lx : (xs.map tD).length = xs.length := List.length_map _
  have ly : (ys.map tD).length = ys.length := List.length_map _
  have hsame : ∀ i, i < xs.length → i < ys.length → LocalCall Try.prog 13 [.d ((xs.map tD).getD i .nilp), .d ((ys.map tD).getD i .nilp)] [] [] (one [.d (.bool (decide (xs.getD i [] = ys.getD i [])))]) [] := fun i hi hj => by
    rw [(map_at (f := tD) (d := []) hi).1, (map_at (f := tD) (d := []) hj).1]
    exact same_ok _ _ _ _ rfl rfl
  refine vc_fn mixed Try.func31 rfl rfl [] (vc_chk rfl) ?_
  repeat' (first
      | ((with_reducible refine vc_chk ?_); first | decide +kernel | rfl)
      | (with_reducible refine vc_side0 ?_; rfl)
      | (with_reducible first
          
              | refine vc_loopI 27 (fun (i : Nat) => [(0, .d (.sl (xs.map tD))), (1, .d (.sl (ys.map tD))), (5, .d (.int .i64 (i : Int)))]) (fun i => []) (fun i => xs.length - i) (fun i => i ≤ xs.length ∧ xs.length = ys.length ∧ xs.take i = ys.take i) 0 [] ?_ ?_ ?_ ?_ ?_ (fun i hI => ?_)
              | refine vc_call [] (hsame i (by omega) (by omega)) ?_ | refine vc_nextI (i + 1) [] ?_ ?_ ?_ ?_ ?_ ?_ | refine vc_true ?_ | refine vc_true2 ?_ | refine vc_side ?_ ?_ | refine vc_triv | refine vc_later ?_
              | refine vc_caseT ?_ | refine vc_caseF ?_ | refine vc_cons ?_ | refine vc_nil ?_ ?_ | refine vc_seq ?_ | refine vc_region ?_ | refine vc_cond ?_ | refine vc_block ?_ | refine vc_retc ?_ | refine vc_exit ?_
              | refine vc_skip ?_ | refine vc_scope ?_ | refine vc_label ?_ | refine vc_goto ?_ | refine vc_wkSl0 | refine vc_wkHp0 | refine vc_eqAVs0 | refine vc_preG0 | refine vc_wkSl ?_ ?_ | refine vc_wkHp ?_ ?_
              | refine vc_eqAVs ?_ ?_ | refine vc_preG ?_ ?_ | refine vc_ret [] [] ?_ | refine vc_weakf [] ?_ ?_ ?_ | refine vc_side0 ?_ | refine vc_and ?_ ?_)
      | ((with_reducible first | refine vc_caseD (fun h => ?_) (fun h => ?_) | refine vc_caseN (fun h => ?_) (fun h => ?_)) <;> try (exfalso; omega))
      | ((with_reducible refine vc_case (fun h => ?_) (fun h => ?_)) <;> (try simp at h) <;> try (exfalso; omega))
      | (conv in Vc _ => arg 1; whnf
         first
          | (with_reducible refine vc_side0 ?_; rfl)
          | (with_reducible first
             
                 | refine vc_loopI 27 (fun (i : Nat) => [(0, .d (.sl (xs.map tD))), (1, .d (.sl (ys.map tD))), (5, .d (.int .i64 (i : Int)))]) (fun i => []) (fun i => xs.length - i) (fun i => i ≤ xs.length ∧ xs.length = ys.length ∧ xs.take i = ys.take i) 0 [] ?_ ?_ ?_ ?_ ?_ (fun i hI => ?_)
                 | refine vc_call [] (hsame i (by omega) (by omega)) ?_ | refine vc_nextI (i + 1) [] ?_ ?_ ?_ ?_ ?_ ?_ | refine vc_true ?_ | refine vc_true2 ?_ | refine vc_side ?_ ?_ | refine vc_triv | refine vc_later ?_
                 | refine vc_caseT ?_ | refine vc_caseF ?_ | refine vc_cons ?_ | refine vc_nil ?_ ?_ | refine vc_seq ?_ | refine vc_region ?_ | refine vc_cond ?_ | refine vc_block ?_ | refine vc_retc ?_ | refine vc_exit ?_
                 | refine vc_skip ?_ | refine vc_scope ?_ | refine vc_label ?_ | refine vc_goto ?_ | refine vc_wkSl0 | refine vc_wkHp0 | refine vc_eqAVs0 | refine vc_preG0 | refine vc_wkSl ?_ ?_ | refine vc_wkHp ?_ ?_
                 | refine vc_eqAVs ?_ ?_ | refine vc_preG ?_ ?_ | refine vc_ret [] [] ?_ | refine vc_weakf [] ?_ ?_ ?_ | refine vc_side0 ?_ | refine vc_and ?_ ?_)
          | ((with_reducible first | refine vc_caseD (fun h => ?_) (fun h => ?_) | refine vc_caseN (fun h => ?_) (fun h => ?_)) <;> try (exfalso; omega))
          | ((with_reducible refine vc_case (fun h => ?_) (fun h => ?_)) <;> (try simp at h) <;> try (exfalso; omega))))
  all_goals (try simp only [Int.toNat_natCast])
  all_goals first
    | rfl
    | omega
    | exact bool_no (fun e => h (by rw [e]))
    | exact ⟨Nat.zero_le _, by omega, rfl⟩
    | (congr 1; rw [wrap64_id (by omega) (by omega)]; omega)
    | exact bool_yes (take_all hI.2.1 (by omega) hI.2.2)
    | exact bool_no (take_ne (i := i) (d := []) h)
    | exact ⟨by omega, by omega, take_more (d := []) (by omega) (by omega) hI.2.2 h⟩
    | (obtain ⟨v1, _⟩ := map_at (f := tD) (d := []) (show i < xs.length by omega)
       obtain ⟨v3, _⟩ := map_at (f := tD) (d := []) (show i < ys.length by omega)
       simp only [v1, v3]
       first
       | exact ⟨⟨by omega, by omega⟩, rfl⟩
       | rfl)

end Go.Proofs.Ythedcaopedbpdaa

/-
The reference's reader, bad or not; the reference's numbers and texts, read.
-/
namespace Go.Proofs.Ythedcaopedbpdaa
open Go.Sym
set_option maxRecDepth 10000
set_option maxHeartbeats 1000000

def inNs (bs : List UInt8) (b : Bool) (k : Nat) : Nat × Nat × Bool := bif b then (0, k, true) else inN bs 10 k 0 0
def inCs (bs : List UInt8) (most : Nat) (b : Bool) (k : Nat) : Nat × Nat × Bool := bif b then (0, k, true) else inC bs most k
def inTs (bs : List UInt8) (b : Bool) (k : Nat) : List UInt8 × Nat × Bool := bif b then ([], k, true) else inT bs k

theorem inNum_any (B : List D) (bs : List UInt8) (hB : B = bs.map byteD) (k : Nat) (b : Bool) (hk : k ≤ bs.length) (hl : bs.length < 2 ^ 62) :
    LocalCall Try.prog 24 [.ptr 9 []] [(9, rIn B k b)] [] (one [.d (.int .u64 ((inNs bs b k).1 : Int))]) [(9, rIn B (inNs bs b k).2.1 (inNs bs b k).2.2)] := by
  cases b with
  | true => exact inNum_bad B k
  | false => exact inNum_ok B bs hB k hk hl _ rfl

theorem inText_any (B : List D) (bs : List UInt8) (hB : B = bs.map byteD) (k : Nat) (b : Bool) (hk : k ≤ bs.length) (hl : bs.length < 2 ^ 62) :
    LocalCall Try.prog 26 [.ptr 9 []] [(9, rIn B k b)] [] (one [.d (.sl ((inTs bs b k).1.map byteD))]) [(9, rIn B (inTs bs b k).2.1 (inTs bs b k).2.2)] := by
  cases b with
  | true => exact inText_bad B k
  | false => exact inText_ok B bs hB k hk hl _ rfl

theorem inK_le (bs : List UInt8) (n k : Nat) (h : k ≤ bs.length) : (inK bs n k).2.1 ≤ bs.length := by
  unfold inK
  by_cases hc : k + n ≤ bs.length
  · rw [decide_eq_true hc]; exact hc
  · rw [decide_eq_false hc]; exact h

theorem inNs_le (bs : List UInt8) (b : Bool) (k : Nat) (h : k ≤ bs.length) : (inNs bs b k).2.1 ≤ bs.length := by
  cases b with
  | true => exact h
  | false => exact inN_le bs 10 k 0 0 h

theorem inTs_le (bs : List UInt8) (b : Bool) (k : Nat) (h : k ≤ bs.length) : (inTs bs b k).2.1 ≤ bs.length := by
  cases b with
  | true => exact h
  | false =>
    have := inC_le bs 1048576 k h
    unfold inTs inT
    simp only [cond_false]
    cases (inC bs 1048576 k).2.2 with
    | true => exact this
    | false => exact inK_le bs _ _ this

def optT (r : List UInt8 × Nat × Bool) : Option (List UInt8 × Nat) := bif r.2.2 then none else some (r.1, r.2.1)

theorem inT_rdT (bs : List UInt8) (k : Nat) : rdT bs k = optT (inT bs k) := by
  unfold rdT inT
  have h := inC_rdC bs 1048576 k
  rw [show ((1048576 : Nat) : Int) = 1048576 from rfl] at h
  rw [h]
  rcases inC bs 1048576 k with ⟨v, e, b⟩
  cases b with
  | true => rfl
  | false =>
    simp only [optN, cond_false]
    unfold inK
    cases decide (e + v ≤ bs.length) <;> rfl

/-- What is known of numbers (or texts) being read one behind the other. -/
structure RfI {α : Type} (rd : Nat → Nat → Option (List α × Nat)) (len n : Nat) (R : Option (List α × Nat)) (x : List α × Nat × Bool × Nat) : Prop where
  h : (bif x.2.2.1 then none else (rd (n - x.2.2.2) x.2.1).map fun p => (x.1 ++ p.1, p.2)) = R
  hi : x.2.2.2 ≤ n
  hl : x.1.length = x.2.2.2
  hk : x.2.1 ≤ len

theorem RfI.bad {α : Type} {rd : Nat → Nat → Option (List α × Nat)} {len n : Nat} {R : Option (List α × Nat)} {x : List α × Nat × Bool × Nat} (hI : RfI rd len n R x) (h : x.2.2.1 = true) : R = none := by
  rw [← hI.h, h]; rfl

theorem RfI.stop {α : Type} {rd : Nat → Nat → Option (List α × Nat)} {len n : Nat} {R : Option (List α × Nat)} {x : List α × Nat × Bool × Nat} (h0 : ∀ k, rd 0 k = some ([], k)) (hI : RfI rd len n R x) (h : x.2.2.1 = false) (hn : n ≤ x.2.2.2) : R = some (x.1, x.2.1) := by
  rw [← hI.h, h, Nat.sub_eq_zero_of_le hn, h0]
  simp

theorem RfN.next {bs : List UInt8} {len n : Nat} {R : Option (List Nat × Nat)} {x : List Nat × Nat × Bool × Nat} (hlen : len = bs.length) (hI : RfI (rdNs bs) len n R x) (h : x.2.2.1 = false) (hn : x.2.2.2 < n) :
    RfI (rdNs bs) len n R (x.1 ++ [(inNs bs x.2.2.1 x.2.1).1], (inNs bs x.2.2.1 x.2.1).2.1, (inNs bs x.2.2.1 x.2.1).2.2, x.2.2.2 + 1) := by
  obtain ⟨acc, k, b, i⟩ := x
  obtain ⟨e, hi, hl, hk⟩ := hI
  simp only at e hi hl hk h hn ⊢
  subst h
  refine ⟨?_, by simp only; omega, by simp [hl], by subst hlen; exact inNs_le bs false k hk⟩
  rw [← e]
  obtain ⟨m, hm⟩ : ∃ m, n - i = m + 1 := ⟨n - i - 1, by omega⟩
  simp only [cond_false]
  rw [hm, show n - (i + 1) = m by omega, rdNs, inN_rdN]
  show (bif (inN bs 10 k 0 0).2.2 then none else (rdNs bs m (inN bs 10 k 0 0).2.1).map fun p => (acc ++ [(inN bs 10 k 0 0).1] ++ p.1, p.2)) = _
  rcases inN bs 10 k 0 0 with ⟨v, e', b'⟩
  cases b' with
  | true => rfl
  | false =>
    simp only [optN, cond_false]
    cases rdNs bs m e' with
    | none => rfl
    | some p => simp

theorem RfT.next {bs : List UInt8} {len n : Nat} {R : Option (List (List UInt8) × Nat)} {x : List (List UInt8) × Nat × Bool × Nat} (hlen : len = bs.length) (hI : RfI (rdTs bs) len n R x) (h : x.2.2.1 = false) (hn : x.2.2.2 < n) :
    RfI (rdTs bs) len n R (x.1 ++ [(inTs bs x.2.2.1 x.2.1).1], (inTs bs x.2.2.1 x.2.1).2.1, (inTs bs x.2.2.1 x.2.1).2.2, x.2.2.2 + 1) := by
  obtain ⟨acc, k, b, i⟩ := x
  obtain ⟨e, hi, hl, hk⟩ := hI
  simp only at e hi hl hk h hn ⊢
  subst h
  refine ⟨?_, by simp only; omega, by simp [hl], by subst hlen; exact inTs_le bs false k hk⟩
  rw [← e]
  obtain ⟨m, hm⟩ : ∃ m, n - i = m + 1 := ⟨n - i - 1, by omega⟩
  simp only [cond_false]
  rw [hm, show n - (i + 1) = m by omega, rdTs, inT_rdT]
  show (bif (inT bs k).2.2 then none else (rdTs bs m (inT bs k).2.1).map fun p => (acc ++ [(inT bs k).1] ++ p.1, p.2)) = _
  rcases inT bs k with ⟨v, e', b'⟩
  cases b' with
  | true => rfl
  | false =>
    simp only [optT, cond_false]
    cases rdTs bs m e' with
    | none => rfl
    | some p => simp

/-- What a reader to the bytes' end comes to. -/
def toEnd {α : Type} (len : Nat) : Option (List α × Nat) → Option (List α)
  | some (vs, e) => bif decide (e = len) then some vs else none
  | none => none

theorem RfI.yes {α : Type} {rd : Nat → Nat → Option (List α × Nat)} {len n : Nat} {R : Option (List α × Nat)} {x : List α × Nat × Bool × Nat} {O : Option (List α)} (h0 : ∀ k, rd 0 k = some ([], k)) (hI : RfI rd len n R x) (hO : O = toEnd len R) (h : x.2.2.1 = false) (hn : n ≤ x.2.2.2) (hk : x.2.1 = len) : O = some x.1 := by
  rw [hO, hI.stop h0 h hn, toEnd, decide_eq_true hk]; rfl

theorem RfI.no {α : Type} {rd : Nat → Nat → Option (List α × Nat)} {len n : Nat} {R : Option (List α × Nat)} {x : List α × Nat × Bool × Nat} {O : Option (List α)} (h0 : ∀ k, rd 0 k = some ([], k)) (hI : RfI rd len n R x) (hO : O = toEnd len R) (hn : x.2.2.1 = false → n ≤ x.2.2.2) (hk : x.2.2.1 = false → ¬ x.2.1 = len) : O = none := by
  cases hb : x.2.2.1 with
  | true => rw [hO, hI.bad hb]; rfl
  | false => rw [hO, hI.stop h0 hb (hn hb), toEnd, decide_eq_false (hk hb)]; rfl

theorem rdNums_end (bs : List UInt8) {n k : Nat} {b : Bool} (h : inC bs 4096 0 = (n, k, b)) : rdNums bs = toEnd bs.length (bif b then none else rdNs bs n k) := by
  have h1 := inC_rdC bs 4096 0
  rw [show ((4096 : Nat) : Int) = 4096 from rfl, h] at h1
  unfold rdNums
  rw [h1]
  cases b with
  | true => rfl
  | false =>
    simp only [optN, cond_false]
    cases rdNs bs n k <;> rfl

theorem rdTexts_end (bs : List UInt8) {n k : Nat} {b : Bool} (h : inC bs 4096 0 = (n, k, b)) : rdTexts bs = toEnd bs.length (bif b then none else rdTs bs n k) := by
  have h1 := inC_rdC bs 4096 0
  rw [show ((4096 : Nat) : Int) = 4096 from rfl, h] at h1
  unfold rdTexts
  rw [h1]
  cases b with
  | true => rfl
  | false =>
    simp only [optN, cond_false]
    cases rdTs bs n k <;> rfl

/-- The error's number of what was read. -/
def errI {α : Type} (o : Option α) : Int := if o = none then 3 else 0

theorem errI_none {α : Type} : errI (none : Option α) = 3 := rfl
theorem errI_some {α : Type} (x : α) : errI (some x) = 0 := rfl

theorem refNums_ok (B : List D) (bs : List UInt8) (hB : B = bs.map byteD) (hl : bs.length < 2 ^ 62) (O : Option (List Nat)) (hO : rdNums bs = O) :
    LocalCall Try.prog 33 [.d (.sl B)] [] [] (one [.d (.sl ((O.getD []).map nD)), .d (.int .i64 (errI O))]) [] := by
  have hlen : B.length = bs.length := by rw [hB]; simp
  rcases h0 : inC bs 4096 0 with ⟨n, k, b⟩
  have hn := inC_most bs 4096 0
  have hk := inC_le bs 4096 0 (Nat.zero_le _)
  have hc := inCnt_ok B bs hB 4096 0 (by omega) (Nat.zero_le _) hl _ h0
  rw [h0] at hn hk
  simp only at hn hk hc
  rw [rdNums_end bs h0] at hO
  generalize hR : (bif b then none else rdNs bs n k) = R at hO
  have hI0 : RfI (rdNs bs) bs.length n R ([], k, b, 0) := ⟨by rw [← hR]; simp, Nat.zero_le _, rfl, hk⟩
  have hcl := local_ren [(9, 2008)] [(2008, 9)] hc rfl
  refine vc_fn mixed Try.func33 rfl rfl [(500002, [7001005])] (vc_chk rfl) ?_
  repeat' (first
      | ((with_reducible refine vc_chk ?_); first | decide +kernel | rfl)
      | (with_reducible refine vc_side0 ?_; rfl)
      | (with_reducible first
           | refine vc_call [] hcl ?_
              | refine vc_loopI 34 (fun (x : List Nat × Nat × Bool × Nat) => [(0, .d (.sl B)), (4, .ptr 2008 []), (5, .sl 7 [] 1 0 (x.1.map nD).length), (6, .d (.int .i64 (n : Int))), (7, .d (.int .i64 (x.2.2.2 : Int)))]) (fun x => [(2008, rIn B x.2.1 x.2.2.1), (7, .row 1 (x.1.map nD))]) (fun x => n - x.2.2.2) (RfI (rdNs bs) bs.length n R) ([], k, b, 0) [] ?_ ?_ ?_ ?_ ?_ (fun x hI => ?_)
              | refine vc_call [] (local_ren [(9, 2008)] [(2008, 9)] (inNum_any B bs hB x.2.1 x.2.2.1 hI.hk hl) rfl) ?_ | refine vc_call [] (local_ren [(9, 2008)] [(2008, 9)] (inDone_ok B x.2.1 x.2.2.1) rfl) ?_
              | refine vc_nextI (x.1 ++ [(inNs bs x.2.2.1 x.2.1).1], (inNs bs x.2.2.1 x.2.1).2.1, (inNs bs x.2.2.1 x.2.1).2.2, x.2.2.2 + 1) [(7, 8016)] ?_ ?_ ?_ ?_ ?_ ?_ | refine vc_ret [true] [] ?_ | refine vc_true ?_
              | refine vc_true2 ?_ | refine vc_side ?_ ?_ | refine vc_triv | refine vc_later ?_ | refine vc_caseT ?_ | refine vc_caseF ?_ | refine vc_cons ?_ | refine vc_nil ?_ ?_ | refine vc_seq ?_ | refine vc_region ?_
              | refine vc_cond ?_ | refine vc_block ?_ | refine vc_retc ?_ | refine vc_exit ?_ | refine vc_skip ?_ | refine vc_scope ?_ | refine vc_label ?_ | refine vc_goto ?_ | refine vc_wkSl0 | refine vc_wkHp0
              | refine vc_eqAVs0 | refine vc_preG0 | refine vc_wkSl ?_ ?_ | refine vc_wkHp ?_ ?_ | refine vc_eqAVs ?_ ?_ | refine vc_preG ?_ ?_ | refine vc_ret [] [] ?_ | refine vc_weakf [] ?_ ?_ ?_ | refine vc_side0 ?_
              | refine vc_and ?_ ?_)
      | ((with_reducible first | refine vc_caseD (fun h => ?_) (fun h => ?_) | refine vc_caseN (fun h => ?_) (fun h => ?_)) <;> try (exfalso; omega))
      | ((with_reducible refine vc_case (fun h => ?_) (fun h => ?_)) <;> (try simp at h) <;> try (exfalso; omega))
      | (conv in Vc _ => arg 1; whnf
         first
          | (with_reducible refine vc_side0 ?_; rfl)
          | (with_reducible first
              | refine vc_call [] hcl ?_
                 | refine vc_loopI 34 (fun (x : List Nat × Nat × Bool × Nat) => [(0, .d (.sl B)), (4, .ptr 2008 []), (5, .sl 7 [] 1 0 (x.1.map nD).length), (6, .d (.int .i64 (n : Int))), (7, .d (.int .i64 (x.2.2.2 : Int)))]) (fun x => [(2008, rIn B x.2.1 x.2.2.1), (7, .row 1 (x.1.map nD))]) (fun x => n - x.2.2.2) (RfI (rdNs bs) bs.length n R) ([], k, b, 0) [] ?_ ?_ ?_ ?_ ?_ (fun x hI => ?_)
                 | refine vc_call [] (local_ren [(9, 2008)] [(2008, 9)] (inNum_any B bs hB x.2.1 x.2.2.1 hI.hk hl) rfl) ?_ | refine vc_call [] (local_ren [(9, 2008)] [(2008, 9)] (inDone_ok B x.2.1 x.2.2.1) rfl) ?_
                 | refine vc_nextI (x.1 ++ [(inNs bs x.2.2.1 x.2.1).1], (inNs bs x.2.2.1 x.2.1).2.1, (inNs bs x.2.2.1 x.2.1).2.2, x.2.2.2 + 1) [(7, 8016)] ?_ ?_ ?_ ?_ ?_ ?_ | refine vc_ret [true] [] ?_ | refine vc_true ?_
                 | refine vc_true2 ?_ | refine vc_side ?_ ?_ | refine vc_triv | refine vc_later ?_ | refine vc_caseT ?_ | refine vc_caseF ?_ | refine vc_cons ?_ | refine vc_nil ?_ ?_ | refine vc_seq ?_ | refine vc_region ?_
                 | refine vc_cond ?_ | refine vc_block ?_ | refine vc_retc ?_ | refine vc_exit ?_ | refine vc_skip ?_ | refine vc_scope ?_ | refine vc_label ?_ | refine vc_goto ?_ | refine vc_wkSl0 | refine vc_wkHp0
                 | refine vc_eqAVs0 | refine vc_preG0 | refine vc_wkSl ?_ ?_ | refine vc_wkHp ?_ ?_ | refine vc_eqAVs ?_ ?_ | refine vc_preG ?_ ?_ | refine vc_ret [] [] ?_ | refine vc_weakf [] ?_ ?_ ?_ | refine vc_side0 ?_
                 | refine vc_and ?_ ?_)
          | ((with_reducible first | refine vc_caseD (fun h => ?_) (fun h => ?_) | refine vc_caseN (fun h => ?_) (fun h => ?_)) <;> try (exfalso; omega))
          | ((with_reducible refine vc_case (fun h => ?_) (fun h => ?_)) <;> (try simp at h) <;> try (exfalso; omega))))
  all_goals first
    | rfl
    | exact hI0
    | (simp only; omega)
    | (have hi := hI.hi
       congr 1; rw [wrap64_id (by omega) (by omega)]; simp only; omega)
    | exact RfN.next rfl hI (by assumption) (by omega)
    | (simp only [List.drop_zero, List.take_length]; rw [nD_app]; done)
    | (have hll := hI.hl
       have hi := hI.hi
       refine ⟨⟨by simp, by first | trivial | rfl, room8 rfl ?_⟩, fun y hy => ?_⟩
       · rw [List.length_append, List.length_map]
         show x.1.length + 1 ≤ 4096
         omega
       · simp only [List.drop_zero, List.take_length, List.mem_singleton] at hy; subst hy; rfl)
    | exact ⟨trivial, trivial, trivial⟩
    | exact ⟨Nat.le_of_eq (Nat.zero_add _), trivial⟩
    | (have e : O = none := hI.no (fun _ => rfl) hO.symm (fun hb => by first | omega | (exfalso; simp_all; done)) (fun hb => by
         rcases h with h | h
         · exfalso; simp_all
         · exact fun e2 => h (by omega))
       subst e; rfl)
    | (have e : O = some x.1 := hI.yes (fun _ => rfl) hO.symm h.1 (by first | omega | (exfalso; simp_all; done)) (by omega)
       subst e
       first
       | rfl
       | (rw [List.drop_zero, List.take_length]; rfl))
    | fail

theorem refTexts_ok (B : List D) (bs : List UInt8) (hB : B = bs.map byteD) (hl : bs.length < 2 ^ 62) (O : Option (List (List UInt8))) (hO : rdTexts bs = O) :
    LocalCall Try.prog 35 [.d (.sl B)] [] [] (one [.d (.sl ((O.getD []).map tD)), .d (.int .i64 (errI O))]) [] := by
  have hlen : B.length = bs.length := by rw [hB]; simp
  rcases h0 : inC bs 4096 0 with ⟨n, k, b⟩
  have hn := inC_most bs 4096 0
  have hk := inC_le bs 4096 0 (Nat.zero_le _)
  have hc := inCnt_ok B bs hB 4096 0 (by omega) (Nat.zero_le _) hl _ h0
  rw [h0] at hn hk
  simp only at hn hk hc
  rw [rdTexts_end bs h0] at hO
  generalize hR : (bif b then none else rdTs bs n k) = R at hO
  have hI0 : RfI (rdTs bs) bs.length n R ([], k, b, 0) := ⟨by rw [← hR]; simp, Nat.zero_le _, rfl, hk⟩
  have hcl := local_ren [(9, 2008)] [(2008, 9)] hc rfl
  refine vc_fn mixed Try.func35 rfl rfl [(500002, [7001005])] (vc_chk rfl) ?_
  repeat' (first
      | ((with_reducible refine vc_chk ?_); first | decide +kernel | rfl)
      | (with_reducible refine vc_side0 ?_; rfl)
      | (with_reducible first
           | refine vc_call [] hcl ?_
              | refine vc_loopI 34 (fun (x : List (List UInt8) × Nat × Bool × Nat) => [(0, .d (.sl B)), (4, .ptr 2008 []), (5, .sl 7 [] 1 0 (x.1.map tD).length), (6, .d (.int .i64 (n : Int))), (7, .d (.int .i64 (x.2.2.2 : Int)))]) (fun x => [(2008, rIn B x.2.1 x.2.2.1), (7, .row 1 (x.1.map tD))]) (fun x => n - x.2.2.2) (RfI (rdTs bs) bs.length n R) ([], k, b, 0) [] ?_ ?_ ?_ ?_ ?_ (fun x hI => ?_)
              | refine vc_call [] (local_ren [(9, 2008)] [(2008, 9)] (inText_any B bs hB x.2.1 x.2.2.1 hI.hk hl) rfl) ?_ | refine vc_call [] (local_ren [(9, 2008)] [(2008, 9)] (inDone_ok B x.2.1 x.2.2.1) rfl) ?_
              | refine vc_nextI (x.1 ++ [(inTs bs x.2.2.1 x.2.1).1], (inTs bs x.2.2.1 x.2.1).2.1, (inTs bs x.2.2.1 x.2.1).2.2, x.2.2.2 + 1) [(7, 8016)] ?_ ?_ ?_ ?_ ?_ ?_ | refine vc_ret [true] [] ?_ | refine vc_true ?_
              | refine vc_true2 ?_ | refine vc_side ?_ ?_ | refine vc_triv | refine vc_later ?_ | refine vc_caseT ?_ | refine vc_caseF ?_ | refine vc_cons ?_ | refine vc_nil ?_ ?_ | refine vc_seq ?_ | refine vc_region ?_
              | refine vc_cond ?_ | refine vc_block ?_ | refine vc_retc ?_ | refine vc_exit ?_ | refine vc_skip ?_ | refine vc_scope ?_ | refine vc_label ?_ | refine vc_goto ?_ | refine vc_wkSl0 | refine vc_wkHp0
              | refine vc_eqAVs0 | refine vc_preG0 | refine vc_wkSl ?_ ?_ | refine vc_wkHp ?_ ?_ | refine vc_eqAVs ?_ ?_ | refine vc_preG ?_ ?_ | refine vc_ret [] [] ?_ | refine vc_weakf [] ?_ ?_ ?_ | refine vc_side0 ?_
              | refine vc_and ?_ ?_)
      | ((with_reducible first | refine vc_caseD (fun h => ?_) (fun h => ?_) | refine vc_caseN (fun h => ?_) (fun h => ?_)) <;> try (exfalso; omega))
      | ((with_reducible refine vc_case (fun h => ?_) (fun h => ?_)) <;> (try simp at h) <;> try (exfalso; omega))
      | (conv in Vc _ => arg 1; whnf
         first
          | (with_reducible refine vc_side0 ?_; rfl)
          | (with_reducible first
              | refine vc_call [] hcl ?_
                 | refine vc_loopI 34 (fun (x : List (List UInt8) × Nat × Bool × Nat) => [(0, .d (.sl B)), (4, .ptr 2008 []), (5, .sl 7 [] 1 0 (x.1.map tD).length), (6, .d (.int .i64 (n : Int))), (7, .d (.int .i64 (x.2.2.2 : Int)))]) (fun x => [(2008, rIn B x.2.1 x.2.2.1), (7, .row 1 (x.1.map tD))]) (fun x => n - x.2.2.2) (RfI (rdTs bs) bs.length n R) ([], k, b, 0) [] ?_ ?_ ?_ ?_ ?_ (fun x hI => ?_)
                 | refine vc_call [] (local_ren [(9, 2008)] [(2008, 9)] (inText_any B bs hB x.2.1 x.2.2.1 hI.hk hl) rfl) ?_ | refine vc_call [] (local_ren [(9, 2008)] [(2008, 9)] (inDone_ok B x.2.1 x.2.2.1) rfl) ?_
                 | refine vc_nextI (x.1 ++ [(inTs bs x.2.2.1 x.2.1).1], (inTs bs x.2.2.1 x.2.1).2.1, (inTs bs x.2.2.1 x.2.1).2.2, x.2.2.2 + 1) [(7, 8016)] ?_ ?_ ?_ ?_ ?_ ?_ | refine vc_ret [true] [] ?_ | refine vc_true ?_
                 | refine vc_true2 ?_ | refine vc_side ?_ ?_ | refine vc_triv | refine vc_later ?_ | refine vc_caseT ?_ | refine vc_caseF ?_ | refine vc_cons ?_ | refine vc_nil ?_ ?_ | refine vc_seq ?_ | refine vc_region ?_
                 | refine vc_cond ?_ | refine vc_block ?_ | refine vc_retc ?_ | refine vc_exit ?_ | refine vc_skip ?_ | refine vc_scope ?_ | refine vc_label ?_ | refine vc_goto ?_ | refine vc_wkSl0 | refine vc_wkHp0
                 | refine vc_eqAVs0 | refine vc_preG0 | refine vc_wkSl ?_ ?_ | refine vc_wkHp ?_ ?_ | refine vc_eqAVs ?_ ?_ | refine vc_preG ?_ ?_ | refine vc_ret [] [] ?_ | refine vc_weakf [] ?_ ?_ ?_ | refine vc_side0 ?_
                 | refine vc_and ?_ ?_)
          | ((with_reducible first | refine vc_caseD (fun h => ?_) (fun h => ?_) | refine vc_caseN (fun h => ?_) (fun h => ?_)) <;> try (exfalso; omega))
          | ((with_reducible refine vc_case (fun h => ?_) (fun h => ?_)) <;> (try simp at h) <;> try (exfalso; omega))))
  all_goals first
    | rfl
    | exact hI0
    | (simp only; omega)
    | (have hi := hI.hi
       congr 1; rw [wrap64_id (by omega) (by omega)]; simp only; omega)
    | exact RfT.next rfl hI (by assumption) (by omega)
    | (simp only [List.drop_zero, List.take_length]; rw [tD_app]; done)
    | (have hll := hI.hl
       have hi := hI.hi
       refine ⟨⟨by simp, by first | trivial | rfl, room24 rfl ?_⟩, fun y hy => ?_⟩
       · rw [List.length_append, List.length_map]
         show x.1.length + 1 ≤ 4096
         omega
       · simp only [List.drop_zero, List.take_length, List.mem_singleton] at hy; subst hy; rfl)
    | exact ⟨trivial, trivial, trivial⟩
    | exact ⟨Nat.le_of_eq (Nat.zero_add _), trivial⟩
    | (have e : O = none := hI.no (fun _ => rfl) hO.symm (fun hb => by first | omega | (exfalso; simp_all; done)) (fun hb => by
         rcases h with h | h
         · exfalso; simp_all
         · exact fun e2 => h (by omega))
       subst e; rfl)
    | (have e : O = some x.1 := hI.yes (fun _ => rfl) hO.symm h.1 (by first | omega | (exfalso; simp_all; done)) (by omega)
       subst e
       first
       | rfl
       | (rw [List.drop_zero, List.take_length]; rfl))
    | fail

end Go.Proofs.Ythedcaopedbpdaa

/-
Numbers and texts, read: whatever the bytes are. The references' numbers and texts, written.
-/
namespace Go.Proofs.Ythedcaopedbpdaa
open Go.Sym
set_option maxRecDepth 10000
set_option maxHeartbeats 1000000

theorem rNums_any (bs : List UInt8) (hl : bs.length < 2 ^ 62) :
    LocalCall Try.prog 32 [.d (.sl (bs.map byteD))] [] [] (one [.d (.sl (((rdNums bs).getD []).map nD)), .d (.int .i64 (errI (rdNums bs)))]) [] := by
  cases h : rdNums bs with
  | none => exact rNums_no _ bs rfl h hl
  | some vs => exact rNums_yes _ bs rfl vs h hl

theorem rTexts_any (bs : List UInt8) (hl : bs.length < 2 ^ 62) :
    LocalCall Try.prog 34 [.d (.sl (bs.map byteD))] [] [] (one [.d (.sl (((rdTexts bs).getD []).map tD)), .d (.int .i64 (errI (rdTexts bs)))]) [] := by
  cases h : rdTexts bs with
  | none => exact rTexts_no _ bs rfl h hl
  | some vs => exact rTexts_yes _ bs rfl vs h hl

theorem refNums_any (bs : List UInt8) (hl : bs.length < 2 ^ 62) :
    LocalCall Try.prog 33 [.d (.sl (bs.map byteD))] [] [] (one [.d (.sl (((rdNums bs).getD []).map nD)), .d (.int .i64 (errI (rdNums bs)))]) [] := refNums_ok _ bs rfl hl _ rfl

theorem refTexts_any (bs : List UInt8) (hl : bs.length < 2 ^ 62) :
    LocalCall Try.prog 35 [.d (.sl (bs.map byteD))] [] [] (one [.d (.sl (((rdTexts bs).getD []).map tD)), .d (.int .i64 (errI (rdTexts bs)))]) [] := refTexts_ok _ bs rfl hl _ rfl

theorem rdNums_len (bs : List UInt8) : ((rdNums bs).getD []).length ≤ 4096 := by
  cases h : rdNums bs with
  | none => simp
  | some vs => exact (rdNums_iff.1 h).2.1

theorem rdTexts_len (bs : List UInt8) : ((rdTexts bs).getD []).length ≤ 4096 := by
  cases h : rdTexts bs with
  | none => simp
  | some vs => exact (rdTexts_iff.1 h).2.1

theorem numsB_len {vs : List Nat} (h : ∀ v, v ∈ vs → v < 2 ^ 64) : (numsB vs).length ≤ 10 * vs.length := by
  induction vs with
  | nil => simp [numsB]
  | cons v vs ih =>
    have := ih (fun w hw => h w (by simp [hw]))
    have h1 := numB_le10 (h v (by simp))
    simp only [numsB, List.flatMap_cons, List.length_append, List.length_cons] at this ⊢
    omega

theorem encN_len {vs : List Nat} (h : ∀ v, v ∈ vs → v < 2 ^ 64) (hl : vs.length < 2 ^ 64) : (encN vs).length ≤ 10 * vs.length + 10 := by
  have := numsB_len h
  have h1 := numB_le10 hl
  unfold encN
  rw [List.length_append]; omega

theorem textsB_len (vs : List (List UInt8)) (h : ∀ v, v ∈ vs → v.length < 2 ^ 64) : (textsB vs).length ≤ 10 * vs.length + vs.flatten.length := by
  induction vs with
  | nil => simp [textsB]
  | cons v vs ih =>
    have := ih (fun w hw => h w (by simp [hw]))
    have h1 := numB_le10 (h v (by simp))
    simp only [textsB, textB, List.flatMap_cons, List.length_append, List.length_cons, List.flatten_cons] at this ⊢
    omega

theorem encT_len {vs : List (List UInt8)} (h : ∀ v, v ∈ vs → v.length < 2 ^ 64) (hl : vs.length < 2 ^ 64) : (encT vs).length ≤ 10 * vs.length + 10 + vs.flatten.length := by
  have := textsB_len vs h
  have h1 := numB_le10 hl
  unfold encT
  rw [List.length_append]; omega

theorem rNum_own (i : Int) (n : Nat) (hi : i = n) (hn : n < 2 ^ 64) : LocalCall Try.prog 15 [.d (.int .u64 i)] [] [2] (one [.sl 2 [] 1 0 ((numB n).map byteD).length]) [(2, .row 1 ((numB n).map byteD))] := by
  subst hi
  have h10 := numB_le10 hn
  refine vc_fn mixed Try.func15 rfl rfl [(500001, [7001003])] (vc_chk rfl) ?_
  repeat' (first
      | ((with_reducible refine vc_chk ?_); first | decide +kernel | rfl)
      | (with_reducible refine vc_side0 ?_; rfl)
      | (with_reducible first
          
              | refine vc_loopI 20 (fun (x : List D × Nat) => [(3, .sl 7 [] 1 0 x.1.length), (0, .d (.int .u64 (x.2 : Int)))]) (fun x => [(7, .row 1 x.1)]) (fun x => x.2) (fun x => x.1 ++ (numB x.2).map byteD = (numB n).map byteD ∧ x.2 < 2 ^ 64) ([], n) [] ?_ ?_ ?_ ?_ ?_ (fun x hI => ?_)
              | refine vc_nextI (x.1 ++ [byteD (UInt8.ofNat (x.2 % 128 + 128))], x.2 / 128) [(7, 4024)] ?_ ?_ ?_ ?_ ?_ ?_ | refine vc_ret [] [(2, 6016)] ?_ | refine vc_true ?_ | refine vc_true2 ?_ | refine vc_side ?_ ?_
              | refine vc_triv | refine vc_later ?_ | refine vc_caseT ?_ | refine vc_caseF ?_ | refine vc_cons ?_ | refine vc_nil ?_ ?_ | refine vc_seq ?_ | refine vc_region ?_ | refine vc_cond ?_ | refine vc_block ?_
              | refine vc_retc ?_ | refine vc_exit ?_ | refine vc_skip ?_ | refine vc_scope ?_ | refine vc_label ?_ | refine vc_goto ?_ | refine vc_wkSl0 | refine vc_wkHp0 | refine vc_eqAVs0 | refine vc_preG0
              | refine vc_wkSl ?_ ?_ | refine vc_wkHp ?_ ?_ | refine vc_eqAVs ?_ ?_ | refine vc_preG ?_ ?_ | refine vc_ret [] [] ?_ | refine vc_weakf [] ?_ ?_ ?_ | refine vc_side0 ?_ | refine vc_and ?_ ?_)
      | ((with_reducible first | refine vc_caseD (fun h => ?_) (fun h => ?_) | refine vc_caseN (fun h => ?_) (fun h => ?_)) <;> try (exfalso; omega))
      | ((with_reducible refine vc_case (fun h => ?_) (fun h => ?_)) <;> (try simp at h) <;> try (exfalso; omega))
      | (conv in Vc _ => arg 1; whnf
         first
          | (with_reducible refine vc_side0 ?_; rfl)
          | (with_reducible first
             
                 | refine vc_loopI 20 (fun (x : List D × Nat) => [(3, .sl 7 [] 1 0 x.1.length), (0, .d (.int .u64 (x.2 : Int)))]) (fun x => [(7, .row 1 x.1)]) (fun x => x.2) (fun x => x.1 ++ (numB x.2).map byteD = (numB n).map byteD ∧ x.2 < 2 ^ 64) ([], n) [] ?_ ?_ ?_ ?_ ?_ (fun x hI => ?_)
                 | refine vc_nextI (x.1 ++ [byteD (UInt8.ofNat (x.2 % 128 + 128))], x.2 / 128) [(7, 4024)] ?_ ?_ ?_ ?_ ?_ ?_ | refine vc_ret [] [(2, 6016)] ?_ | refine vc_true ?_ | refine vc_true2 ?_ | refine vc_side ?_ ?_
                 | refine vc_triv | refine vc_later ?_ | refine vc_caseT ?_ | refine vc_caseF ?_ | refine vc_cons ?_ | refine vc_nil ?_ ?_ | refine vc_seq ?_ | refine vc_region ?_ | refine vc_cond ?_ | refine vc_block ?_
                 | refine vc_retc ?_ | refine vc_exit ?_ | refine vc_skip ?_ | refine vc_scope ?_ | refine vc_label ?_ | refine vc_goto ?_ | refine vc_wkSl0 | refine vc_wkHp0 | refine vc_eqAVs0 | refine vc_preG0
                 | refine vc_wkSl ?_ ?_ | refine vc_wkHp ?_ ?_ | refine vc_eqAVs ?_ ?_ | refine vc_preG ?_ ?_ | refine vc_ret [] [] ?_ | refine vc_weakf [] ?_ ?_ ?_ | refine vc_side0 ?_ | refine vc_and ?_ ?_)
          | ((with_reducible first | refine vc_caseD (fun h => ?_) (fun h => ?_) | refine vc_caseN (fun h => ?_) (fun h => ?_)) <;> try (exfalso; omega))
          | ((with_reducible refine vc_case (fun h => ?_) (fun h => ?_)) <;> (try simp at h) <;> try (exfalso; omega))))
  all_goals (try simp only [List.drop_zero, List.take_length, rstep])
  all_goals (try rw [rdiv (by omega)])
  all_goals first
    | rfl
    | exact ⟨rfl, hn⟩
    | omega
    | decide
    | exact fun h => by cases h
    | skip
  all_goals
    obtain ⟨acc, m⟩ := x
    obtain ⟨h1, h2⟩ := hI
    simp only at h1 h2 h ⊢
    have hroom : Room (numB n).length 1 := by unfold Room; omega
    have hlen := congrArg List.length h1
    simp only [List.length_append, List.length_map] at hlen
    rcases Nat.lt_or_ge m 128 with hm | hm
    rotate_left
    · have hm : ¬ m < 128 := by omega
      have hns := numB_step (xs := []) hm h1
      have hlen2 := congrArg List.length hns
      simp only [List.length_append, List.length_map, List.length_nil] at hlen2
      first
      | (exfalso; omega)
      | exact ⟨hns, by omega⟩
      | refine ⟨⟨by simp, trivial, room_le hroom rfl ?_⟩, fun y hy => ?_⟩
        · simp only [List.length_append]; omega
        · simp only [List.mem_singleton] at hy; subst hy; rfl
    · rw [numB_small hm] at h1
      first
      | (exfalso; omega)
      | (rw [low8 hm]; exact h1)
      | (rw [low8 hm]; exact congrArg List.length h1)
      | exact ⟨Nat.le_of_eq (Nat.zero_add _), trivial⟩
      | (rw [low8 hm]; exact congrArg D.sl h1)
      | (rw [low8 hm]; refine ⟨⟨by simp, trivial, room_le hroom rfl (Nat.le_of_eq ((congrArg List.length h1).trans (List.length_map _)))⟩, fun y hy => ?_⟩
         simp only [List.mem_singleton] at hy; subst hy; rfl)

theorem refNs_ok (vs : List Nat) (hv : ∀ v, v ∈ vs → v < 2 ^ 64) (hl : vs.length < 2 ^ 62) (hroom : Room (encN vs).length 1) :
    LocalCall Try.prog 36 [.d (.sl (vs.map nD))] [] [] (one [.d (.sl ((encN vs).map byteD))]) [] := by
  have lx : (vs.map nD).length = vs.length := List.length_map _
  have hlt : ∀ i, i < vs.length → vs.getD i 0 < 2 ^ 64 := fun i hi => by
    rw [List.getD_eq_getElem?_getD, List.getElem?_eq_getElem hi]; exact hv _ (List.getElem_mem hi)
  have hnum : ∀ i, i < vs.length → LocalCall Try.prog 15 [.d ((vs.map nD).getD i .nilp)] [] [] (one [.d (.sl ((numB (vs.getD i 0)).map byteD))]) [] := fun i hi => by
    rw [(map_at (f := nD) (d := 0) hi).1]
    exact rNum_ok _ (vs.getD i 0) rfl (hlt i hi)
  have hR : ∀ i, i < vs.length → Room ((numB vs.length ++ numsB (vs.take i)).map byteD ++ (numB (vs.getD i 0)).map byteD).length 1 := fun i hi => by
    refine room_le hroom rfl ?_
    have h2 := congrArg List.length (numsB_take vs hi)
    have h3 := numsB_sub vs (i + 1)
    simp only [encN, List.length_append, List.length_map] at h2 ⊢
    omega
  refine vc_fn mixed Try.func36 rfl rfl [] (vc_chk rfl) ?_
  repeat' (first
      | ((with_reducible refine vc_chk ?_); first | decide +kernel | rfl)
      | (with_reducible refine vc_side0 ?_; rfl)
      | (with_reducible first
           | refine vc_callU (rNum_own _ vs.length (by rw [lx, wrapU64_id (by omega) (by omega)]) (by omega)) ?_ ?_
              | refine vc_loopI 23 (fun (i : Nat) => [(0, .d (.sl (vs.map nD))), (3, .sl 2 [] 1 0 ((numB vs.length ++ numsB (vs.take i)).map byteD).length), (4, .d (.int .i64 (i : Int)))]) (fun i => [(2, .row 1 ((numB vs.length ++ numsB (vs.take i)).map byteD))]) (fun i => vs.length - i) (fun i => i ≤ vs.length) 0 [] ?_ ?_ ?_ ?_ ?_ (fun i hI => ?_)
              | refine vc_call [] (hnum i (by omega)) ?_ | refine vc_nextI (i + 1) [(2, 6024)] ?_ ?_ ?_ ?_ ?_ ?_ | refine vc_ret [true] [] ?_ | refine vc_true ?_ | refine vc_true2 ?_ | refine vc_side ?_ ?_ | refine vc_triv
              | refine vc_later ?_ | refine vc_caseT ?_ | refine vc_caseF ?_ | refine vc_cons ?_ | refine vc_nil ?_ ?_ | refine vc_seq ?_ | refine vc_region ?_ | refine vc_cond ?_ | refine vc_block ?_ | refine vc_retc ?_
              | refine vc_exit ?_ | refine vc_skip ?_ | refine vc_scope ?_ | refine vc_label ?_ | refine vc_goto ?_ | refine vc_wkSl0 | refine vc_wkHp0 | refine vc_eqAVs0 | refine vc_preG0 | refine vc_wkSl ?_ ?_
              | refine vc_wkHp ?_ ?_ | refine vc_eqAVs ?_ ?_ | refine vc_preG ?_ ?_ | refine vc_ret [] [] ?_ | refine vc_weakf [] ?_ ?_ ?_ | refine vc_side0 ?_ | refine vc_and ?_ ?_)
      | ((with_reducible first | refine vc_caseD (fun h => ?_) (fun h => ?_) | refine vc_caseN (fun h => ?_) (fun h => ?_)) <;> try (exfalso; omega))
      | ((with_reducible refine vc_case (fun h => ?_) (fun h => ?_)) <;> (try simp at h) <;> try (exfalso; omega))
      | (conv in Vc _ => arg 1; whnf
         first
          | (with_reducible refine vc_side0 ?_; rfl)
          | (with_reducible first
              | refine vc_callU (rNum_own _ vs.length (by rw [lx, wrapU64_id (by omega) (by omega)]) (by omega)) ?_ ?_
                 | refine vc_loopI 23 (fun (i : Nat) => [(0, .d (.sl (vs.map nD))), (3, .sl 2 [] 1 0 ((numB vs.length ++ numsB (vs.take i)).map byteD).length), (4, .d (.int .i64 (i : Int)))]) (fun i => [(2, .row 1 ((numB vs.length ++ numsB (vs.take i)).map byteD))]) (fun i => vs.length - i) (fun i => i ≤ vs.length) 0 [] ?_ ?_ ?_ ?_ ?_ (fun i hI => ?_)
                 | refine vc_call [] (hnum i (by omega)) ?_ | refine vc_nextI (i + 1) [(2, 6024)] ?_ ?_ ?_ ?_ ?_ ?_ | refine vc_ret [true] [] ?_ | refine vc_true ?_ | refine vc_true2 ?_ | refine vc_side ?_ ?_ | refine vc_triv
                 | refine vc_later ?_ | refine vc_caseT ?_ | refine vc_caseF ?_ | refine vc_cons ?_ | refine vc_nil ?_ ?_ | refine vc_seq ?_ | refine vc_region ?_ | refine vc_cond ?_ | refine vc_block ?_ | refine vc_retc ?_
                 | refine vc_exit ?_ | refine vc_skip ?_ | refine vc_scope ?_ | refine vc_label ?_ | refine vc_goto ?_ | refine vc_wkSl0 | refine vc_wkHp0 | refine vc_eqAVs0 | refine vc_preG0 | refine vc_wkSl ?_ ?_
                 | refine vc_wkHp ?_ ?_ | refine vc_eqAVs ?_ ?_ | refine vc_preG ?_ ?_ | refine vc_ret [] [] ?_ | refine vc_weakf [] ?_ ?_ ?_ | refine vc_side0 ?_ | refine vc_and ?_ ?_)
          | ((with_reducible first | refine vc_caseD (fun h => ?_) (fun h => ?_) | refine vc_caseN (fun h => ?_) (fun h => ?_)) <;> try (exfalso; omega))
          | ((with_reducible refine vc_case (fun h => ?_) (fun h => ?_)) <;> (try simp at h) <;> try (exfalso; omega))))
  all_goals first
    | rfl
    | omega
    | (simp [numsB]; done)
    | (rw [Int.toNat_natCast, (map_at (f := nD) (d := 0) (show i < vs.length by omega)).1]; first | rfl | exact ⟨⟨by omega, by omega⟩, rfl⟩)
    | exact ⟨⟨trivial, trivial, hR i (by omega)⟩, size_bytes _⟩
    | exact ⟨⟨trivial, rfl, hR i (by omega)⟩, size_bytes _⟩
    | (rw [← List.map_append, List.append_assoc, numsB_take vs (by omega)]; done)
    | (congr 1; rw [wrap64_id (by omega) (by omega)]; omega)
    | (obtain rfl : i = vs.length := by omega
       exact ⟨Nat.le_of_eq (Nat.zero_add _), trivial⟩)
    | (obtain rfl : i = vs.length := by omega
       rw [List.drop_zero, List.take_length, List.take_length]; rfl)

theorem rText_b (t : List UInt8) (hroom : Room (textB t).length 1) : LocalCall Try.prog 16 [.d (.sl (t.map byteD))] [] [] (one [.d (.sl ((textB t).map byteD))]) [] := by
  have h := rText_ok (t.map byteD) (size_bytes t) (by rw [List.length_map]; simpa [textB] using hroom)
  rw [List.length_map, ← List.map_append] at h
  exact h

theorem refTs_ok (vs : List (List UInt8)) (hl : vs.length < 2 ^ 62) (hroom : Room (encT vs).length 1) :
    LocalCall Try.prog 37 [.d (.sl (vs.map tD))] [] [] (one [.d (.sl ((encT vs).map byteD))]) [] := by
  have lx : (vs.map tD).length = vs.length := List.length_map _
  have hR : ∀ i, i < vs.length → Room ((numB vs.length ++ textsB (vs.take i)).map byteD ++ (textB (vs.getD i [])).map byteD).length 1 := fun i hi => by
    refine room_le hroom rfl ?_
    have h2 := congrArg List.length (textsB_take vs hi)
    have h3 := textsB_sub vs (i + 1)
    simp only [encT, List.length_append, List.length_map] at h2 ⊢
    omega
  have hnum : ∀ i, i < vs.length → LocalCall Try.prog 16 [.d ((vs.map tD).getD i .nilp)] [] [] (one [.d (.sl ((textB (vs.getD i [])).map byteD))]) [] := fun i hi => by
    rw [(map_at (f := tD) (d := []) hi).1]
    refine rText_b _ (room_le (hR i hi) rfl ?_)
    simp only [List.length_append, List.length_map]; omega
  refine vc_fn mixed Try.func37 rfl rfl [] (vc_chk rfl) ?_
  repeat' (first
      | ((with_reducible refine vc_chk ?_); first | decide +kernel | rfl)
      | (with_reducible refine vc_side0 ?_; rfl)
      | (with_reducible first
           | refine vc_callU (rNum_own _ vs.length (by rw [lx, wrapU64_id (by omega) (by omega)]) (by omega)) ?_ ?_
              | refine vc_loopI 23 (fun (i : Nat) => [(0, .d (.sl (vs.map tD))), (3, .sl 2 [] 1 0 ((numB vs.length ++ textsB (vs.take i)).map byteD).length), (4, .d (.int .i64 (i : Int)))]) (fun i => [(2, .row 1 ((numB vs.length ++ textsB (vs.take i)).map byteD))]) (fun i => vs.length - i) (fun i => i ≤ vs.length) 0 [] ?_ ?_ ?_ ?_ ?_ (fun i hI => ?_)
              | refine vc_call [] (hnum i (by omega)) ?_ | refine vc_nextI (i + 1) [(2, 6024)] ?_ ?_ ?_ ?_ ?_ ?_ | refine vc_ret [true] [] ?_ | refine vc_true ?_ | refine vc_true2 ?_ | refine vc_side ?_ ?_ | refine vc_triv
              | refine vc_later ?_ | refine vc_caseT ?_ | refine vc_caseF ?_ | refine vc_cons ?_ | refine vc_nil ?_ ?_ | refine vc_seq ?_ | refine vc_region ?_ | refine vc_cond ?_ | refine vc_block ?_ | refine vc_retc ?_
              | refine vc_exit ?_ | refine vc_skip ?_ | refine vc_scope ?_ | refine vc_label ?_ | refine vc_goto ?_ | refine vc_wkSl0 | refine vc_wkHp0 | refine vc_eqAVs0 | refine vc_preG0 | refine vc_wkSl ?_ ?_
              | refine vc_wkHp ?_ ?_ | refine vc_eqAVs ?_ ?_ | refine vc_preG ?_ ?_ | refine vc_ret [] [] ?_ | refine vc_weakf [] ?_ ?_ ?_ | refine vc_side0 ?_ | refine vc_and ?_ ?_)
      | ((with_reducible first | refine vc_caseD (fun h => ?_) (fun h => ?_) | refine vc_caseN (fun h => ?_) (fun h => ?_)) <;> try (exfalso; omega))
      | ((with_reducible refine vc_case (fun h => ?_) (fun h => ?_)) <;> (try simp at h) <;> try (exfalso; omega))
      | (conv in Vc _ => arg 1; whnf
         first
          | (with_reducible refine vc_side0 ?_; rfl)
          | (with_reducible first
              | refine vc_callU (rNum_own _ vs.length (by rw [lx, wrapU64_id (by omega) (by omega)]) (by omega)) ?_ ?_
                 | refine vc_loopI 23 (fun (i : Nat) => [(0, .d (.sl (vs.map tD))), (3, .sl 2 [] 1 0 ((numB vs.length ++ textsB (vs.take i)).map byteD).length), (4, .d (.int .i64 (i : Int)))]) (fun i => [(2, .row 1 ((numB vs.length ++ textsB (vs.take i)).map byteD))]) (fun i => vs.length - i) (fun i => i ≤ vs.length) 0 [] ?_ ?_ ?_ ?_ ?_ (fun i hI => ?_)
                 | refine vc_call [] (hnum i (by omega)) ?_ | refine vc_nextI (i + 1) [(2, 6024)] ?_ ?_ ?_ ?_ ?_ ?_ | refine vc_ret [true] [] ?_ | refine vc_true ?_ | refine vc_true2 ?_ | refine vc_side ?_ ?_ | refine vc_triv
                 | refine vc_later ?_ | refine vc_caseT ?_ | refine vc_caseF ?_ | refine vc_cons ?_ | refine vc_nil ?_ ?_ | refine vc_seq ?_ | refine vc_region ?_ | refine vc_cond ?_ | refine vc_block ?_ | refine vc_retc ?_
                 | refine vc_exit ?_ | refine vc_skip ?_ | refine vc_scope ?_ | refine vc_label ?_ | refine vc_goto ?_ | refine vc_wkSl0 | refine vc_wkHp0 | refine vc_eqAVs0 | refine vc_preG0 | refine vc_wkSl ?_ ?_
                 | refine vc_wkHp ?_ ?_ | refine vc_eqAVs ?_ ?_ | refine vc_preG ?_ ?_ | refine vc_ret [] [] ?_ | refine vc_weakf [] ?_ ?_ ?_ | refine vc_side0 ?_ | refine vc_and ?_ ?_)
          | ((with_reducible first | refine vc_caseD (fun h => ?_) (fun h => ?_) | refine vc_caseN (fun h => ?_) (fun h => ?_)) <;> try (exfalso; omega))
          | ((with_reducible refine vc_case (fun h => ?_) (fun h => ?_)) <;> (try simp at h) <;> try (exfalso; omega))))
  all_goals first
    | rfl
    | omega
    | (simp [textsB]; done)
    | (rw [Int.toNat_natCast, (map_at (f := tD) (d := []) (show i < vs.length by omega)).1]; first | rfl | exact ⟨⟨by omega, by omega⟩, rfl⟩)
    | exact ⟨⟨trivial, trivial, hR i (by omega)⟩, size_bytes _⟩
    | exact ⟨⟨trivial, rfl, hR i (by omega)⟩, size_bytes _⟩
    | (rw [← List.map_append, List.append_assoc, textsB_take vs (by omega)]; done)
    | (congr 1; rw [wrap64_id (by omega) (by omega)]; omega)
    | (obtain rfl : i = vs.length := by omega
       exact ⟨Nat.le_of_eq (Nat.zero_add _), trivial⟩)
    | (obtain rfl : i = vs.length := by omega
       rw [List.drop_zero, List.take_length, List.take_length]; rfl)

theorem nums_any (vs : List Nat) (hv : ∀ v, v ∈ vs → v < 2 ^ 64) (hroom : Room (encN vs).length 1) :
    LocalCall Try.prog 28 [.d (.sl (vs.map nD))] [] [] (one [.d (.sl ((encN vs).map byteD))]) [] := nums_ok _ vs rfl hv hroom

theorem texts_any (vs : List (List UInt8)) (hroom : Room (encT vs).length 1) :
    LocalCall Try.prog 30 [.d (.sl (vs.map tD))] [] [] (one [.d (.sl ((encT vs).map byteD))]) [] := texts_ok _ vs rfl hroom

theorem same_b (a b : List UInt8) : LocalCall Try.prog 13 [.d (.sl (a.map byteD)), .d (.sl (b.map byteD))] [] [] (one [.d (.bool (decide (a = b)))]) [] := same_ok _ _ a b rfl rfl

theorem joinD_texts : ∀ ts : List (List UInt8), joinD (ts.map tD) = ts.flatten.map byteD
  | [] => rfl
  | t :: ts => by
    have := joinD_texts ts
    simp only [joinD, List.map_cons, List.flatMap_cons, List.flatten_cons, List.map_append] at this ⊢
    rw [this]; rfl

theorem join_b (ts : List (List UInt8)) (hl : ts.length < 2 ^ 62) (hroom : Room ts.flatten.length 1) : LocalCall Try.prog 14 [.d (.sl (ts.map tD))] [] [] (one [.d (.sl (ts.flatten.map byteD))]) [] := by
  have := join_ok (ts.map tD) (fun y hy => by obtain ⟨t, _, rfl⟩ := List.mem_map.1 hy; exact ⟨_, rfl⟩) (by rw [List.length_map]; exact hl) (by rw [joinD_texts]; exact size_bytes _) (by rw [joinD_texts, List.length_map]; exact hroom)
  rw [joinD_texts] at this
  exact this

end Go.Proofs.Ythedcaopedbpdaa

/-
Readings of lists of numbers and of texts.
-/
namespace Go.Proofs.Ythedcaopedbpdaa
open Go.Sym

theorem u64s_of {n : Nat} : ∀ (xs : List D), (∀ y, y ∈ xs → okD Try.prog (n + 1) 23 y) → ∃ vs : List Nat, xs = vs.map nD ∧ ∀ v, v ∈ vs → v < 2 ^ 64
  | [], _ => ⟨[], rfl, nofun⟩
  | x :: xs, h => by
    obtain ⟨c, rfl, hc⟩ := u64_of (h x (by simp))
    obtain ⟨bs, rfl, hb⟩ := u64s_of xs fun y hy => h y (by simp [hy])
    refine ⟨c :: bs, rfl, fun v hv => ?_⟩
    rcases List.mem_cons.1 hv with rfl | hv
    · exact hc
    · exact hb v hv

theorem nums_of {n : Nat} {x : D} (h : okD Try.prog (n + 2) 48 x) : ∃ vs : List Nat, x = .sl (vs.map nD) ∧ ∀ v, v ∈ vs → v < 2 ^ 64 := by
  have hu : Try.prog.underlying 48 = some (.slice 23) := rfl
  rw [show n + 2 = (n + 1) + 1 from rfl, okD, hu] at h
  obtain ⟨xs, rfl, _, hx⟩ := h
  obtain ⟨vs, rfl, hv⟩ := u64s_of (n := n) xs hx
  exact ⟨vs, rfl, hv⟩

theorem sls_of {n : Nat} : ∀ (xs : List D), (∀ y, y ∈ xs → okD Try.prog (n + 2) 22 y) → ∃ vs : List (List UInt8), xs = vs.map tD
  | [], _ => ⟨[], rfl⟩
  | x :: xs, h => by
    obtain ⟨c, rfl⟩ := sl_of (h x (by simp))
    obtain ⟨bs, rfl⟩ := sls_of xs fun y hy => h y (by simp [hy])
    exact ⟨c :: bs, rfl⟩

theorem texts_of {n : Nat} {x : D} (h : okD Try.prog (n + 3) 32 x) : ∃ vs : List (List UInt8), x = .sl (vs.map tD) := by
  have hu : Try.prog.underlying 32 = some (.slice 22) := rfl
  rw [show n + 3 = (n + 2) + 1 from rfl, okD, hu] at h
  obtain ⟨xs, rfl, _, hx⟩ := h
  obtain ⟨vs, rfl⟩ := sls_of (n := n) xs hx
  exact ⟨vs, rfl⟩

theorem u16_of {n : Nat} {x : D} (h : okD Try.prog (n + 1) 59 x) : ∃ c : Nat, x = .int .u16 (c : Int) ∧ c < 65536 := by
  have hu : Try.prog.underlying 59 = some (.int .u16) := rfl
  simp only [okD, hu] at h
  obtain ⟨m, rfl, hw⟩ := h
  simp only [Lit.wf, Bool.and_eq_true, decide_eq_true_eq] at hw
  rw [show IntKind.u16.min = 0 from rfl, show IntKind.u16.max = 65535 from rfl] at hw
  exact ⟨m.toNat, by rw [Int.toNat_of_nonneg hw.1], by omega⟩

theorem bulk_texts : ∀ ts : List (List UInt8), ts.length + ts.flatten.length ≤ D.bulks (ts.map tD)
  | [] => by simp [D.bulks]
  | t :: ts => by
    have h1 := bulk_texts ts
    have h2 := bulks_len (t.map byteD)
    simp only [List.map_cons, D.bulks, D.bulk, tD, List.length_cons, List.flatten_cons, List.length_append, List.length_map] at h1 h2 ⊢
    omega

end Go.Proofs.Ythedcaopedbpdaa

/-
What the laws CodecReads, CodecOne return.
-/
namespace Go.Proofs.Ythedcaopedbpdaa
open Go.Sym
set_option maxRecDepth 10000
set_option maxHeartbeats 1000000

theorem codecReads_main (b : List UInt8) (hb : b.length ≤ 2 ^ 21) :
    LocalCall Try.prog 6 [.d (.sl (b.map byteD))] [] [] (one [.d (.bool true)]) [] := by
  have l1 := rdNums_len b
  have l2 := rdTexts_len b
  refine vc_fn mixed Try.func6 rfl rfl [] (vc_chk rfl) ?_
  repeat' (first
      | ((with_reducible refine vc_chk ?_); first | decide +kernel | rfl)
      | (with_reducible refine vc_side0 ?_; rfl)
      | (with_reducible first
           | refine vc_true ?_ | refine vc_true2 ?_ | refine vc_side ?_ ?_ | refine vc_triv | refine vc_later ?_ | refine vc_caseT ?_ | refine vc_caseF ?_ | refine vc_cons ?_ | refine vc_nil ?_ ?_ | refine vc_seq ?_
              | refine vc_region ?_ | refine vc_cond ?_ | refine vc_block ?_ | refine vc_retc ?_ | refine vc_exit ?_ | refine vc_skip ?_ | refine vc_scope ?_ | refine vc_label ?_ | refine vc_goto ?_ | refine vc_wkSl0
              | refine vc_wkHp0 | refine vc_eqAVs0 | refine vc_preG0 | refine vc_wkSl ?_ ?_ | refine vc_wkHp ?_ ?_ | refine vc_eqAVs ?_ ?_ | refine vc_preG ?_ ?_ | refine vc_weakf [] ?_ ?_ ?_ | refine vc_side0 ?_
              | refine vc_and ?_ ?_ | refine vc_pure (rNums_any b (by omega)) ?_ ?_ ?_ | refine vc_pure (refNums_any b (by omega)) ?_ ?_ ?_ | refine vc_pure (rTexts_any b (by omega)) ?_ ?_ ?_
              | refine vc_pure (refTexts_any b (by omega)) ?_ ?_ ?_ | refine vc_pure (sameNums_ok _ _ (by omega)) ?_ ?_ ?_ | refine vc_pure (sameTexts_ok _ _ (by omega)) ?_ ?_ ?_ | refine vc_pure works_ok ?_ ?_ ?_
              | refine vc_ret [] [] ?_)
      | ((with_reducible first | refine vc_caseD (fun h => ?_) (fun h => ?_) | refine vc_caseN (fun h => ?_) (fun h => ?_)) <;> try (exfalso; omega))
      | ((with_reducible refine vc_case (fun h => ?_) (fun h => ?_)) <;> (try simp at h) <;> try (exfalso; omega))
      | (conv in Vc _ => arg 1; whnf
         first
          | (with_reducible refine vc_side0 ?_; rfl)
          | (with_reducible first
              | refine vc_true ?_ | refine vc_true2 ?_ | refine vc_side ?_ ?_ | refine vc_triv | refine vc_later ?_ | refine vc_caseT ?_ | refine vc_caseF ?_ | refine vc_cons ?_ | refine vc_nil ?_ ?_ | refine vc_seq ?_
                 | refine vc_region ?_ | refine vc_cond ?_ | refine vc_block ?_ | refine vc_retc ?_ | refine vc_exit ?_ | refine vc_skip ?_ | refine vc_scope ?_ | refine vc_label ?_ | refine vc_goto ?_ | refine vc_wkSl0
                 | refine vc_wkHp0 | refine vc_eqAVs0 | refine vc_preG0 | refine vc_wkSl ?_ ?_ | refine vc_wkHp ?_ ?_ | refine vc_eqAVs ?_ ?_ | refine vc_preG ?_ ?_ | refine vc_weakf [] ?_ ?_ ?_ | refine vc_side0 ?_
                 | refine vc_and ?_ ?_ | refine vc_pure (rNums_any b (by omega)) ?_ ?_ ?_ | refine vc_pure (refNums_any b (by omega)) ?_ ?_ ?_ | refine vc_pure (rTexts_any b (by omega)) ?_ ?_ ?_
                 | refine vc_pure (refTexts_any b (by omega)) ?_ ?_ ?_ | refine vc_pure (sameNums_ok _ _ (by omega)) ?_ ?_ ?_ | refine vc_pure (sameTexts_ok _ _ (by omega)) ?_ ?_ ?_ | refine vc_pure works_ok ?_ ?_ ?_
                 | refine vc_ret [] [] ?_)
          | ((with_reducible first | refine vc_caseD (fun h => ?_) (fun h => ?_) | refine vc_caseN (fun h => ?_) (fun h => ?_)) <;> try (exfalso; omega))
          | ((with_reducible refine vc_case (fun h => ?_) (fun h => ?_)) <;> (try simp at h) <;> try (exfalso; omega))))
  all_goals first
    | rfl
    | (exfalso; simp at h; done)

theorem codecOne_main (b : List UInt8) (hb : b.length ≤ 2 ^ 21) :
    LocalCall Try.prog 8 [.d (.sl (b.map byteD))] [] [] (one [.d (.bool true)]) [] := by
  have hR : ∀ {k : Nat}, k ≤ 2 ^ 23 → Room k 1 := fun {k} h => by unfold Room; omega
  have h1 : ∀ vs, rdNums b = some vs → LocalCall Try.prog 28 [.d (.sl ((vs).map nD))] [] [] (one [.d (.sl (b.map byteD))]) [] := fun vs h => by
    obtain ⟨e, _, hv⟩ := rdNums_iff.1 h
    have := nums_any vs hv (by rw [← e]; exact hR (by omega))
    rw [← e] at this
    exact this
  have h2 : ∀ vs, rdTexts b = some vs → LocalCall Try.prog 30 [.d (.sl ((vs).map tD))] [] [] (one [.d (.sl (b.map byteD))]) [] := fun vs h => by
    obtain ⟨e, _, hv⟩ := rdTexts_iff.1 h
    have := texts_any vs (by rw [← e]; exact hR (by omega))
    rw [← e] at this
    exact this
  have h3 := rNums_any b (by omega)
  have h4 := rTexts_any b (by omega)
  refine vc_fn mixed Try.func8 rfl rfl [] (vc_chk rfl) ?_
  cases ho : rdNums b with
  | none =>
    rw [ho] at h3
    simp only [Option.getD_none, errI_none] at h3
    cases ho2 : rdTexts b with
    | none =>
      rw [ho2] at h4
      simp only [Option.getD_none, errI_none] at h4
      repeat' (first
          | ((with_reducible refine vc_chk ?_); first | decide +kernel | rfl)
          | (with_reducible refine vc_side0 ?_; rfl)
          | (with_reducible first
               | refine vc_true ?_ | refine vc_true2 ?_ | refine vc_side ?_ ?_ | refine vc_triv | refine vc_later ?_ | refine vc_caseT ?_ | refine vc_caseF ?_ | refine vc_cons ?_ | refine vc_nil ?_ ?_ | refine vc_seq ?_
                  | refine vc_region ?_ | refine vc_cond ?_ | refine vc_block ?_ | refine vc_retc ?_ | refine vc_exit ?_ | refine vc_skip ?_ | refine vc_scope ?_ | refine vc_label ?_ | refine vc_goto ?_ | refine vc_wkSl0
                  | refine vc_wkHp0 | refine vc_eqAVs0 | refine vc_preG0 | refine vc_wkSl ?_ ?_ | refine vc_wkHp ?_ ?_ | refine vc_eqAVs ?_ ?_ | refine vc_preG ?_ ?_ | refine vc_weakf [] ?_ ?_ ?_ | refine vc_side0 ?_
                  | refine vc_and ?_ ?_ | refine vc_pure h3 ?_ ?_ ?_ | refine vc_pure h4 ?_ ?_ ?_ | refine vc_pure works_ok ?_ ?_ ?_ | refine vc_ret [] [] ?_)
          | ((with_reducible first | refine vc_caseD (fun h => ?_) (fun h => ?_) | refine vc_caseN (fun h => ?_) (fun h => ?_)) <;> try (exfalso; omega))
          | ((with_reducible refine vc_case (fun h => ?_) (fun h => ?_)) <;> (try simp at h) <;> try (exfalso; omega))
          | (conv in Vc _ => arg 1; whnf
             first
              | (with_reducible refine vc_side0 ?_; rfl)
              | (with_reducible first
                  | refine vc_true ?_ | refine vc_true2 ?_ | refine vc_side ?_ ?_ | refine vc_triv | refine vc_later ?_ | refine vc_caseT ?_ | refine vc_caseF ?_ | refine vc_cons ?_ | refine vc_nil ?_ ?_ | refine vc_seq ?_
                     | refine vc_region ?_ | refine vc_cond ?_ | refine vc_block ?_ | refine vc_retc ?_ | refine vc_exit ?_ | refine vc_skip ?_ | refine vc_scope ?_ | refine vc_label ?_ | refine vc_goto ?_ | refine vc_wkSl0
                     | refine vc_wkHp0 | refine vc_eqAVs0 | refine vc_preG0 | refine vc_wkSl ?_ ?_ | refine vc_wkHp ?_ ?_ | refine vc_eqAVs ?_ ?_ | refine vc_preG ?_ ?_ | refine vc_weakf [] ?_ ?_ ?_ | refine vc_side0 ?_
                     | refine vc_and ?_ ?_ | refine vc_pure h3 ?_ ?_ ?_ | refine vc_pure h4 ?_ ?_ ?_ | refine vc_pure works_ok ?_ ?_ ?_ | refine vc_ret [] [] ?_)
              | ((with_reducible first | refine vc_caseD (fun h => ?_) (fun h => ?_) | refine vc_caseN (fun h => ?_) (fun h => ?_)) <;> try (exfalso; omega))
              | ((with_reducible refine vc_case (fun h => ?_) (fun h => ?_)) <;> (try simp at h) <;> try (exfalso; omega))))
      all_goals first
        | rfl
        | (exfalso; simp [errI] at h; done)
    | some ws =>
      rw [ho2] at h4
      simp only [Option.getD_some, errI_some] at h4
      repeat' (first
          | ((with_reducible refine vc_chk ?_); first | decide +kernel | rfl)
          | (with_reducible refine vc_side0 ?_; rfl)
          | (with_reducible first
               | refine vc_true ?_ | refine vc_true2 ?_ | refine vc_side ?_ ?_ | refine vc_triv | refine vc_later ?_ | refine vc_caseT ?_ | refine vc_caseF ?_ | refine vc_cons ?_ | refine vc_nil ?_ ?_ | refine vc_seq ?_
                  | refine vc_region ?_ | refine vc_cond ?_ | refine vc_block ?_ | refine vc_retc ?_ | refine vc_exit ?_ | refine vc_skip ?_ | refine vc_scope ?_ | refine vc_label ?_ | refine vc_goto ?_ | refine vc_wkSl0
                  | refine vc_wkHp0 | refine vc_eqAVs0 | refine vc_preG0 | refine vc_wkSl ?_ ?_ | refine vc_wkHp ?_ ?_ | refine vc_eqAVs ?_ ?_ | refine vc_preG ?_ ?_ | refine vc_weakf [] ?_ ?_ ?_ | refine vc_side0 ?_
                  | refine vc_and ?_ ?_ | refine vc_pure h3 ?_ ?_ ?_ | refine vc_pure h4 ?_ ?_ ?_ | refine vc_pure (h2 ws ho2) ?_ ?_ ?_ | refine vc_pure (same_b b b) ?_ ?_ ?_ | refine vc_pure works_ok ?_ ?_ ?_
                  | refine vc_ret [] [] ?_)
          | ((with_reducible first | refine vc_caseD (fun h => ?_) (fun h => ?_) | refine vc_caseN (fun h => ?_) (fun h => ?_)) <;> try (exfalso; omega))
          | ((with_reducible refine vc_case (fun h => ?_) (fun h => ?_)) <;> (try simp at h) <;> try (exfalso; omega))
          | (conv in Vc _ => arg 1; whnf
             first
              | (with_reducible refine vc_side0 ?_; rfl)
              | (with_reducible first
                  | refine vc_true ?_ | refine vc_true2 ?_ | refine vc_side ?_ ?_ | refine vc_triv | refine vc_later ?_ | refine vc_caseT ?_ | refine vc_caseF ?_ | refine vc_cons ?_ | refine vc_nil ?_ ?_ | refine vc_seq ?_
                     | refine vc_region ?_ | refine vc_cond ?_ | refine vc_block ?_ | refine vc_retc ?_ | refine vc_exit ?_ | refine vc_skip ?_ | refine vc_scope ?_ | refine vc_label ?_ | refine vc_goto ?_ | refine vc_wkSl0
                     | refine vc_wkHp0 | refine vc_eqAVs0 | refine vc_preG0 | refine vc_wkSl ?_ ?_ | refine vc_wkHp ?_ ?_ | refine vc_eqAVs ?_ ?_ | refine vc_preG ?_ ?_ | refine vc_weakf [] ?_ ?_ ?_ | refine vc_side0 ?_
                     | refine vc_and ?_ ?_ | refine vc_pure h3 ?_ ?_ ?_ | refine vc_pure h4 ?_ ?_ ?_ | refine vc_pure (h2 ws ho2) ?_ ?_ ?_ | refine vc_pure (same_b b b) ?_ ?_ ?_ | refine vc_pure works_ok ?_ ?_ ?_
                     | refine vc_ret [] [] ?_)
              | ((with_reducible first | refine vc_caseD (fun h => ?_) (fun h => ?_) | refine vc_caseN (fun h => ?_) (fun h => ?_)) <;> try (exfalso; omega))
              | ((with_reducible refine vc_case (fun h => ?_) (fun h => ?_)) <;> (try simp at h) <;> try (exfalso; omega))))
      all_goals first
        | rfl
        | (exfalso; simp [errI] at h; done)
  | some vs =>
    rw [ho] at h3
    simp only [Option.getD_some, errI_some] at h3
    cases ho2 : rdTexts b with
    | none =>
      rw [ho2] at h4
      simp only [Option.getD_none, errI_none] at h4
      repeat' (first
          | ((with_reducible refine vc_chk ?_); first | decide +kernel | rfl)
          | (with_reducible refine vc_side0 ?_; rfl)
          | (with_reducible first
               | refine vc_true ?_ | refine vc_true2 ?_ | refine vc_side ?_ ?_ | refine vc_triv | refine vc_later ?_ | refine vc_caseT ?_ | refine vc_caseF ?_ | refine vc_cons ?_ | refine vc_nil ?_ ?_ | refine vc_seq ?_
                  | refine vc_region ?_ | refine vc_cond ?_ | refine vc_block ?_ | refine vc_retc ?_ | refine vc_exit ?_ | refine vc_skip ?_ | refine vc_scope ?_ | refine vc_label ?_ | refine vc_goto ?_ | refine vc_wkSl0
                  | refine vc_wkHp0 | refine vc_eqAVs0 | refine vc_preG0 | refine vc_wkSl ?_ ?_ | refine vc_wkHp ?_ ?_ | refine vc_eqAVs ?_ ?_ | refine vc_preG ?_ ?_ | refine vc_weakf [] ?_ ?_ ?_ | refine vc_side0 ?_
                  | refine vc_and ?_ ?_ | refine vc_pure h3 ?_ ?_ ?_ | refine vc_pure h4 ?_ ?_ ?_ | refine vc_pure (h1 vs ho) ?_ ?_ ?_ | refine vc_pure (same_b b b) ?_ ?_ ?_ | refine vc_pure works_ok ?_ ?_ ?_
                  | refine vc_ret [] [] ?_)
          | ((with_reducible first | refine vc_caseD (fun h => ?_) (fun h => ?_) | refine vc_caseN (fun h => ?_) (fun h => ?_)) <;> try (exfalso; omega))
          | ((with_reducible refine vc_case (fun h => ?_) (fun h => ?_)) <;> (try simp at h) <;> try (exfalso; omega))
          | (conv in Vc _ => arg 1; whnf
             first
              | (with_reducible refine vc_side0 ?_; rfl)
              | (with_reducible first
                  | refine vc_true ?_ | refine vc_true2 ?_ | refine vc_side ?_ ?_ | refine vc_triv | refine vc_later ?_ | refine vc_caseT ?_ | refine vc_caseF ?_ | refine vc_cons ?_ | refine vc_nil ?_ ?_ | refine vc_seq ?_
                     | refine vc_region ?_ | refine vc_cond ?_ | refine vc_block ?_ | refine vc_retc ?_ | refine vc_exit ?_ | refine vc_skip ?_ | refine vc_scope ?_ | refine vc_label ?_ | refine vc_goto ?_ | refine vc_wkSl0
                     | refine vc_wkHp0 | refine vc_eqAVs0 | refine vc_preG0 | refine vc_wkSl ?_ ?_ | refine vc_wkHp ?_ ?_ | refine vc_eqAVs ?_ ?_ | refine vc_preG ?_ ?_ | refine vc_weakf [] ?_ ?_ ?_ | refine vc_side0 ?_
                     | refine vc_and ?_ ?_ | refine vc_pure h3 ?_ ?_ ?_ | refine vc_pure h4 ?_ ?_ ?_ | refine vc_pure (h1 vs ho) ?_ ?_ ?_ | refine vc_pure (same_b b b) ?_ ?_ ?_ | refine vc_pure works_ok ?_ ?_ ?_
                     | refine vc_ret [] [] ?_)
              | ((with_reducible first | refine vc_caseD (fun h => ?_) (fun h => ?_) | refine vc_caseN (fun h => ?_) (fun h => ?_)) <;> try (exfalso; omega))
              | ((with_reducible refine vc_case (fun h => ?_) (fun h => ?_)) <;> (try simp at h) <;> try (exfalso; omega))))
      all_goals first
        | rfl
        | (exfalso; simp [errI] at h; done)
    | some ws =>
      rw [ho2] at h4
      simp only [Option.getD_some, errI_some] at h4
      repeat' (first
          | ((with_reducible refine vc_chk ?_); first | decide +kernel | rfl)
          | (with_reducible refine vc_side0 ?_; rfl)
          | (with_reducible first
               | refine vc_true ?_ | refine vc_true2 ?_ | refine vc_side ?_ ?_ | refine vc_triv | refine vc_later ?_ | refine vc_caseT ?_ | refine vc_caseF ?_ | refine vc_cons ?_ | refine vc_nil ?_ ?_ | refine vc_seq ?_
                  | refine vc_region ?_ | refine vc_cond ?_ | refine vc_block ?_ | refine vc_retc ?_ | refine vc_exit ?_ | refine vc_skip ?_ | refine vc_scope ?_ | refine vc_label ?_ | refine vc_goto ?_ | refine vc_wkSl0
                  | refine vc_wkHp0 | refine vc_eqAVs0 | refine vc_preG0 | refine vc_wkSl ?_ ?_ | refine vc_wkHp ?_ ?_ | refine vc_eqAVs ?_ ?_ | refine vc_preG ?_ ?_ | refine vc_weakf [] ?_ ?_ ?_ | refine vc_side0 ?_
                  | refine vc_and ?_ ?_ | refine vc_pure h3 ?_ ?_ ?_ | refine vc_pure h4 ?_ ?_ ?_ | refine vc_pure (h1 vs ho) ?_ ?_ ?_ | refine vc_pure (h2 ws ho2) ?_ ?_ ?_ | refine vc_pure (same_b b b) ?_ ?_ ?_
                  | refine vc_pure works_ok ?_ ?_ ?_ | refine vc_ret [] [] ?_)
          | ((with_reducible first | refine vc_caseD (fun h => ?_) (fun h => ?_) | refine vc_caseN (fun h => ?_) (fun h => ?_)) <;> try (exfalso; omega))
          | ((with_reducible refine vc_case (fun h => ?_) (fun h => ?_)) <;> (try simp at h) <;> try (exfalso; omega))
          | (conv in Vc _ => arg 1; whnf
             first
              | (with_reducible refine vc_side0 ?_; rfl)
              | (with_reducible first
                  | refine vc_true ?_ | refine vc_true2 ?_ | refine vc_side ?_ ?_ | refine vc_triv | refine vc_later ?_ | refine vc_caseT ?_ | refine vc_caseF ?_ | refine vc_cons ?_ | refine vc_nil ?_ ?_ | refine vc_seq ?_
                     | refine vc_region ?_ | refine vc_cond ?_ | refine vc_block ?_ | refine vc_retc ?_ | refine vc_exit ?_ | refine vc_skip ?_ | refine vc_scope ?_ | refine vc_label ?_ | refine vc_goto ?_ | refine vc_wkSl0
                     | refine vc_wkHp0 | refine vc_eqAVs0 | refine vc_preG0 | refine vc_wkSl ?_ ?_ | refine vc_wkHp ?_ ?_ | refine vc_eqAVs ?_ ?_ | refine vc_preG ?_ ?_ | refine vc_weakf [] ?_ ?_ ?_ | refine vc_side0 ?_
                     | refine vc_and ?_ ?_ | refine vc_pure h3 ?_ ?_ ?_ | refine vc_pure h4 ?_ ?_ ?_ | refine vc_pure (h1 vs ho) ?_ ?_ ?_ | refine vc_pure (h2 ws ho2) ?_ ?_ ?_ | refine vc_pure (same_b b b) ?_ ?_ ?_
                     | refine vc_pure works_ok ?_ ?_ ?_ | refine vc_ret [] [] ?_)
              | ((with_reducible first | refine vc_caseD (fun h => ?_) (fun h => ?_) | refine vc_caseN (fun h => ?_) (fun h => ?_)) <;> try (exfalso; omega))
              | ((with_reducible refine vc_case (fun h => ?_) (fun h => ?_)) <;> (try simp at h) <;> try (exfalso; omega))))
      all_goals first
        | rfl
        | (exfalso; simp [errI] at h; done)

end Go.Proofs.Ythedcaopedbpdaa

/-
What the laws CodecBack, CodecApart, CodecCuts return.
-/
namespace Go.Proofs.Ythedcaopedbpdaa
open Go.Sym
set_option maxRecDepth 10000
set_option maxHeartbeats 8000000

theorem room23 {k j : Nat} (hj : j = 1) (h : k ≤ 2 ^ 26) : Room k j := by subst hj; unfold Room; omega

theorem mem_flatten_len {α : Type} {t : List α} : ∀ {ts : List (List α)}, t ∈ ts → t.length ≤ ts.flatten.length
  | x :: xs, h => by
    rw [List.flatten_cons, List.length_append]
    rcases List.mem_cons.1 h with rfl | h
    · omega
    · have := mem_flatten_len h; omega

theorem back_nums (l : List Nat) (hl : ∀ v, v ∈ l → v < 2 ^ 64) (h : l.length ≤ 4096) : LocalCall Try.prog 32 [.d (.sl ((encN l).map byteD))] [] [] (one [.d (.sl (l.map nD)), .d (.int .i64 0)]) [] := by
  have h1 := encN_len hl (by omega)
  have := rNums_any (encN l) (by omega)
  rw [rdNums_iff.2 ⟨rfl, h, hl⟩] at this
  exact this

theorem back_texts (t : List (List UInt8)) (hl : t.flatten.length ≤ 1048576) (h : t.length ≤ 4096) : LocalCall Try.prog 34 [.d (.sl ((encT t).map byteD))] [] [] (one [.d (.sl (t.map tD)), .d (.int .i64 0)]) [] := by
  have hm : ∀ v, v ∈ t → v.length ≤ 1048576 := fun v hv => Nat.le_trans (mem_flatten_len hv) hl
  have h1 := encT_len (fun v hv => Nat.lt_of_le_of_lt (hm v hv) (by omega)) (show t.length < 2 ^ 64 by omega)
  have := rTexts_any (encT t) (by omega)
  rw [rdTexts_iff.2 ⟨rfl, h, hm⟩] at this
  exact this

theorem same_yes (a : List UInt8) : LocalCall Try.prog 13 [.d (.sl (a.map byteD)), .d (.sl (a.map byteD))] [] [] (one [.d (.bool true)]) [] := by
  have := same_b a a
  rwa [decide_eq_true rfl] at this

theorem codecBack_main (l : List Nat) (t : List (List UInt8)) (hl : ∀ v, v ∈ l → v < 2 ^ 64) (h1 : l.length ≤ 2 ^ 21) (h2 : t.length ≤ 2 ^ 21) (h3 : t.flatten.length ≤ 2 ^ 21) :
    LocalCall Try.prog 7 [.d (.sl (l.map nD)), .d (.sl (t.map tD))] [] [] (one [.d (.bool true)]) [] := by
  have lx : (l.map nD).length = l.length := List.length_map _
  have lt : (t.map tD).length = t.length := List.length_map _
  have lf : (t.flatten.map byteD).length = t.flatten.length := List.length_map _
  have g1 := encN_len hl (by omega)
  have g2 := encT_len (vs := t) (fun v hv => Nat.lt_of_le_of_lt (mem_flatten_len hv) (by omega)) (by omega)
  have s1 : LocalCall Try.prog 29 [.d (.sl (l.map nD)), .d (.sl (l.map nD))] [] [] (one [.d (.bool true)]) [] := by
    have := sameNums_ok l l (by omega)
    rwa [decide_eq_true rfl] at this
  have s2 : LocalCall Try.prog 31 [.d (.sl (t.map tD)), .d (.sl (t.map tD))] [] [] (one [.d (.bool true)]) [] := by
    have := sameTexts_ok t t (by omega)
    rwa [decide_eq_true rfl] at this
  refine vc_fn mixed Try.func7 rfl rfl [] (vc_chk rfl) ?_
  repeat' (first
      | ((with_reducible refine vc_chk ?_); first | decide +kernel | rfl)
      | (with_reducible refine vc_side0 ?_; rfl)
      | (with_reducible first
           | refine vc_true ?_ | refine vc_true2 ?_ | refine vc_side ?_ ?_ | refine vc_triv | refine vc_later ?_ | refine vc_caseT ?_ | refine vc_caseF ?_ | refine vc_cons ?_ | refine vc_nil ?_ ?_ | refine vc_seq ?_
              | refine vc_region ?_ | refine vc_cond ?_ | refine vc_block ?_ | refine vc_retc ?_ | refine vc_exit ?_ | refine vc_skip ?_ | refine vc_scope ?_ | refine vc_label ?_ | refine vc_goto ?_ | refine vc_wkSl0
              | refine vc_wkHp0 | refine vc_eqAVs0 | refine vc_preG0 | refine vc_wkSl ?_ ?_ | refine vc_wkHp ?_ ?_ | refine vc_eqAVs ?_ ?_ | refine vc_preG ?_ ?_ | refine vc_weakf [] ?_ ?_ ?_ | refine vc_side0 ?_
              | refine vc_and ?_ ?_ | refine vc_pure (join_b t (by omega) (room23 rfl (by omega))) ?_ ?_ ?_ | refine vc_pure (nums_any l hl (room23 rfl (by omega))) ?_ ?_ ?_
              | refine vc_pure (texts_any t (room23 rfl (by omega))) ?_ ?_ ?_ | refine vc_pure (back_nums l hl (by omega)) ?_ ?_ ?_ | refine vc_pure (back_texts t (by omega) (by omega)) ?_ ?_ ?_ | refine vc_pure s1 ?_ ?_ ?_
              | refine vc_pure s2 ?_ ?_ ?_ | refine vc_pure (refNs_ok l hl (by omega) (room23 rfl (by omega))) ?_ ?_ ?_ | refine vc_pure (refTs_ok t (by omega) (room23 rfl (by omega))) ?_ ?_ ?_
              | refine vc_pure (same_yes _) ?_ ?_ ?_ | refine vc_pure works_ok ?_ ?_ ?_ | refine vc_ret [] [] ?_)
      | ((with_reducible first | refine vc_caseD (fun h => ?_) (fun h => ?_) | refine vc_caseN (fun h => ?_) (fun h => ?_)) <;> try (exfalso; omega))
      | ((with_reducible refine vc_case (fun h => ?_) (fun h => ?_)) <;> (try simp only [Bool.cond_true_left, Bool.cond_false_right, Bool.cond_true_right, Bool.cond_false_left, Bool.and_eq_true, Bool.or_eq_true, Bool.and_eq_false_iff, Bool.or_eq_false_iff, Bool.not_eq_true', Bool.not_eq_false', Bool.not_eq_true, Bool.not_eq_false, Bool.not_not, decide_eq_true_eq, decide_eq_false_iff_not, beq_iff_eq, beq_eq_false_iff_ne, bne_iff_ne, bne_eq_false_iff_eq, ne_eq, Classical.not_not] at h) <;> try (exfalso; first | omega | (simp at h; done)))
      | (conv in Vc _ => arg 1; whnf
         first
          | (with_reducible refine vc_side0 ?_; rfl)
          | (with_reducible first
              | refine vc_true ?_ | refine vc_true2 ?_ | refine vc_side ?_ ?_ | refine vc_triv | refine vc_later ?_ | refine vc_caseT ?_ | refine vc_caseF ?_ | refine vc_cons ?_ | refine vc_nil ?_ ?_ | refine vc_seq ?_
                 | refine vc_region ?_ | refine vc_cond ?_ | refine vc_block ?_ | refine vc_retc ?_ | refine vc_exit ?_ | refine vc_skip ?_ | refine vc_scope ?_ | refine vc_label ?_ | refine vc_goto ?_ | refine vc_wkSl0
                 | refine vc_wkHp0 | refine vc_eqAVs0 | refine vc_preG0 | refine vc_wkSl ?_ ?_ | refine vc_wkHp ?_ ?_ | refine vc_eqAVs ?_ ?_ | refine vc_preG ?_ ?_ | refine vc_weakf [] ?_ ?_ ?_ | refine vc_side0 ?_
                 | refine vc_and ?_ ?_ | refine vc_pure (join_b t (by omega) (room23 rfl (by omega))) ?_ ?_ ?_ | refine vc_pure (nums_any l hl (room23 rfl (by omega))) ?_ ?_ ?_
                 | refine vc_pure (texts_any t (room23 rfl (by omega))) ?_ ?_ ?_ | refine vc_pure (back_nums l hl (by omega)) ?_ ?_ ?_ | refine vc_pure (back_texts t (by omega) (by omega)) ?_ ?_ ?_ | refine vc_pure s1 ?_ ?_ ?_
                 | refine vc_pure s2 ?_ ?_ ?_ | refine vc_pure (refNs_ok l hl (by omega) (room23 rfl (by omega))) ?_ ?_ ?_ | refine vc_pure (refTs_ok t (by omega) (room23 rfl (by omega))) ?_ ?_ ?_
                 | refine vc_pure (same_yes _) ?_ ?_ ?_ | refine vc_pure works_ok ?_ ?_ ?_ | refine vc_ret [] [] ?_)
          | ((with_reducible first | refine vc_caseD (fun h => ?_) (fun h => ?_) | refine vc_caseN (fun h => ?_) (fun h => ?_)) <;> try (exfalso; omega))
          | ((with_reducible refine vc_case (fun h => ?_) (fun h => ?_)) <;> (try simp only [Bool.cond_true_left, Bool.cond_false_right, Bool.cond_true_right, Bool.cond_false_left, Bool.and_eq_true, Bool.or_eq_true, Bool.and_eq_false_iff, Bool.or_eq_false_iff, Bool.not_eq_true', Bool.not_eq_false', Bool.not_eq_true, Bool.not_eq_false, Bool.not_not, decide_eq_true_eq, decide_eq_false_iff_not, beq_iff_eq, beq_eq_false_iff_ne, bne_iff_ne, bne_eq_false_iff_eq, ne_eq, Classical.not_not] at h) <;> try (exfalso; first | omega | (simp at h; done)))))
  all_goals rfl

theorem decide_swap (p q : Prop) [Decidable p] [Decidable q] (h : p ↔ q) : decide p = decide q := by
  by_cases hp : p
  · rw [decide_eq_true hp, decide_eq_true (h.1 hp)]
  · rw [decide_eq_false hp, decide_eq_false (fun hq => hp (h.2 hq))]

theorem encN_eq (a b : List Nat) : encN a = encN b ↔ a = b := ⟨fun h => (encN_code (u := []) (v := []) (by rw [h])).1, fun h => by rw [h]⟩
theorem encT_eq (a b : List (List UInt8)) : encT a = encT b ↔ a = b := ⟨fun h => (encT_code (u := []) (v := []) (by rw [h])).1, fun h => by rw [h]⟩

theorem encN_pre {a b : List Nat} (h : (encN a).length < (encN b).length) : ¬ encN a = (encN b).take (encN a).length := fun e => by
  have : encN a ++ (encN b).drop (encN a).length = encN b ++ [] := by
    conv => lhs; arg 1; rw [e]
    rw [List.take_append_drop, List.append_nil]
  obtain ⟨rfl, _⟩ := encN_code this
  omega

theorem encT_pre {a b : List (List UInt8)} (h : (encT a).length < (encT b).length) : ¬ encT a = (encT b).take (encT a).length := fun e => by
  have : encT a ++ (encT b).drop (encT a).length = encT b ++ [] := by
    conv => lhs; arg 1; rw [e]
    rw [List.take_append_drop, List.append_nil]
  obtain ⟨rfl, _⟩ := encT_code this
  omega

theorem same_cut (a b : List UInt8) (x : List D) (h : a.length < b.length) (hp : ¬ a = b.take a.length) (hx : x = cutD (b.map byteD) 0 ((a.map byteD).length : Int)) : LocalCall Try.prog 13 [.d (.sl (a.map byteD)), .d (.sl x)] [] [] (one [.d (.bool false)]) [] := by
  have e : x = (b.take a.length).map byteD := by
    rw [hx]; unfold cutD
    rw [List.length_map, Int.toNat_natCast, ← List.map_take]; rfl
  have := same_b a (b.take a.length)
  rw [decide_eq_false hp] at this
  rw [e]
  exact this

theorem codecApart_main (a b : List Nat) (s t : List (List UInt8)) (ha : ∀ v, v ∈ a → v < 2 ^ 64) (hb : ∀ v, v ∈ b → v < 2 ^ 64) (a1 : a.length ≤ 2 ^ 21) (b1 : b.length ≤ 2 ^ 21) (s1 : s.length ≤ 2 ^ 21) (s2 : s.flatten.length ≤ 2 ^ 21) (t1 : t.length ≤ 2 ^ 21) (t2 : t.flatten.length ≤ 2 ^ 21) :
    LocalCall Try.prog 5 [.d (.sl (a.map nD)), .d (.sl (b.map nD)), .d (.sl (s.map tD)), .d (.sl (t.map tD))] [] [] (one [.d (.bool true)]) [] := by
  have g1 := encN_len ha (by omega)
  have g2 := encN_len hb (by omega)
  have g3 := encT_len (vs := s) (fun v hv => Nat.lt_of_le_of_lt (mem_flatten_len hv) (by omega)) (by omega)
  have g4 := encT_len (vs := t) (fun v hv => Nat.lt_of_le_of_lt (mem_flatten_len hv) (by omega)) (by omega)
  have q1 := same_b (encN a) (encN b)
  have q2 := same_b (encT s) (encT t)
  rw [decide_swap _ _ (encN_eq a b)] at q1
  rw [decide_swap _ _ (encT_eq s t)] at q2
  have lx : ((encN a).map byteD).length = (encN a).length := List.length_map _
  have ly : ((encN b).map byteD).length = (encN b).length := List.length_map _
  have lz : ((encT s).map byteD).length = (encT s).length := List.length_map _
  have lw : ((encT t).map byteD).length = (encT t).length := List.length_map _
  refine vc_fn mixed Try.func5 rfl rfl [] (vc_chk rfl) ?_
  repeat' (first
      | ((with_reducible refine vc_chk ?_); first | decide +kernel | rfl)
      | (with_reducible refine vc_side0 ?_; rfl)
      | (with_reducible first
           | refine vc_true ?_ | refine vc_true2 ?_ | refine vc_side ?_ ?_ | refine vc_triv | refine vc_later ?_ | refine vc_caseT ?_ | refine vc_caseF ?_ | refine vc_cons ?_ | refine vc_nil ?_ ?_ | refine vc_seq ?_
              | refine vc_region ?_ | refine vc_cond ?_ | refine vc_block ?_ | refine vc_retc ?_ | refine vc_exit ?_ | refine vc_skip ?_ | refine vc_scope ?_ | refine vc_label ?_ | refine vc_goto ?_ | refine vc_wkSl0
              | refine vc_wkHp0 | refine vc_eqAVs0 | refine vc_preG0 | refine vc_wkSl ?_ ?_ | refine vc_wkHp ?_ ?_ | refine vc_eqAVs ?_ ?_ | refine vc_preG ?_ ?_ | refine vc_weakf [] ?_ ?_ ?_ | refine vc_side0 ?_
              | refine vc_and ?_ ?_ | refine vc_pure (nums_any a ha (room23 rfl (by omega))) ?_ ?_ ?_ | refine vc_pure (nums_any b hb (room23 rfl (by omega))) ?_ ?_ ?_
              | refine vc_pure (texts_any s (room23 rfl (by omega))) ?_ ?_ ?_ | refine vc_pure (texts_any t (room23 rfl (by omega))) ?_ ?_ ?_ | refine vc_pure q1 ?_ ?_ ?_ | refine vc_pure q2 ?_ ?_ ?_
              | refine vc_pure (sameNums_ok a b (by omega)) ?_ ?_ ?_ | refine vc_pure (sameTexts_ok s t (by omega)) ?_ ?_ ?_ | refine vc_pure (same_cut (encN a) (encN b) _ (by omega) (encN_pre (by omega)) rfl) ?_ ?_ ?_
              | refine vc_pure (same_cut (encT s) (encT t) _ (by omega) (encT_pre (by omega)) rfl) ?_ ?_ ?_ | refine vc_pure works_ok ?_ ?_ ?_ | refine vc_ret [] [] ?_)
      | ((with_reducible first | refine vc_caseD (fun h => ?_) (fun h => ?_) | refine vc_caseN (fun h => ?_) (fun h => ?_)) <;> try (exfalso; omega))
      | ((with_reducible refine vc_case (fun h => ?_) (fun h => ?_)) <;> (try simp only [Bool.cond_true_left, Bool.cond_false_right, Bool.cond_true_right, Bool.cond_false_left, Bool.and_eq_true, Bool.or_eq_true, Bool.and_eq_false_iff, Bool.or_eq_false_iff, Bool.not_eq_true', Bool.not_eq_false', Bool.not_eq_true, Bool.not_eq_false, Bool.not_not, decide_eq_true_eq, decide_eq_false_iff_not, beq_iff_eq, beq_eq_false_iff_ne, bne_iff_ne, bne_eq_false_iff_eq, ne_eq, Classical.not_not] at h) <;> try (exfalso; first | omega | (simp at h; done)))
      | (conv in Vc _ => arg 1; whnf
         first
          | (with_reducible refine vc_side0 ?_; rfl)
          | (with_reducible first
              | refine vc_true ?_ | refine vc_true2 ?_ | refine vc_side ?_ ?_ | refine vc_triv | refine vc_later ?_ | refine vc_caseT ?_ | refine vc_caseF ?_ | refine vc_cons ?_ | refine vc_nil ?_ ?_ | refine vc_seq ?_
                 | refine vc_region ?_ | refine vc_cond ?_ | refine vc_block ?_ | refine vc_retc ?_ | refine vc_exit ?_ | refine vc_skip ?_ | refine vc_scope ?_ | refine vc_label ?_ | refine vc_goto ?_ | refine vc_wkSl0
                 | refine vc_wkHp0 | refine vc_eqAVs0 | refine vc_preG0 | refine vc_wkSl ?_ ?_ | refine vc_wkHp ?_ ?_ | refine vc_eqAVs ?_ ?_ | refine vc_preG ?_ ?_ | refine vc_weakf [] ?_ ?_ ?_ | refine vc_side0 ?_
                 | refine vc_and ?_ ?_ | refine vc_pure (nums_any a ha (room23 rfl (by omega))) ?_ ?_ ?_ | refine vc_pure (nums_any b hb (room23 rfl (by omega))) ?_ ?_ ?_
                 | refine vc_pure (texts_any s (room23 rfl (by omega))) ?_ ?_ ?_ | refine vc_pure (texts_any t (room23 rfl (by omega))) ?_ ?_ ?_ | refine vc_pure q1 ?_ ?_ ?_ | refine vc_pure q2 ?_ ?_ ?_
                 | refine vc_pure (sameNums_ok a b (by omega)) ?_ ?_ ?_ | refine vc_pure (sameTexts_ok s t (by omega)) ?_ ?_ ?_ | refine vc_pure (same_cut (encN a) (encN b) _ (by omega) (encN_pre (by omega)) rfl) ?_ ?_ ?_
                 | refine vc_pure (same_cut (encT s) (encT t) _ (by omega) (encT_pre (by omega)) rfl) ?_ ?_ ?_ | refine vc_pure works_ok ?_ ?_ ?_ | refine vc_ret [] [] ?_)
          | ((with_reducible first | refine vc_caseD (fun h => ?_) (fun h => ?_) | refine vc_caseN (fun h => ?_) (fun h => ?_)) <;> try (exfalso; omega))
          | ((with_reducible refine vc_case (fun h => ?_) (fun h => ?_)) <;> (try simp only [Bool.cond_true_left, Bool.cond_false_right, Bool.cond_true_right, Bool.cond_false_left, Bool.and_eq_true, Bool.or_eq_true, Bool.and_eq_false_iff, Bool.or_eq_false_iff, Bool.not_eq_true', Bool.not_eq_false', Bool.not_eq_true, Bool.not_eq_false, Bool.not_not, decide_eq_true_eq, decide_eq_false_iff_not, beq_iff_eq, beq_eq_false_iff_ne, bne_iff_ne, bne_eq_false_iff_eq, ne_eq, Classical.not_not] at h) <;> try (exfalso; first | omega | (simp at h; done)))))
  all_goals first
    | rfl
    | exact ⟨⟨by omega, by omega, by omega⟩, size_bytes _⟩
    | skip

end Go.Proofs.Ythedcaopedbpdaa

/-
What the law CodecCuts returns.
-/
namespace Go.Proofs.Ythedcaopedbpdaa
open Go.Sym
set_option maxRecDepth 10000
set_option maxHeartbeats 8000000

theorem cutN_none (l : List Nat) {m : Nat} (h : m < (encN l).length) : rdNums ((encN l).take m) = none := by
  cases hr : rdNums ((encN l).take m) with
  | none => rfl
  | some vs =>
    exfalso
    obtain ⟨e, _⟩ := rdNums_iff.1 hr
    have : encN vs ++ (encN l).drop m = encN l ++ [] := by rw [← e, List.take_append_drop, List.append_nil]
    have h2 := congrArg List.length (encN_code this).2
    rw [List.length_drop] at h2
    simp at h2; omega

theorem cutT_none (l : List (List UInt8)) {m : Nat} (h : m < (encT l).length) : rdTexts ((encT l).take m) = none := by
  cases hr : rdTexts ((encT l).take m) with
  | none => rfl
  | some vs =>
    exfalso
    obtain ⟨e, _⟩ := rdTexts_iff.1 hr
    have : encT vs ++ (encT l).drop m = encT l ++ [] := by rw [← e, List.take_append_drop, List.append_nil]
    have h2 := congrArg List.length (encT_code this).2
    rw [List.length_drop] at h2
    simp at h2; omega

theorem moreN_none (l : List Nat) (c : UInt8) : rdNums (encN l ++ [c]) = none := by
  cases hr : rdNums (encN l ++ [c]) with
  | none => rfl
  | some vs =>
    exfalso
    obtain ⟨e, _⟩ := rdNums_iff.1 hr
    have : encN l ++ [c] = encN vs ++ [] := by rw [e, List.append_nil]
    cases (encN_code this).2

theorem moreT_none (l : List (List UInt8)) (c : UInt8) : rdTexts (encT l ++ [c]) = none := by
  cases hr : rdTexts (encT l ++ [c]) with
  | none => rfl
  | some vs =>
    exfalso
    obtain ⟨e, _⟩ := rdTexts_iff.1 hr
    have : encT l ++ [c] = encT vs ++ [] := by rw [e, List.append_nil]
    cases (encT_code this).2

theorem nums_none (bs : List UInt8) (x : List D) (hx : x = bs.map byteD) (h : rdNums bs = none) (hl : bs.length < 2 ^ 62) :
    LocalCall Try.prog 32 [.d (.sl x)] [] [] (one [.d (.sl []), .d (.int .i64 3)]) [] := by
  subst hx
  have := rNums_any bs hl
  rw [h] at this
  exact this

theorem texts_none (bs : List UInt8) (x : List D) (hx : x = bs.map byteD) (h : rdTexts bs = none) (hl : bs.length < 2 ^ 62) :
    LocalCall Try.prog 34 [.d (.sl x)] [] [] (one [.d (.sl []), .d (.int .i64 3)]) [] := by
  subst hx
  have := rTexts_any bs hl
  rw [h] at this
  exact this

theorem cut_at (e : List UInt8) (c : Nat) (hc : c < 65536) (h0 : 0 < e.length) : cutD (e.map byteD) 0 ((IntKind.i64.wrap (c : Int)).tmod ((e.map byteD).length : Int)) = (e.take (c % e.length)).map byteD := by
  rw [wrap64_id (by omega) (by omega), List.length_map, Int.tmod_eq_emod_of_nonneg (by omega)]
  have : ((c : Int) % (e.length : Int)).toNat = c % e.length := by omega
  unfold cutD
  rw [this, List.map_take]; rfl

theorem encN_pos (l : List Nat) : 0 < (encN l).length := by
  have := numB_pos l.length
  unfold encN; rw [List.length_append]; omega
theorem encT_pos (l : List (List UInt8)) : 0 < (encT l).length := by
  have := numB_pos l.length
  unfold encT; rw [List.length_append]; omega

theorem codecCuts_main (l : List Nat) (t : List (List UInt8)) (cut : Nat) (more : UInt8) (hl : ∀ v, v ∈ l → v < 2 ^ 64) (h1 : l.length ≤ 2 ^ 21) (h2 : t.length ≤ 2 ^ 21) (h3 : t.flatten.length ≤ 2 ^ 21) (hc : cut < 65536) :
    LocalCall Try.prog 9 [.d (.sl (l.map nD)), .d (.sl (t.map tD)), .d (.int .u16 (cut : Int)), .d (byteD more)] [] [] (one [.d (.bool true)]) [] := by
  have lx : (l.map nD).length = l.length := List.length_map _
  have lt : (t.map tD).length = t.length := List.length_map _
  have lf : (t.flatten.map byteD).length = t.flatten.length := List.length_map _
  have ln : ((encN l).map byteD).length = (encN l).length := List.length_map _
  have le : ((encT t).map byteD).length = (encT t).length := List.length_map _
  have p1 := encN_pos l
  have p2 := encT_pos t
  have g1 := encN_len hl (by omega)
  have g2 := encT_len (vs := t) (fun v hv => Nat.lt_of_le_of_lt (mem_flatten_len hv) (by omega)) (by omega)
  have m1 : cut % (encN l).length < (encN l).length := Nat.mod_lt _ p1
  have m2 : cut % (encT t).length < (encT t).length := Nat.mod_lt _ p2
  have t1 : (IntKind.i64.wrap (cut : Int)).tmod (((encN l).map byteD).length : Int) = ((cut % (encN l).length : Nat) : Int) := by
    rw [wrap64_id (by omega) (by omega), ln, Int.tmod_eq_emod_of_nonneg (by omega)]; omega
  have t2 : (IntKind.i64.wrap (cut : Int)).tmod (((encT t).map byteD).length : Int) = ((cut % (encT t).length : Nat) : Int) := by
    rw [wrap64_id (by omega) (by omega), le, Int.tmod_eq_emod_of_nonneg (by omega)]; omega
  have c1 := nums_none _ _ (cut_at (encN l) cut hc p1) (cutN_none l m1) (by rw [List.length_take]; omega)
  have c2 := texts_none _ _ (cut_at (encT t) cut hc p2) (cutT_none t m2) (by rw [List.length_take]; omega)
  have c3 := nums_none (encN l ++ [more]) ([] ++ (encN l).map byteD ++ [byteD more]) (by simp) (moreN_none l more) (by simp; omega)
  have c4 := texts_none (encT t ++ [more]) ([] ++ (encT t).map byteD ++ [byteD more]) (by simp) (moreT_none t more) (by simp; omega)
  have c5 := nums_any l hl (room23 rfl (by omega))
  have c6 := texts_any t (room23 rfl (by omega))
  have c7 := join_b t (by omega) (room23 rfl (by omega))
  refine vc_fn mixed Try.func9 rfl rfl [] (vc_chk rfl) ?_
  repeat' (first
      | ((with_reducible refine vc_chk ?_); first | decide +kernel | rfl)
      | (with_reducible refine vc_side0 ?_; rfl)
      | (with_reducible first
           | refine vc_true ?_ | refine vc_true2 ?_ | refine vc_side ?_ ?_ | refine vc_triv | refine vc_later ?_ | refine vc_caseT ?_ | refine vc_caseF ?_ | refine vc_cons ?_ | refine vc_nil ?_ ?_ | refine vc_seq ?_
              | refine vc_region ?_ | refine vc_cond ?_ | refine vc_block ?_ | refine vc_retc ?_ | refine vc_exit ?_ | refine vc_skip ?_ | refine vc_scope ?_ | refine vc_label ?_ | refine vc_goto ?_ | refine vc_wkSl0
              | refine vc_wkHp0 | refine vc_eqAVs0 | refine vc_preG0 | refine vc_wkSl ?_ ?_ | refine vc_wkHp ?_ ?_ | refine vc_eqAVs ?_ ?_ | refine vc_preG ?_ ?_ | refine vc_weakf [] ?_ ?_ ?_ | refine vc_side0 ?_
              | refine vc_and ?_ ?_ | refine vc_pure c7 ?_ ?_ ?_ | refine vc_pure c5 ?_ ?_ ?_ | refine vc_pure c6 ?_ ?_ ?_ | refine vc_pure c1 ?_ ?_ ?_ | refine vc_pure c2 ?_ ?_ ?_ | refine vc_call [true] c3 ?_
              | refine vc_call [true] c4 ?_ | refine vc_pure works_ok ?_ ?_ ?_
              | refine vc_loopI 85 (fun (k : Nat) => [(0, .d (.sl (l.map nD))), (1, .d (.sl (t.map tD))), (2, .d (.int .u16 (cut : Int))), (3, .d (byteD more)), (9, .d (.int .i64 (k : Int)))]) (fun k => []) (fun k => 2 - k) (fun k => k ≤ 2) 0 [] ?_ ?_ ?_ ?_ ?_ (fun k hI => ?_)
              | refine vc_nextI (k + 1) [] ?_ ?_ ?_ ?_ ?_ ?_ | refine vc_ret [] [] ?_)
      | ((with_reducible first | refine vc_caseD (fun h => ?_) (fun h => ?_) | refine vc_caseN (fun h => ?_) (fun h => ?_)) <;> try (exfalso; omega))
      | ((with_reducible refine vc_case (fun h => ?_) (fun h => ?_)) <;> (try simp only [Bool.cond_true_left, Bool.cond_false_right, Bool.cond_true_right, Bool.cond_false_left, Bool.and_eq_true, Bool.or_eq_true, Bool.and_eq_false_iff, Bool.or_eq_false_iff, Bool.not_eq_true', Bool.not_eq_false', Bool.not_eq_true, Bool.not_eq_false, Bool.not_not, decide_eq_true_eq, decide_eq_false_iff_not, beq_iff_eq, beq_eq_false_iff_ne, bne_iff_ne, bne_eq_false_iff_eq, ne_eq, Classical.not_not] at h) <;> try (exfalso; first | omega | (simp at h; done)))
      | (conv in Vc _ => arg 1; whnf
         first
          | (with_reducible refine vc_side0 ?_; rfl)
          | (with_reducible first
              | refine vc_true ?_ | refine vc_true2 ?_ | refine vc_side ?_ ?_ | refine vc_triv | refine vc_later ?_ | refine vc_caseT ?_ | refine vc_caseF ?_ | refine vc_cons ?_ | refine vc_nil ?_ ?_ | refine vc_seq ?_
                 | refine vc_region ?_ | refine vc_cond ?_ | refine vc_block ?_ | refine vc_retc ?_ | refine vc_exit ?_ | refine vc_skip ?_ | refine vc_scope ?_ | refine vc_label ?_ | refine vc_goto ?_ | refine vc_wkSl0
                 | refine vc_wkHp0 | refine vc_eqAVs0 | refine vc_preG0 | refine vc_wkSl ?_ ?_ | refine vc_wkHp ?_ ?_ | refine vc_eqAVs ?_ ?_ | refine vc_preG ?_ ?_ | refine vc_weakf [] ?_ ?_ ?_ | refine vc_side0 ?_
                 | refine vc_and ?_ ?_ | refine vc_pure c7 ?_ ?_ ?_ | refine vc_pure c5 ?_ ?_ ?_ | refine vc_pure c6 ?_ ?_ ?_ | refine vc_pure c1 ?_ ?_ ?_ | refine vc_pure c2 ?_ ?_ ?_ | refine vc_call [true] c3 ?_
                 | refine vc_call [true] c4 ?_ | refine vc_pure works_ok ?_ ?_ ?_
                 | refine vc_loopI 85 (fun (k : Nat) => [(0, .d (.sl (l.map nD))), (1, .d (.sl (t.map tD))), (2, .d (.int .u16 (cut : Int))), (3, .d (byteD more)), (9, .d (.int .i64 (k : Int)))]) (fun k => []) (fun k => 2 - k) (fun k => k ≤ 2) 0 [] ?_ ?_ ?_ ?_ ?_ (fun k hI => ?_)
                 | refine vc_nextI (k + 1) [] ?_ ?_ ?_ ?_ ?_ ?_ | refine vc_ret [] [] ?_)
          | ((with_reducible first | refine vc_caseD (fun h => ?_) (fun h => ?_) | refine vc_caseN (fun h => ?_) (fun h => ?_)) <;> try (exfalso; omega))
          | ((with_reducible refine vc_case (fun h => ?_) (fun h => ?_)) <;> (try simp only [Bool.cond_true_left, Bool.cond_false_right, Bool.cond_true_right, Bool.cond_false_left, Bool.and_eq_true, Bool.or_eq_true, Bool.and_eq_false_iff, Bool.or_eq_false_iff, Bool.not_eq_true', Bool.not_eq_false', Bool.not_eq_true, Bool.not_eq_false, Bool.not_not, decide_eq_true_eq, decide_eq_false_iff_not, beq_iff_eq, beq_eq_false_iff_ne, bne_iff_ne, bne_eq_false_iff_eq, ne_eq, Classical.not_not] at h) <;> try (exfalso; first | omega | (simp at h; done)))))
  all_goals first
    | rfl
    | omega
    | exact Nat.zero_le _
    | (show _ ≠ _; omega)
    | (refine ⟨⟨by omega, ?_, ?_⟩, size_bytes _⟩
       · first | (rw [t1]; omega) | (rw [t2]; omega)
       · first | (rw [t1]; omega) | (rw [t2]; omega))
    | exact ⟨⟨trivial, rfl, room23 rfl (by simp; omega)⟩, size_bytes _⟩
    | (refine ⟨⟨by simp, rfl, room23 rfl (by simp; omega)⟩, fun y hy => ?_⟩
       simp only [List.drop_zero, List.take_length, List.mem_singleton] at hy; subst hy; rfl)
    | exact ⟨Nat.le_of_eq (Nat.zero_add _), trivial⟩
    | (congr 1; rw [wrap64_id (by omega) (by omega)]; omega)
    | (simp only [List.drop_zero, List.take_length]; rfl)
    | skip

end Go.Proofs.Ythedcaopedbpdaa
