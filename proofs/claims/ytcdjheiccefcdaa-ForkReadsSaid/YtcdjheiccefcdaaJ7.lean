import Derived.Test.YtcdjheiccefcdaaJ4
import Derived.Test.YtcdjheiccefcdaaJ5
import Derived.Test.YtcdjheiccefcdaaJ6
import Derived.Test.YtcdjheiccefcdaaProg
set_option linter.unusedSimpArgs false
set_option linter.unusedVariables false
/-
The reference's reader: counts, pieces, texts, digests; whether it is done.
-/
set_option linter.unusedSimpArgs false
set_option linter.unusedVariables false
namespace Go.Proofs.Ytcdjheiccefcdaa
open Go.Sym
set_option maxRecDepth 10000
set_option maxHeartbeats 1000000

def inC (bs : List UInt8) (most k : Nat) : Nat × Nat × Bool := let r := inN bs 10 k 0 0; bif r.2.2 || decide (most < r.1) then (0, r.2.1, true) else (r.1, r.2.1, false)

theorem inC_rdC (bs : List UInt8) (most k : Nat) : rdC bs (most : Int) k = optN (inC bs most k) := by
  unfold rdC inC
  rw [inN_rdN]
  rcases inN bs 10 k 0 0 with ⟨v, e, b⟩
  cases b with
  | true => rfl
  | false =>
    simp only [optN, cond_false, Bool.false_or]
    by_cases h : most < v
    · have : ¬ ((v : Int) ≤ most) := by omega
      simp [h, this]
    · have : ((v : Int) ≤ most) := by omega
      simp [h, this]

theorem inC_le (bs : List UInt8) (most k : Nat) (h : k ≤ bs.length) : (inC bs most k).2.1 ≤ bs.length := by
  have := inN_le bs 10 k 0 0 h
  unfold inC
  simp only
  cases (inN bs 10 k 0 0).2.2 || decide (most < (inN bs 10 k 0 0).1) <;> exact this

theorem inC_most (bs : List UInt8) (most k : Nat) : (inC bs most k).1 ≤ most := by
  unfold inC
  simp only
  cases h : (inN bs 10 k 0 0).2.2 || decide (most < (inN bs 10 k 0 0).1) with
  | true => exact Nat.zero_le _
  | false =>
    simp only [Bool.or_eq_false_iff, decide_eq_false_iff_not] at h
    simp only [cond_false]
    omega

theorem inCnt_bad (B : List D) (k : Nat) (most : Int) :
    LocalCall Try.prog 72 [.ptr 9 [], .d (.int .i64 most)] [(9, rIn B k true)] [] (one [.d (.int .i64 0)]) [(9, rIn B k true)] := by
  refine vc_fn mixed Try.func72 rfl rfl [] (vc_chk rfl) ?_
  repeat' (first
      | ((with_reducible refine vc_chk ?_); first | decide +kernel | rfl)
      | (with_reducible refine vc_side0 ?_; rfl)
      | (with_reducible first
           | refine vc_true ?_ | refine vc_true2 ?_ | refine vc_side ?_ ?_ | refine vc_triv | refine vc_later ?_ | refine vc_caseT ?_ | refine vc_caseF ?_ | refine vc_cons ?_ | refine vc_nil ?_ ?_ | refine vc_seq ?_
              | refine vc_region ?_ | refine vc_cond ?_ | refine vc_block ?_ | refine vc_retc ?_ | refine vc_exit ?_ | refine vc_skip ?_ | refine vc_scope ?_ | refine vc_label ?_ | refine vc_goto ?_ | refine vc_wkSl0
              | refine vc_wkHp0 | refine vc_eqAVs0 | refine vc_preG0 | refine vc_wkSl ?_ ?_ | refine vc_wkHp ?_ ?_ | refine vc_eqAVs ?_ ?_ | refine vc_preG ?_ ?_ | refine vc_side0 ?_ | refine vc_call [] (inNum_bad B k) ?_
              | refine vc_weakf [] ?_ ?_ ?_ | refine vc_and ?_ ?_ | refine vc_ret [] [] ?_)
      | ((with_reducible first | refine vc_caseD (fun h => ?_) (fun h => ?_) | refine vc_caseN (fun h => ?_) (fun h => ?_)) <;> try (exfalso; omega))
      | ((with_reducible refine vc_case (fun h => ?_) (fun h => ?_)) <;> (try simp at h) <;> try (exfalso; omega))
      | (conv in Vc _ => arg 1; whnf
         first
          | (with_reducible refine vc_side0 ?_; rfl)
          | (with_reducible first
              | refine vc_true ?_ | refine vc_true2 ?_ | refine vc_side ?_ ?_ | refine vc_triv | refine vc_later ?_ | refine vc_caseT ?_ | refine vc_caseF ?_ | refine vc_cons ?_ | refine vc_nil ?_ ?_ | refine vc_seq ?_
                 | refine vc_region ?_ | refine vc_cond ?_ | refine vc_block ?_ | refine vc_retc ?_ | refine vc_exit ?_ | refine vc_skip ?_ | refine vc_scope ?_ | refine vc_label ?_ | refine vc_goto ?_ | refine vc_wkSl0
                 | refine vc_wkHp0 | refine vc_eqAVs0 | refine vc_preG0 | refine vc_wkSl ?_ ?_ | refine vc_wkHp ?_ ?_ | refine vc_eqAVs ?_ ?_ | refine vc_preG ?_ ?_ | refine vc_side0 ?_ | refine vc_call [] (inNum_bad B k) ?_
                 | refine vc_weakf [] ?_ ?_ ?_ | refine vc_and ?_ ?_ | refine vc_ret [] [] ?_)
          | ((with_reducible first | refine vc_caseD (fun h => ?_) (fun h => ?_) | refine vc_caseN (fun h => ?_) (fun h => ?_)) <;> try (exfalso; omega))
          | ((with_reducible refine vc_case (fun h => ?_) (fun h => ?_)) <;> (try simp at h) <;> try (exfalso; omega))))
  all_goals rfl

theorem inCnt_ok (B : List D) (bs : List UInt8) (hB : B = bs.map byteD) (most k : Nat) (hm : most < 2 ^ 63) (hk : k ≤ bs.length) (hl : bs.length < 2 ^ 63) (R : Nat × Nat × Bool) (hR : inC bs most k = R) :
    LocalCall Try.prog 72 [.ptr 9 [], .d (.int .i64 (most : Int))] [(9, rIn B k false)] [] (one [.d (.int .i64 (R.1 : Int))]) [(9, rIn B R.2.1 R.2.2)] := by
  have hw : IntKind.u64.wrap (most : Int) = most := wrapU64_id (by omega) (by omega)
  unfold inC at hR
  simp only at hR
  rcases h0 : inN bs 10 k 0 0 with ⟨v, e, b⟩
  rw [h0] at hR
  have hc := inNum_ok B bs hB k hk hl _ h0
  simp only at hR hc
  refine vc_fn mixed Try.func72 rfl rfl [] (vc_chk rfl) ?_
  cases b with
  | true =>
    simp only [Bool.true_or, cond_true] at hR
    subst hR
    repeat' (first
        | ((with_reducible refine vc_chk ?_); first | decide +kernel | rfl)
        | (with_reducible refine vc_side0 ?_; rfl)
        | (with_reducible first
             | refine vc_true ?_ | refine vc_true2 ?_ | refine vc_side ?_ ?_ | refine vc_triv | refine vc_later ?_ | refine vc_caseT ?_ | refine vc_caseF ?_ | refine vc_cons ?_ | refine vc_nil ?_ ?_ | refine vc_seq ?_
                | refine vc_region ?_ | refine vc_cond ?_ | refine vc_block ?_ | refine vc_retc ?_ | refine vc_exit ?_ | refine vc_skip ?_ | refine vc_scope ?_ | refine vc_label ?_ | refine vc_goto ?_ | refine vc_wkSl0
                | refine vc_wkHp0 | refine vc_eqAVs0 | refine vc_preG0 | refine vc_wkSl ?_ ?_ | refine vc_wkHp ?_ ?_ | refine vc_eqAVs ?_ ?_ | refine vc_preG ?_ ?_ | refine vc_side0 ?_ | refine vc_call [] hc ?_
                | refine vc_weakf [] ?_ ?_ ?_ | refine vc_and ?_ ?_ | refine vc_ret [] [] ?_)
        | ((with_reducible first | refine vc_caseD (fun h => ?_) (fun h => ?_) | refine vc_caseN (fun h => ?_) (fun h => ?_)) <;> try (exfalso; omega))
        | ((with_reducible refine vc_case (fun h => ?_) (fun h => ?_)) <;> (try simp at h) <;> try (exfalso; omega))
        | (conv in Vc _ => arg 1; whnf
           first
            | (with_reducible refine vc_side0 ?_; rfl)
            | (with_reducible first
                | refine vc_true ?_ | refine vc_true2 ?_ | refine vc_side ?_ ?_ | refine vc_triv | refine vc_later ?_ | refine vc_caseT ?_ | refine vc_caseF ?_ | refine vc_cons ?_ | refine vc_nil ?_ ?_ | refine vc_seq ?_
                   | refine vc_region ?_ | refine vc_cond ?_ | refine vc_block ?_ | refine vc_retc ?_ | refine vc_exit ?_ | refine vc_skip ?_ | refine vc_scope ?_ | refine vc_label ?_ | refine vc_goto ?_ | refine vc_wkSl0
                   | refine vc_wkHp0 | refine vc_eqAVs0 | refine vc_preG0 | refine vc_wkSl ?_ ?_ | refine vc_wkHp ?_ ?_ | refine vc_eqAVs ?_ ?_ | refine vc_preG ?_ ?_ | refine vc_side0 ?_ | refine vc_call [] hc ?_
                   | refine vc_weakf [] ?_ ?_ ?_ | refine vc_and ?_ ?_ | refine vc_ret [] [] ?_)
            | ((with_reducible first | refine vc_caseD (fun h => ?_) (fun h => ?_) | refine vc_caseN (fun h => ?_) (fun h => ?_)) <;> try (exfalso; omega))
            | ((with_reducible refine vc_case (fun h => ?_) (fun h => ?_)) <;> (try simp at h) <;> try (exfalso; omega))))
    all_goals rfl
  | false =>
    simp only [Bool.false_or] at hR
    by_cases hv : most < v
    · rw [decide_eq_true hv, cond_true] at hR
      subst hR
      repeat' (first
          | ((with_reducible refine vc_chk ?_); first | decide +kernel | rfl)
          | (with_reducible refine vc_side0 ?_; rfl)
          | (with_reducible first
               | refine vc_true ?_ | refine vc_true2 ?_ | refine vc_side ?_ ?_ | refine vc_triv | refine vc_later ?_ | refine vc_caseT ?_ | refine vc_caseF ?_ | refine vc_cons ?_ | refine vc_nil ?_ ?_ | refine vc_seq ?_
                  | refine vc_region ?_ | refine vc_cond ?_ | refine vc_block ?_ | refine vc_retc ?_ | refine vc_exit ?_ | refine vc_skip ?_ | refine vc_scope ?_ | refine vc_label ?_ | refine vc_goto ?_ | refine vc_wkSl0
                  | refine vc_wkHp0 | refine vc_eqAVs0 | refine vc_preG0 | refine vc_wkSl ?_ ?_ | refine vc_wkHp ?_ ?_ | refine vc_eqAVs ?_ ?_ | refine vc_preG ?_ ?_ | refine vc_side0 ?_ | refine vc_call [] hc ?_
                  | refine vc_weakf [] ?_ ?_ ?_ | refine vc_and ?_ ?_ | refine vc_ret [] [] ?_)
          | ((with_reducible first | refine vc_caseD (fun h => ?_) (fun h => ?_) | refine vc_caseN (fun h => ?_) (fun h => ?_)) <;> try (exfalso; omega))
          | ((with_reducible refine vc_case (fun h => ?_) (fun h => ?_)) <;> (try simp at h) <;> try (exfalso; omega))
          | (conv in Vc _ => arg 1; whnf
             first
              | (with_reducible refine vc_side0 ?_; rfl)
              | (with_reducible first
                  | refine vc_true ?_ | refine vc_true2 ?_ | refine vc_side ?_ ?_ | refine vc_triv | refine vc_later ?_ | refine vc_caseT ?_ | refine vc_caseF ?_ | refine vc_cons ?_ | refine vc_nil ?_ ?_ | refine vc_seq ?_
                     | refine vc_region ?_ | refine vc_cond ?_ | refine vc_block ?_ | refine vc_retc ?_ | refine vc_exit ?_ | refine vc_skip ?_ | refine vc_scope ?_ | refine vc_label ?_ | refine vc_goto ?_ | refine vc_wkSl0
                     | refine vc_wkHp0 | refine vc_eqAVs0 | refine vc_preG0 | refine vc_wkSl ?_ ?_ | refine vc_wkHp ?_ ?_ | refine vc_eqAVs ?_ ?_ | refine vc_preG ?_ ?_ | refine vc_side0 ?_ | refine vc_call [] hc ?_
                     | refine vc_weakf [] ?_ ?_ ?_ | refine vc_and ?_ ?_ | refine vc_ret [] [] ?_)
              | ((with_reducible first | refine vc_caseD (fun h => ?_) (fun h => ?_) | refine vc_caseN (fun h => ?_) (fun h => ?_)) <;> try (exfalso; omega))
              | ((with_reducible refine vc_case (fun h => ?_) (fun h => ?_)) <;> (try simp at h) <;> try (exfalso; omega))))
      all_goals first
        | rfl
        | (exfalso; rw [hw] at h; omega)
    · rw [decide_eq_false hv, cond_false] at hR
      subst hR
      have hv2 : IntKind.i64.wrap (v : Int) = v := wrap64_id (by omega) (by omega)
      repeat' (first
          | ((with_reducible refine vc_chk ?_); first | decide +kernel | rfl)
          | (with_reducible refine vc_side0 ?_; rfl)
          | (with_reducible first
               | refine vc_true ?_ | refine vc_true2 ?_ | refine vc_side ?_ ?_ | refine vc_triv | refine vc_later ?_ | refine vc_caseT ?_ | refine vc_caseF ?_ | refine vc_cons ?_ | refine vc_nil ?_ ?_ | refine vc_seq ?_
                  | refine vc_region ?_ | refine vc_cond ?_ | refine vc_block ?_ | refine vc_retc ?_ | refine vc_exit ?_ | refine vc_skip ?_ | refine vc_scope ?_ | refine vc_label ?_ | refine vc_goto ?_ | refine vc_wkSl0
                  | refine vc_wkHp0 | refine vc_eqAVs0 | refine vc_preG0 | refine vc_wkSl ?_ ?_ | refine vc_wkHp ?_ ?_ | refine vc_eqAVs ?_ ?_ | refine vc_preG ?_ ?_ | refine vc_side0 ?_ | refine vc_call [] hc ?_
                  | refine vc_weakf [] ?_ ?_ ?_ | refine vc_and ?_ ?_ | refine vc_ret [] [] ?_)
          | ((with_reducible first | refine vc_caseD (fun h => ?_) (fun h => ?_) | refine vc_caseN (fun h => ?_) (fun h => ?_)) <;> try (exfalso; omega))
          | ((with_reducible refine vc_case (fun h => ?_) (fun h => ?_)) <;> (try simp at h) <;> try (exfalso; omega))
          | (conv in Vc _ => arg 1; whnf
             first
              | (with_reducible refine vc_side0 ?_; rfl)
              | (with_reducible first
                  | refine vc_true ?_ | refine vc_true2 ?_ | refine vc_side ?_ ?_ | refine vc_triv | refine vc_later ?_ | refine vc_caseT ?_ | refine vc_caseF ?_ | refine vc_cons ?_ | refine vc_nil ?_ ?_ | refine vc_seq ?_
                     | refine vc_region ?_ | refine vc_cond ?_ | refine vc_block ?_ | refine vc_retc ?_ | refine vc_exit ?_ | refine vc_skip ?_ | refine vc_scope ?_ | refine vc_label ?_ | refine vc_goto ?_ | refine vc_wkSl0
                     | refine vc_wkHp0 | refine vc_eqAVs0 | refine vc_preG0 | refine vc_wkSl ?_ ?_ | refine vc_wkHp ?_ ?_ | refine vc_eqAVs ?_ ?_ | refine vc_preG ?_ ?_ | refine vc_side0 ?_ | refine vc_call [] hc ?_
                     | refine vc_weakf [] ?_ ?_ ?_ | refine vc_and ?_ ?_ | refine vc_ret [] [] ?_)
              | ((with_reducible first | refine vc_caseD (fun h => ?_) (fun h => ?_) | refine vc_caseN (fun h => ?_) (fun h => ?_)) <;> try (exfalso; omega))
              | ((with_reducible refine vc_case (fun h => ?_) (fun h => ?_)) <;> (try simp at h) <;> try (exfalso; omega))))
      all_goals first
        | rfl
        | (exfalso; rw [hw] at h; omega)
        | (rw [hv2]; done)

/-- So many bytes. -/
def inK (bs : List UInt8) (n k : Nat) : List UInt8 × Nat × Bool := bif decide (k + n ≤ bs.length) then ((bs.drop k).take n, k + n, false) else ([], k, true)

theorem inTake_bad (B : List D) (k : Nat) (n : Int) :
    LocalCall Try.prog 89 [.ptr 9 [], .d (.int .i64 n)] [(9, rIn B k true)] [] (one [.d (.sl [])]) [(9, rIn B k true)] := by
  refine vc_fn mixed Try.func89 rfl rfl [] (vc_chk rfl) ?_
  repeat' (first
      | ((with_reducible refine vc_chk ?_); first | decide +kernel | rfl)
      | (with_reducible refine vc_side0 ?_; rfl)
      | (with_reducible first
           | refine vc_true ?_ | refine vc_true2 ?_ | refine vc_side ?_ ?_ | refine vc_triv | refine vc_later ?_ | refine vc_caseT ?_ | refine vc_caseF ?_ | refine vc_cons ?_ | refine vc_nil ?_ ?_ | refine vc_seq ?_
              | refine vc_region ?_ | refine vc_cond ?_ | refine vc_block ?_ | refine vc_retc ?_ | refine vc_exit ?_ | refine vc_skip ?_ | refine vc_scope ?_ | refine vc_label ?_ | refine vc_goto ?_ | refine vc_wkSl0
              | refine vc_wkHp0 | refine vc_eqAVs0 | refine vc_preG0 | refine vc_wkSl ?_ ?_ | refine vc_wkHp ?_ ?_ | refine vc_eqAVs ?_ ?_ | refine vc_preG ?_ ?_ | refine vc_side0 ?_ | refine vc_ret [true] [] ?_
              | refine vc_weakf [] ?_ ?_ ?_ | refine vc_and ?_ ?_ | refine vc_ret [] [] ?_)
      | ((with_reducible first | refine vc_caseD (fun h => ?_) (fun h => ?_) | refine vc_caseN (fun h => ?_) (fun h => ?_)) <;> try (exfalso; omega))
      | ((with_reducible refine vc_case (fun h => ?_) (fun h => ?_)) <;> (try simp at h) <;> try (exfalso; omega))
      | (conv in Vc _ => arg 1; whnf
         first
          | (with_reducible refine vc_side0 ?_; rfl)
          | (with_reducible first
              | refine vc_true ?_ | refine vc_true2 ?_ | refine vc_side ?_ ?_ | refine vc_triv | refine vc_later ?_ | refine vc_caseT ?_ | refine vc_caseF ?_ | refine vc_cons ?_ | refine vc_nil ?_ ?_ | refine vc_seq ?_
                 | refine vc_region ?_ | refine vc_cond ?_ | refine vc_block ?_ | refine vc_retc ?_ | refine vc_exit ?_ | refine vc_skip ?_ | refine vc_scope ?_ | refine vc_label ?_ | refine vc_goto ?_ | refine vc_wkSl0
                 | refine vc_wkHp0 | refine vc_eqAVs0 | refine vc_preG0 | refine vc_wkSl ?_ ?_ | refine vc_wkHp ?_ ?_ | refine vc_eqAVs ?_ ?_ | refine vc_preG ?_ ?_ | refine vc_side0 ?_ | refine vc_ret [true] [] ?_
                 | refine vc_weakf [] ?_ ?_ ?_ | refine vc_and ?_ ?_ | refine vc_ret [] [] ?_)
          | ((with_reducible first | refine vc_caseD (fun h => ?_) (fun h => ?_) | refine vc_caseN (fun h => ?_) (fun h => ?_)) <;> try (exfalso; omega))
          | ((with_reducible refine vc_case (fun h => ?_) (fun h => ?_)) <;> (try simp at h) <;> try (exfalso; omega))))
  all_goals rfl

theorem inTake_ok (B : List D) (bs : List UInt8) (hB : B = bs.map byteD) (n k : Nat) (hn : n ≤ 1048576) (hk : k ≤ bs.length) (hl : bs.length < 2 ^ 63) (R : List UInt8 × Nat × Bool) (hR : inK bs n k = R) :
    LocalCall Try.prog 89 [.ptr 9 [], .d (.int .i64 (n : Int))] [(9, rIn B k false)] [] (one [.d (.sl (R.1.map byteD))]) [(9, rIn B R.2.1 R.2.2)] := by
  have hlen : B.length = bs.length := by rw [hB]; simp
  have w0 : IntKind.i64.wrap ((B.length : Int) - (k : Int)) = (B.length : Int) - k := wrap64_id (by omega) (by omega)
  refine vc_fn mixed Try.func89 rfl rfl [] (vc_chk rfl) ?_
  unfold inK at hR
  by_cases hc : k + n ≤ bs.length
  · rw [decide_eq_true hc, cond_true] at hR
    subst hR
    have w1 : IntKind.i64.wrap ((k : Int) + (n : Int)) = ((k + n : Nat) : Int) := by rw [wrap64_id (by omega) (by omega)]; rfl
    have w2 : IntKind.i64.wrap (((k + n : Nat) : Int) - (n : Int)) = (k : Int) := by rw [wrap64_id (by omega) (by omega)]; omega
    have hcut : cutD B (k : Int) ((k + n : Nat) : Int) = ((bs.drop k).take n).map byteD := by
      unfold cutD
      rw [Int.toNat_natCast, Int.toNat_natCast, hB, List.drop_take, ← List.map_drop, ← List.map_take]
      congr 2; omega
    have hcl : (((bs.drop k).take n).map byteD).length = n := by
      rw [List.length_map, List.length_take, List.length_drop]; omega
    repeat' (first
        | ((with_reducible refine vc_chk ?_); first | decide +kernel | rfl)
        | (with_reducible refine vc_side0 ?_; rfl)
        | (with_reducible first
             | refine vc_true ?_ | refine vc_true2 ?_ | refine vc_side ?_ ?_ | refine vc_triv | refine vc_later ?_ | refine vc_caseT ?_ | refine vc_caseF ?_ | refine vc_cons ?_ | refine vc_nil ?_ ?_ | refine vc_seq ?_
                | refine vc_region ?_ | refine vc_cond ?_ | refine vc_block ?_ | refine vc_retc ?_ | refine vc_exit ?_ | refine vc_skip ?_ | refine vc_scope ?_ | refine vc_label ?_ | refine vc_goto ?_ | refine vc_wkSl0
                | refine vc_wkHp0 | refine vc_eqAVs0 | refine vc_preG0 | refine vc_wkSl ?_ ?_ | refine vc_wkHp ?_ ?_ | refine vc_eqAVs ?_ ?_ | refine vc_preG ?_ ?_ | refine vc_side0 ?_ | refine vc_ret [true] [] ?_
                | refine vc_weakf [] ?_ ?_ ?_ | refine vc_and ?_ ?_ | refine vc_ret [] [] ?_)
        | ((with_reducible first | refine vc_caseD (fun h => ?_) (fun h => ?_) | refine vc_caseN (fun h => ?_) (fun h => ?_)) <;> try (exfalso; omega))
        | ((with_reducible refine vc_case (fun h => ?_) (fun h => ?_)) <;> (try simp at h) <;> try (exfalso; omega))
        | (conv in Vc _ => arg 1; whnf
           first
            | (with_reducible refine vc_side0 ?_; rfl)
            | (with_reducible first
                | refine vc_true ?_ | refine vc_true2 ?_ | refine vc_side ?_ ?_ | refine vc_triv | refine vc_later ?_ | refine vc_caseT ?_ | refine vc_caseF ?_ | refine vc_cons ?_ | refine vc_nil ?_ ?_ | refine vc_seq ?_
                   | refine vc_region ?_ | refine vc_cond ?_ | refine vc_block ?_ | refine vc_retc ?_ | refine vc_exit ?_ | refine vc_skip ?_ | refine vc_scope ?_ | refine vc_label ?_ | refine vc_goto ?_ | refine vc_wkSl0
                   | refine vc_wkHp0 | refine vc_eqAVs0 | refine vc_preG0 | refine vc_wkSl ?_ ?_ | refine vc_wkHp ?_ ?_ | refine vc_eqAVs ?_ ?_ | refine vc_preG ?_ ?_ | refine vc_side0 ?_ | refine vc_ret [true] [] ?_
                   | refine vc_weakf [] ?_ ?_ ?_ | refine vc_and ?_ ?_ | refine vc_ret [] [] ?_)
            | ((with_reducible first | refine vc_caseD (fun h => ?_) (fun h => ?_) | refine vc_caseN (fun h => ?_) (fun h => ?_)) <;> try (exfalso; omega))
            | ((with_reducible refine vc_case (fun h => ?_) (fun h => ?_)) <;> (try simp at h) <;> try (exfalso; omega))))
    all_goals (try simp only [w1, w2, hcut])
    all_goals first
      | rfl
      | (exfalso; rw [w0] at h; omega)
      | exact ⟨⟨by omega, by omega, by omega⟩, fun y hy => by rw [hB] at hy; obtain ⟨c, _, rfl⟩ := List.mem_map.1 hy; rfl⟩
      | exact ⟨⟨trivial, room_le (b := 1048576) (by unfold Room; omega) rfl (by rw [hcl]; omega)⟩, fun y hy => by obtain ⟨c, _, rfl⟩ := List.mem_map.1 hy; rfl⟩
      | exact ⟨Nat.le_of_eq (Nat.zero_add _), trivial⟩
      | (rw [List.drop_zero, List.take_length]; done)
      | skip
  · rw [decide_eq_false hc, cond_false] at hR
    subst hR
    repeat' (first
        | ((with_reducible refine vc_chk ?_); first | decide +kernel | rfl)
        | (with_reducible refine vc_side0 ?_; rfl)
        | (with_reducible first
             | refine vc_true ?_ | refine vc_true2 ?_ | refine vc_side ?_ ?_ | refine vc_triv | refine vc_later ?_ | refine vc_caseT ?_ | refine vc_caseF ?_ | refine vc_cons ?_ | refine vc_nil ?_ ?_ | refine vc_seq ?_
                | refine vc_region ?_ | refine vc_cond ?_ | refine vc_block ?_ | refine vc_retc ?_ | refine vc_exit ?_ | refine vc_skip ?_ | refine vc_scope ?_ | refine vc_label ?_ | refine vc_goto ?_ | refine vc_wkSl0
                | refine vc_wkHp0 | refine vc_eqAVs0 | refine vc_preG0 | refine vc_wkSl ?_ ?_ | refine vc_wkHp ?_ ?_ | refine vc_eqAVs ?_ ?_ | refine vc_preG ?_ ?_ | refine vc_side0 ?_ | refine vc_ret [true] [] ?_
                | refine vc_weakf [] ?_ ?_ ?_ | refine vc_and ?_ ?_ | refine vc_ret [] [] ?_)
        | ((with_reducible first | refine vc_caseD (fun h => ?_) (fun h => ?_) | refine vc_caseN (fun h => ?_) (fun h => ?_)) <;> try (exfalso; omega))
        | ((with_reducible refine vc_case (fun h => ?_) (fun h => ?_)) <;> (try simp at h) <;> try (exfalso; omega))
        | (conv in Vc _ => arg 1; whnf
           first
            | (with_reducible refine vc_side0 ?_; rfl)
            | (with_reducible first
                | refine vc_true ?_ | refine vc_true2 ?_ | refine vc_side ?_ ?_ | refine vc_triv | refine vc_later ?_ | refine vc_caseT ?_ | refine vc_caseF ?_ | refine vc_cons ?_ | refine vc_nil ?_ ?_ | refine vc_seq ?_
                   | refine vc_region ?_ | refine vc_cond ?_ | refine vc_block ?_ | refine vc_retc ?_ | refine vc_exit ?_ | refine vc_skip ?_ | refine vc_scope ?_ | refine vc_label ?_ | refine vc_goto ?_ | refine vc_wkSl0
                   | refine vc_wkHp0 | refine vc_eqAVs0 | refine vc_preG0 | refine vc_wkSl ?_ ?_ | refine vc_wkHp ?_ ?_ | refine vc_eqAVs ?_ ?_ | refine vc_preG ?_ ?_ | refine vc_side0 ?_ | refine vc_ret [true] [] ?_
                   | refine vc_weakf [] ?_ ?_ ?_ | refine vc_and ?_ ?_ | refine vc_ret [] [] ?_)
            | ((with_reducible first | refine vc_caseD (fun h => ?_) (fun h => ?_) | refine vc_caseN (fun h => ?_) (fun h => ?_)) <;> try (exfalso; omega))
            | ((with_reducible refine vc_case (fun h => ?_) (fun h => ?_)) <;> (try simp at h) <;> try (exfalso; omega))))
    all_goals first
      | rfl
      | (exfalso; rw [w0] at h; omega)
      | skip

/-- A text. -/
def inT (bs : List UInt8) (k : Nat) : List UInt8 × Nat × Bool := let c := inC bs 1048576 k; bif c.2.2 then ([], c.2.1, true) else inK bs c.1 c.2.1

theorem inText_bad (B : List D) (k : Nat) :
    LocalCall Try.prog 73 [.ptr 9 []] [(9, rIn B k true)] [] (one [.d (.sl [])]) [(9, rIn B k true)] := by
  refine vc_fn mixed Try.func73 rfl rfl [] (vc_chk rfl) ?_
  repeat' (first
      | ((with_reducible refine vc_chk ?_); first | decide +kernel | rfl)
      | (with_reducible refine vc_side0 ?_; rfl)
      | (with_reducible first
           | refine vc_true ?_ | refine vc_true2 ?_ | refine vc_side ?_ ?_ | refine vc_triv | refine vc_later ?_ | refine vc_caseT ?_ | refine vc_caseF ?_ | refine vc_cons ?_ | refine vc_nil ?_ ?_ | refine vc_seq ?_
              | refine vc_region ?_ | refine vc_cond ?_ | refine vc_block ?_ | refine vc_retc ?_ | refine vc_exit ?_ | refine vc_skip ?_ | refine vc_scope ?_ | refine vc_label ?_ | refine vc_goto ?_ | refine vc_wkSl0
              | refine vc_wkHp0 | refine vc_eqAVs0 | refine vc_preG0 | refine vc_wkSl ?_ ?_ | refine vc_wkHp ?_ ?_ | refine vc_eqAVs ?_ ?_ | refine vc_preG ?_ ?_ | refine vc_side0 ?_ | refine vc_call [] (inCnt_bad B k 1048576) ?_
              | refine vc_call [] (inTake_bad B k 0) ?_ | refine vc_weakf [] ?_ ?_ ?_ | refine vc_and ?_ ?_ | refine vc_ret [] [] ?_)
      | ((with_reducible first | refine vc_caseD (fun h => ?_) (fun h => ?_) | refine vc_caseN (fun h => ?_) (fun h => ?_)) <;> try (exfalso; omega))
      | ((with_reducible refine vc_case (fun h => ?_) (fun h => ?_)) <;> (try simp at h) <;> try (exfalso; omega))
      | (conv in Vc _ => arg 1; whnf
         first
          | (with_reducible refine vc_side0 ?_; rfl)
          | (with_reducible first
              | refine vc_true ?_ | refine vc_true2 ?_ | refine vc_side ?_ ?_ | refine vc_triv | refine vc_later ?_ | refine vc_caseT ?_ | refine vc_caseF ?_ | refine vc_cons ?_ | refine vc_nil ?_ ?_ | refine vc_seq ?_
                 | refine vc_region ?_ | refine vc_cond ?_ | refine vc_block ?_ | refine vc_retc ?_ | refine vc_exit ?_ | refine vc_skip ?_ | refine vc_scope ?_ | refine vc_label ?_ | refine vc_goto ?_ | refine vc_wkSl0
                 | refine vc_wkHp0 | refine vc_eqAVs0 | refine vc_preG0 | refine vc_wkSl ?_ ?_ | refine vc_wkHp ?_ ?_ | refine vc_eqAVs ?_ ?_ | refine vc_preG ?_ ?_ | refine vc_side0 ?_
                 | refine vc_call [] (inCnt_bad B k 1048576) ?_ | refine vc_call [] (inTake_bad B k 0) ?_ | refine vc_weakf [] ?_ ?_ ?_ | refine vc_and ?_ ?_ | refine vc_ret [] [] ?_)
          | ((with_reducible first | refine vc_caseD (fun h => ?_) (fun h => ?_) | refine vc_caseN (fun h => ?_) (fun h => ?_)) <;> try (exfalso; omega))
          | ((with_reducible refine vc_case (fun h => ?_) (fun h => ?_)) <;> (try simp at h) <;> try (exfalso; omega))))
  all_goals rfl

theorem inText_ok (B : List D) (bs : List UInt8) (hB : B = bs.map byteD) (k : Nat) (hk : k ≤ bs.length) (hl : bs.length < 2 ^ 63) (R : List UInt8 × Nat × Bool) (hR : inT bs k = R) :
    LocalCall Try.prog 73 [.ptr 9 []] [(9, rIn B k false)] [] (one [.d (.sl (R.1.map byteD))]) [(9, rIn B R.2.1 R.2.2)] := by
  have hle := inC_le bs 1048576 k hk
  have hmost := inC_most bs 1048576 k
  unfold inT at hR
  simp only at hR
  rcases h0 : inC bs 1048576 k with ⟨v, e, b⟩
  rw [h0] at hR hle hmost
  have hc := inCnt_ok B bs hB 1048576 k (by omega) hk hl _ h0
  simp only at hR hc hle hmost
  refine vc_fn mixed Try.func73 rfl rfl [] (vc_chk rfl) ?_
  cases b with
  | true =>
    simp only [cond_true] at hR
    subst hR
    repeat' (first
        | ((with_reducible refine vc_chk ?_); first | decide +kernel | rfl)
        | (with_reducible refine vc_side0 ?_; rfl)
        | (with_reducible first
             | refine vc_true ?_ | refine vc_true2 ?_ | refine vc_side ?_ ?_ | refine vc_triv | refine vc_later ?_ | refine vc_caseT ?_ | refine vc_caseF ?_ | refine vc_cons ?_ | refine vc_nil ?_ ?_ | refine vc_seq ?_
                | refine vc_region ?_ | refine vc_cond ?_ | refine vc_block ?_ | refine vc_retc ?_ | refine vc_exit ?_ | refine vc_skip ?_ | refine vc_scope ?_ | refine vc_label ?_ | refine vc_goto ?_ | refine vc_wkSl0
                | refine vc_wkHp0 | refine vc_eqAVs0 | refine vc_preG0 | refine vc_wkSl ?_ ?_ | refine vc_wkHp ?_ ?_ | refine vc_eqAVs ?_ ?_ | refine vc_preG ?_ ?_ | refine vc_side0 ?_ | refine vc_call [] hc ?_
                | refine vc_call [] (inTake_bad B e (v : Int)) ?_ | refine vc_weakf [] ?_ ?_ ?_ | refine vc_and ?_ ?_ | refine vc_ret [] [] ?_)
        | ((with_reducible first | refine vc_caseD (fun h => ?_) (fun h => ?_) | refine vc_caseN (fun h => ?_) (fun h => ?_)) <;> try (exfalso; omega))
        | ((with_reducible refine vc_case (fun h => ?_) (fun h => ?_)) <;> (try simp at h) <;> try (exfalso; omega))
        | (conv in Vc _ => arg 1; whnf
           first
            | (with_reducible refine vc_side0 ?_; rfl)
            | (with_reducible first
                | refine vc_true ?_ | refine vc_true2 ?_ | refine vc_side ?_ ?_ | refine vc_triv | refine vc_later ?_ | refine vc_caseT ?_ | refine vc_caseF ?_ | refine vc_cons ?_ | refine vc_nil ?_ ?_ | refine vc_seq ?_
                   | refine vc_region ?_ | refine vc_cond ?_ | refine vc_block ?_ | refine vc_retc ?_ | refine vc_exit ?_ | refine vc_skip ?_ | refine vc_scope ?_ | refine vc_label ?_ | refine vc_goto ?_ | refine vc_wkSl0
                   | refine vc_wkHp0 | refine vc_eqAVs0 | refine vc_preG0 | refine vc_wkSl ?_ ?_ | refine vc_wkHp ?_ ?_ | refine vc_eqAVs ?_ ?_ | refine vc_preG ?_ ?_ | refine vc_side0 ?_ | refine vc_call [] hc ?_
                   | refine vc_call [] (inTake_bad B e (v : Int)) ?_ | refine vc_weakf [] ?_ ?_ ?_ | refine vc_and ?_ ?_ | refine vc_ret [] [] ?_)
            | ((with_reducible first | refine vc_caseD (fun h => ?_) (fun h => ?_) | refine vc_caseN (fun h => ?_) (fun h => ?_)) <;> try (exfalso; omega))
            | ((with_reducible refine vc_case (fun h => ?_) (fun h => ?_)) <;> (try simp at h) <;> try (exfalso; omega))))
    all_goals rfl
  | false =>
    simp only [cond_false] at hR
    have hc2 := inTake_ok B bs hB v e hmost hle hl _ hR
    repeat' (first
        | ((with_reducible refine vc_chk ?_); first | decide +kernel | rfl)
        | (with_reducible refine vc_side0 ?_; rfl)
        | (with_reducible first
             | refine vc_true ?_ | refine vc_true2 ?_ | refine vc_side ?_ ?_ | refine vc_triv | refine vc_later ?_ | refine vc_caseT ?_ | refine vc_caseF ?_ | refine vc_cons ?_ | refine vc_nil ?_ ?_ | refine vc_seq ?_
                | refine vc_region ?_ | refine vc_cond ?_ | refine vc_block ?_ | refine vc_retc ?_ | refine vc_exit ?_ | refine vc_skip ?_ | refine vc_scope ?_ | refine vc_label ?_ | refine vc_goto ?_ | refine vc_wkSl0
                | refine vc_wkHp0 | refine vc_eqAVs0 | refine vc_preG0 | refine vc_wkSl ?_ ?_ | refine vc_wkHp ?_ ?_ | refine vc_eqAVs ?_ ?_ | refine vc_preG ?_ ?_ | refine vc_side0 ?_ | refine vc_call [] hc ?_
                | refine vc_call [] hc2 ?_ | refine vc_weakf [] ?_ ?_ ?_ | refine vc_and ?_ ?_ | refine vc_ret [] [] ?_)
        | ((with_reducible first | refine vc_caseD (fun h => ?_) (fun h => ?_) | refine vc_caseN (fun h => ?_) (fun h => ?_)) <;> try (exfalso; omega))
        | ((with_reducible refine vc_case (fun h => ?_) (fun h => ?_)) <;> (try simp at h) <;> try (exfalso; omega))
        | (conv in Vc _ => arg 1; whnf
           first
            | (with_reducible refine vc_side0 ?_; rfl)
            | (with_reducible first
                | refine vc_true ?_ | refine vc_true2 ?_ | refine vc_side ?_ ?_ | refine vc_triv | refine vc_later ?_ | refine vc_caseT ?_ | refine vc_caseF ?_ | refine vc_cons ?_ | refine vc_nil ?_ ?_ | refine vc_seq ?_
                   | refine vc_region ?_ | refine vc_cond ?_ | refine vc_block ?_ | refine vc_retc ?_ | refine vc_exit ?_ | refine vc_skip ?_ | refine vc_scope ?_ | refine vc_label ?_ | refine vc_goto ?_ | refine vc_wkSl0
                   | refine vc_wkHp0 | refine vc_eqAVs0 | refine vc_preG0 | refine vc_wkSl ?_ ?_ | refine vc_wkHp ?_ ?_ | refine vc_eqAVs ?_ ?_ | refine vc_preG ?_ ?_ | refine vc_side0 ?_ | refine vc_call [] hc ?_
                   | refine vc_call [] hc2 ?_ | refine vc_weakf [] ?_ ?_ ?_ | refine vc_and ?_ ?_ | refine vc_ret [] [] ?_)
            | ((with_reducible first | refine vc_caseD (fun h => ?_) (fun h => ?_) | refine vc_caseN (fun h => ?_) (fun h => ?_)) <;> try (exfalso; omega))
            | ((with_reducible refine vc_case (fun h => ?_) (fun h => ?_)) <;> (try simp at h) <;> try (exfalso; omega))))
    all_goals rfl

theorem inDone_ok (B : List D) (k : Nat) (b : Bool) :
    LocalCall Try.prog 74 [.ptr 9 []] [(9, rIn B k b)] [] (one [.d (.bool (!b && decide (k = B.length)))]) [(9, rIn B k b)] := by
  refine vc_fn mixed Try.func74 rfl rfl [] (vc_chk rfl) ?_
  cases b with
  | true =>
    repeat' (first
        | ((with_reducible refine vc_chk ?_); first | decide +kernel | rfl)
        | (with_reducible refine vc_side0 ?_; rfl)
        | (with_reducible first
             | refine vc_true ?_ | refine vc_true2 ?_ | refine vc_side ?_ ?_ | refine vc_triv | refine vc_later ?_ | refine vc_caseT ?_ | refine vc_caseF ?_ | refine vc_cons ?_ | refine vc_nil ?_ ?_ | refine vc_seq ?_
                | refine vc_region ?_ | refine vc_cond ?_ | refine vc_block ?_ | refine vc_retc ?_ | refine vc_exit ?_ | refine vc_skip ?_ | refine vc_scope ?_ | refine vc_label ?_ | refine vc_goto ?_ | refine vc_wkSl0
                | refine vc_wkHp0 | refine vc_eqAVs0 | refine vc_preG0 | refine vc_wkSl ?_ ?_ | refine vc_wkHp ?_ ?_ | refine vc_eqAVs ?_ ?_ | refine vc_preG ?_ ?_ | refine vc_side0 ?_ | refine vc_weakf [] ?_ ?_ ?_
                | refine vc_and ?_ ?_ | refine vc_ret [] [] ?_)
        | ((with_reducible first | refine vc_caseD (fun h => ?_) (fun h => ?_) | refine vc_caseN (fun h => ?_) (fun h => ?_)) <;> try (exfalso; omega))
        | ((with_reducible refine vc_case (fun h => ?_) (fun h => ?_)) <;> (try simp at h) <;> try (exfalso; omega))
        | (conv in Vc _ => arg 1; whnf
           first
            | (with_reducible refine vc_side0 ?_; rfl)
            | (with_reducible first
                | refine vc_true ?_ | refine vc_true2 ?_ | refine vc_side ?_ ?_ | refine vc_triv | refine vc_later ?_ | refine vc_caseT ?_ | refine vc_caseF ?_ | refine vc_cons ?_ | refine vc_nil ?_ ?_ | refine vc_seq ?_
                   | refine vc_region ?_ | refine vc_cond ?_ | refine vc_block ?_ | refine vc_retc ?_ | refine vc_exit ?_ | refine vc_skip ?_ | refine vc_scope ?_ | refine vc_label ?_ | refine vc_goto ?_ | refine vc_wkSl0
                   | refine vc_wkHp0 | refine vc_eqAVs0 | refine vc_preG0 | refine vc_wkSl ?_ ?_ | refine vc_wkHp ?_ ?_ | refine vc_eqAVs ?_ ?_ | refine vc_preG ?_ ?_ | refine vc_side0 ?_ | refine vc_weakf [] ?_ ?_ ?_
                   | refine vc_and ?_ ?_ | refine vc_ret [] [] ?_)
            | ((with_reducible first | refine vc_caseD (fun h => ?_) (fun h => ?_) | refine vc_caseN (fun h => ?_) (fun h => ?_)) <;> try (exfalso; omega))
            | ((with_reducible refine vc_case (fun h => ?_) (fun h => ?_)) <;> (try simp at h) <;> try (exfalso; omega))))
    all_goals rfl
  | false =>
    repeat' (first
        | ((with_reducible refine vc_chk ?_); first | decide +kernel | rfl)
        | (with_reducible refine vc_side0 ?_; rfl)
        | (with_reducible first
             | refine vc_true ?_ | refine vc_true2 ?_ | refine vc_side ?_ ?_ | refine vc_triv | refine vc_later ?_ | refine vc_caseT ?_ | refine vc_caseF ?_ | refine vc_cons ?_ | refine vc_nil ?_ ?_ | refine vc_seq ?_
                | refine vc_region ?_ | refine vc_cond ?_ | refine vc_block ?_ | refine vc_retc ?_ | refine vc_exit ?_ | refine vc_skip ?_ | refine vc_scope ?_ | refine vc_label ?_ | refine vc_goto ?_ | refine vc_wkSl0
                | refine vc_wkHp0 | refine vc_eqAVs0 | refine vc_preG0 | refine vc_wkSl ?_ ?_ | refine vc_wkHp ?_ ?_ | refine vc_eqAVs ?_ ?_ | refine vc_preG ?_ ?_ | refine vc_side0 ?_ | refine vc_weakf [] ?_ ?_ ?_
                | refine vc_and ?_ ?_ | refine vc_ret [] [] ?_)
        | ((with_reducible first | refine vc_caseD (fun h => ?_) (fun h => ?_) | refine vc_caseN (fun h => ?_) (fun h => ?_)) <;> try (exfalso; omega))
        | ((with_reducible refine vc_case (fun h => ?_) (fun h => ?_)) <;> (try simp at h) <;> try (exfalso; omega))
        | (conv in Vc _ => arg 1; whnf
           first
            | (with_reducible refine vc_side0 ?_; rfl)
            | (with_reducible first
                | refine vc_true ?_ | refine vc_true2 ?_ | refine vc_side ?_ ?_ | refine vc_triv | refine vc_later ?_ | refine vc_caseT ?_ | refine vc_caseF ?_ | refine vc_cons ?_ | refine vc_nil ?_ ?_ | refine vc_seq ?_
                   | refine vc_region ?_ | refine vc_cond ?_ | refine vc_block ?_ | refine vc_retc ?_ | refine vc_exit ?_ | refine vc_skip ?_ | refine vc_scope ?_ | refine vc_label ?_ | refine vc_goto ?_ | refine vc_wkSl0
                   | refine vc_wkHp0 | refine vc_eqAVs0 | refine vc_preG0 | refine vc_wkSl ?_ ?_ | refine vc_wkHp ?_ ?_ | refine vc_eqAVs ?_ ?_ | refine vc_preG ?_ ?_ | refine vc_side0 ?_ | refine vc_weakf [] ?_ ?_ ?_
                   | refine vc_and ?_ ?_ | refine vc_ret [] [] ?_)
            | ((with_reducible first | refine vc_caseD (fun h => ?_) (fun h => ?_) | refine vc_caseN (fun h => ?_) (fun h => ?_)) <;> try (exfalso; omega))
            | ((with_reducible refine vc_case (fun h => ?_) (fun h => ?_)) <;> (try simp at h) <;> try (exfalso; omega))))
    all_goals first
      | rfl
      | (congr 1; simp only [Bool.not_false, Bool.true_and]; rw [Bool.eq_iff_iff]; simp; omega)

/-- A digest's bytes, and what is not yet laid. -/
def padB (ts : List UInt8) (i : Nat) : List UInt8 := ts.take i ++ List.replicate (32 - i) 0

theorem padB_set {ts : List UInt8} {i : Nat} (h : i < ts.length) (h32 : i < 32) : ((padB ts i).map byteD).set i (byteD (ts.getD i 0)) = (padB ts (i + 1)).map byteD := by
  rw [← List.map_set]
  congr 1
  unfold padB
  rw [List.set_append_right _ _ (by rw [List.length_take]; omega), List.length_take, Nat.min_eq_left (by omega), Nat.sub_self]
  rw [show 32 - i = (32 - (i + 1)) + 1 by omega, List.replicate_succ, List.set_cons_zero, List.take_succ_eq_append_getElem h, List.getD_eq_getElem?_getD, List.getElem?_eq_getElem h, List.append_assoc]
  rfl

theorem padB_full {ts : List UInt8} (h : ts.length = 32) : padB ts 32 = ts := by
  unfold padB
  rw [List.take_of_length_le (by omega)]; simp

def inD (bs : List UInt8) (k : Nat) : List UInt8 × Nat × Bool := let r := inK bs 32 k; (padB r.1 r.1.length, r.2)

theorem inDig_ok (B : List D) (bs : List UInt8) (hB : B = bs.map byteD) (k : Nat) (hk : k ≤ bs.length) (hl : bs.length < 2 ^ 63) (R : List UInt8 × Nat × Bool) (hR : inK bs 32 k = R) :
    LocalCall Try.prog 76 [.ptr 9 []] [(9, rIn B k false)] [] (one [.d (.arr 32 1 ((padB R.1 R.1.length).map byteD))]) [(9, rIn B R.2.1 R.2.2)] := by
  have hc := inTake_ok B bs hB 32 k (by omega) hk hl _ hR
  have h32 : R.1.length ≤ 32 := by
    rw [← hR]; unfold inK
    cases decide (k + 32 ≤ bs.length) with
    | true => simp only [cond_true, List.length_take]; omega
    | false => simp
  have hlm : (R.1.map byteD).length = R.1.length := List.length_map _
  have hget : ∀ i, i < R.1.length → (R.1.map byteD).getD i .nilp = byteD (R.1.getD i 0) := fun i hi => getD_byte hi
  refine vc_fn mixed Try.func76 rfl rfl [] (vc_chk rfl) ?_
  repeat' (first
      | ((with_reducible refine vc_chk ?_); first | decide +kernel | rfl)
      | (with_reducible refine vc_side0 ?_; rfl)
      | (with_reducible first
           | refine vc_true ?_ | refine vc_true2 ?_ | refine vc_side ?_ ?_ | refine vc_triv | refine vc_later ?_ | refine vc_caseT ?_ | refine vc_caseF ?_ | refine vc_cons ?_ | refine vc_nil ?_ ?_ | refine vc_seq ?_
              | refine vc_region ?_ | refine vc_cond ?_ | refine vc_block ?_ | refine vc_retc ?_ | refine vc_exit ?_ | refine vc_skip ?_ | refine vc_scope ?_ | refine vc_label ?_ | refine vc_goto ?_ | refine vc_wkSl0
              | refine vc_wkHp0 | refine vc_eqAVs0 | refine vc_preG0 | refine vc_wkSl ?_ ?_ | refine vc_wkHp ?_ ?_ | refine vc_eqAVs ?_ ?_ | refine vc_preG ?_ ?_ | refine vc_side0 ?_ | refine vc_call [] hc ?_
              | refine vc_loopI 21 (fun (i : Nat) => [(0, .ptr 9 []), (2, .ptr 1000 []), (3, .ptr 2000 []), (4, .d (.sl (R.1.map byteD))), (5, .d (.int .i64 (i : Int)))]) (fun i => [(9, rIn B R.2.1 R.2.2), (1000, .var (.d (.arr 32 1 (List.replicate 32 (.int .u8 0))))), (2000, .var (.d (.arr 32 1 ((padB R.1 i).map byteD))))]) (fun i => 32 - i) (fun i => i ≤ R.1.length) 0 [] ?_ ?_ ?_ ?_ ?_ (fun i hI => ?_)
              | refine vc_nextI (i + 1) [] ?_ ?_ ?_ ?_ ?_ ?_ | refine vc_weakf [] ?_ ?_ ?_ | refine vc_and ?_ ?_ | refine vc_ret [] [] ?_)
      | ((with_reducible first | refine vc_caseD (fun h => ?_) (fun h => ?_) | refine vc_caseN (fun h => ?_) (fun h => ?_)) <;> try (exfalso; omega))
      | ((with_reducible refine vc_case (fun h => ?_) (fun h => ?_)) <;> (try simp at h) <;> try (exfalso; omega))
      | (conv in Vc _ => arg 1; whnf
         first
          | (with_reducible refine vc_side0 ?_; rfl)
          | (with_reducible first
              | refine vc_true ?_ | refine vc_true2 ?_ | refine vc_side ?_ ?_ | refine vc_triv | refine vc_later ?_ | refine vc_caseT ?_ | refine vc_caseF ?_ | refine vc_cons ?_ | refine vc_nil ?_ ?_ | refine vc_seq ?_
                 | refine vc_region ?_ | refine vc_cond ?_ | refine vc_block ?_ | refine vc_retc ?_ | refine vc_exit ?_ | refine vc_skip ?_ | refine vc_scope ?_ | refine vc_label ?_ | refine vc_goto ?_ | refine vc_wkSl0
                 | refine vc_wkHp0 | refine vc_eqAVs0 | refine vc_preG0 | refine vc_wkSl ?_ ?_ | refine vc_wkHp ?_ ?_ | refine vc_eqAVs ?_ ?_ | refine vc_preG ?_ ?_ | refine vc_side0 ?_ | refine vc_call [] hc ?_
                 | refine vc_loopI 21 (fun (i : Nat) => [(0, .ptr 9 []), (2, .ptr 1000 []), (3, .ptr 2000 []), (4, .d (.sl (R.1.map byteD))), (5, .d (.int .i64 (i : Int)))]) (fun i => [(9, rIn B R.2.1 R.2.2), (1000, .var (.d (.arr 32 1 (List.replicate 32 (.int .u8 0))))), (2000, .var (.d (.arr 32 1 ((padB R.1 i).map byteD))))]) (fun i => 32 - i) (fun i => i ≤ R.1.length) 0 [] ?_ ?_ ?_ ?_ ?_ (fun i hI => ?_)
                 | refine vc_nextI (i + 1) [] ?_ ?_ ?_ ?_ ?_ ?_ | refine vc_weakf [] ?_ ?_ ?_ | refine vc_and ?_ ?_ | refine vc_ret [] [] ?_)
          | ((with_reducible first | refine vc_caseD (fun h => ?_) (fun h => ?_) | refine vc_caseN (fun h => ?_) (fun h => ?_)) <;> try (exfalso; omega))
          | ((with_reducible refine vc_case (fun h => ?_) (fun h => ?_)) <;> (try simp at h) <;> try (exfalso; omega))))
  all_goals (try simp only [Int.toNat_natCast])
  all_goals first
    | rfl
    | omega
    | (simp [padB]; rfl)
    | (rw [hget _ (by omega)]; exact ⟨⟨by omega, by omega⟩, rfl⟩)
    | (congr 1; rw [wrap64_id (by omega) (by omega)]; omega)
    | (rw [hget _ (by omega)]; exact congrArg (D.arr 32 1) (padB_set (by omega) (by omega)))
    | (obtain rfl : i = R.1.length := by omega
       rfl)

end Go.Proofs.Ytcdjheiccefcdaa

/-
The reader's digests; the reference's reader, bad or not.
-/
set_option linter.unusedSimpArgs false
set_option linter.unusedVariables false
namespace Go.Proofs.Ytcdjheiccefcdaa
open Go.Sym
set_option maxRecDepth 10000
set_option maxHeartbeats 1000000

theorem dig_read (B : List D) (bs : List UInt8) (hB : B = bs.map byteD) (k : Nat) (hk : k + 32 ≤ bs.length) (hl : bs.length < 2 ^ 63) :
    LocalCall Try.prog 65 [.ptr 9 []] [(9, rd B k)] [] (one [.d (.arr 32 1 (((bs.drop k).take 32).map byteD))]) [(9, rd B (k + 32))] := by
  have hl32 : ((bs.drop k).take 32).length = 32 := by rw [List.length_take, List.length_drop]; omega
  have hget : ∀ i, i < 32 → bs.getD (k + i) 0 = ((bs.drop k).take 32).getD i 0 := fun i hi => by
    rw [List.getD_eq_getElem?_getD, List.getD_eq_getElem?_getD, List.getElem?_take, if_pos hi, List.getElem?_drop]
  refine vc_fn mixed Try.func65 rfl rfl [] (vc_chk rfl) ?_
  repeat' (first
      | ((with_reducible refine vc_chk ?_); first | decide +kernel | rfl)
      | (with_reducible refine vc_side0 ?_; rfl)
      | (with_reducible first
           | refine vc_true ?_ | refine vc_true2 ?_ | refine vc_side ?_ ?_ | refine vc_triv | refine vc_later ?_ | refine vc_caseT ?_ | refine vc_caseF ?_ | refine vc_cons ?_ | refine vc_nil ?_ ?_ | refine vc_seq ?_
              | refine vc_region ?_ | refine vc_cond ?_ | refine vc_block ?_ | refine vc_retc ?_ | refine vc_exit ?_ | refine vc_skip ?_ | refine vc_scope ?_ | refine vc_label ?_ | refine vc_goto ?_ | refine vc_wkSl0
              | refine vc_wkHp0 | refine vc_eqAVs0 | refine vc_preG0 | refine vc_wkSl ?_ ?_ | refine vc_wkHp ?_ ?_ | refine vc_eqAVs ?_ ?_ | refine vc_preG ?_ ?_ | refine vc_side0 ?_
              | refine vc_loopI 14 (fun (i : Nat) => [(0, .ptr 9 []), (2, .ptr 1000 []), (3, .ptr 2000 []), (5, .d (.int .i64 (i : Int)))]) (fun i => [(9, rd B (k + i)), (1000, .var (.d (.arr 32 1 (List.replicate 32 (.int .u8 0))))), (2000, .var (.d (.arr 32 1 ((padB ((bs.drop k).take 32) i).map byteD))))]) (fun i => 32 - i) (fun i => i ≤ 32) 0 [] ?_ ?_ ?_ ?_ ?_ (fun i hI => ?_)
              | refine vc_call [] (byte_ok B bs hB (k + i) (by omega) hl _ (hget i (by omega))) ?_ | refine vc_nextI (i + 1) [] ?_ ?_ ?_ ?_ ?_ ?_ | refine vc_weakf [] ?_ ?_ ?_ | refine vc_and ?_ ?_ | refine vc_ret [] [] ?_)
      | ((with_reducible first | refine vc_caseD (fun h => ?_) (fun h => ?_) | refine vc_caseN (fun h => ?_) (fun h => ?_)) <;> try (exfalso; omega))
      | ((with_reducible refine vc_case (fun h => ?_) (fun h => ?_)) <;> (try simp at h) <;> try (exfalso; omega))
      | (conv in Vc _ => arg 1; whnf
         first
          | (with_reducible refine vc_side0 ?_; rfl)
          | (with_reducible first
              | refine vc_true ?_ | refine vc_true2 ?_ | refine vc_side ?_ ?_ | refine vc_triv | refine vc_later ?_ | refine vc_caseT ?_ | refine vc_caseF ?_ | refine vc_cons ?_ | refine vc_nil ?_ ?_ | refine vc_seq ?_
                 | refine vc_region ?_ | refine vc_cond ?_ | refine vc_block ?_ | refine vc_retc ?_ | refine vc_exit ?_ | refine vc_skip ?_ | refine vc_scope ?_ | refine vc_label ?_ | refine vc_goto ?_ | refine vc_wkSl0
                 | refine vc_wkHp0 | refine vc_eqAVs0 | refine vc_preG0 | refine vc_wkSl ?_ ?_ | refine vc_wkHp ?_ ?_ | refine vc_eqAVs ?_ ?_ | refine vc_preG ?_ ?_ | refine vc_side0 ?_
                 | refine vc_loopI 14 (fun (i : Nat) => [(0, .ptr 9 []), (2, .ptr 1000 []), (3, .ptr 2000 []), (5, .d (.int .i64 (i : Int)))]) (fun i => [(9, rd B (k + i)), (1000, .var (.d (.arr 32 1 (List.replicate 32 (.int .u8 0))))), (2000, .var (.d (.arr 32 1 ((padB ((bs.drop k).take 32) i).map byteD))))]) (fun i => 32 - i) (fun i => i ≤ 32) 0 [] ?_ ?_ ?_ ?_ ?_ (fun i hI => ?_)
                 | refine vc_call [] (byte_ok B bs hB (k + i) (by omega) hl _ (hget i (by omega))) ?_ | refine vc_nextI (i + 1) [] ?_ ?_ ?_ ?_ ?_ ?_ | refine vc_weakf [] ?_ ?_ ?_ | refine vc_and ?_ ?_ | refine vc_ret [] [] ?_)
          | ((with_reducible first | refine vc_caseD (fun h => ?_) (fun h => ?_) | refine vc_caseN (fun h => ?_) (fun h => ?_)) <;> try (exfalso; omega))
          | ((with_reducible refine vc_case (fun h => ?_) (fun h => ?_)) <;> (try simp at h) <;> try (exfalso; omega))))
  all_goals (try simp only [Int.toNat_natCast])
  all_goals first
    | rfl
    | omega
    | (simp [padB]; rfl)
    | (congr 1; rw [wrap64_id (by omega) (by omega)]; omega)
    | exact congrArg (D.arr 32 1) (padB_set (by omega) (by omega))
    | (obtain rfl : i = 32 := by omega
       rw [padB_full hl32]; done)
    | (obtain rfl : i = 32 := by omega
       rfl)

theorem dig_nread (B : List D) (bs : List UInt8) (hB : B = bs.map byteD) (k : Nat) (hk0 : k ≤ bs.length) (hk : ¬ k + 32 ≤ bs.length) (hl : bs.length < 2 ^ 63) :
    LocalPan Try.prog 65 [.ptr 9 []] [(9, rd B k)] [] fault [(9, .dead)] := by
  refine vc_fnPan mixed Try.func65 rfl rfl [] (vc_chk rfl) ?_
  repeat' (first
      | ((with_reducible refine vc_chk ?_); first | decide +kernel | rfl)
      | (with_reducible refine vc_side0 ?_; rfl)
      | (with_reducible first
           | refine vc_true ?_ | refine vc_true2 ?_ | refine vc_side ?_ ?_ | refine vc_triv | refine vc_later ?_ | refine vc_caseT ?_ | refine vc_caseF ?_ | refine vc_cons ?_ | refine vc_nil ?_ ?_ | refine vc_seq ?_
              | refine vc_region ?_ | refine vc_cond ?_ | refine vc_block ?_ | refine vc_retc ?_ | refine vc_exit ?_ | refine vc_skip ?_ | refine vc_scope ?_ | refine vc_label ?_ | refine vc_goto ?_ | refine vc_wkSl0
              | refine vc_wkHp0 | refine vc_eqAVs0 | refine vc_preG0 | refine vc_wkSl ?_ ?_ | refine vc_wkHp ?_ ?_ | refine vc_eqAVs ?_ ?_ | refine vc_preG ?_ ?_ | refine vc_side0 ?_
              | refine vc_loopI 14 (fun (i : Nat) => [(0, .ptr 9 []), (2, .ptr 1000 []), (3, .ptr 2000 []), (5, .d (.int .i64 (i : Int)))]) (fun i => [(9, rd B (k + i)), (1000, .var (.d (.arr 32 1 (List.replicate 32 (.int .u8 0))))), (2000, .var (.d (.arr 32 1 ((padB (bs.drop k) i).map byteD))))]) (fun i => 32 - i) (fun i => k + i ≤ bs.length) 0 [] ?_ ?_ ?_ ?_ ?_ (fun i hI => vc_by (k + i < bs.length) (fun hlt => ?_) (fun hge => ?_))
              | refine vc_call [] (byte_ok B bs hB (k + i) hlt hl _ rfl) ?_ | refine vc_pan [] (byte_pan B bs hB (k + i) hge) ?_ | refine vc_nextI (i + 1) [] ?_ ?_ ?_ ?_ ?_ ?_ | refine vc_panc [] [1000, 2000] ?_ ?_
              | refine vc_weakf [] ?_ ?_ ?_ | refine vc_and ?_ ?_ | refine vc_ret [] [] ?_)
      | ((with_reducible first | refine vc_caseD (fun h => ?_) (fun h => ?_) | refine vc_caseN (fun h => ?_) (fun h => ?_)) <;> try (exfalso; omega))
      | ((with_reducible refine vc_case (fun h => ?_) (fun h => ?_)) <;> (try simp at h) <;> try (exfalso; omega))
      | (conv in Vc _ => arg 1; whnf
         first
          | (with_reducible refine vc_side0 ?_; rfl)
          | (with_reducible first
              | refine vc_true ?_ | refine vc_true2 ?_ | refine vc_side ?_ ?_ | refine vc_triv | refine vc_later ?_ | refine vc_caseT ?_ | refine vc_caseF ?_ | refine vc_cons ?_ | refine vc_nil ?_ ?_ | refine vc_seq ?_
                 | refine vc_region ?_ | refine vc_cond ?_ | refine vc_block ?_ | refine vc_retc ?_ | refine vc_exit ?_ | refine vc_skip ?_ | refine vc_scope ?_ | refine vc_label ?_ | refine vc_goto ?_ | refine vc_wkSl0
                 | refine vc_wkHp0 | refine vc_eqAVs0 | refine vc_preG0 | refine vc_wkSl ?_ ?_ | refine vc_wkHp ?_ ?_ | refine vc_eqAVs ?_ ?_ | refine vc_preG ?_ ?_ | refine vc_side0 ?_
                 | refine vc_loopI 14 (fun (i : Nat) => [(0, .ptr 9 []), (2, .ptr 1000 []), (3, .ptr 2000 []), (5, .d (.int .i64 (i : Int)))]) (fun i => [(9, rd B (k + i)), (1000, .var (.d (.arr 32 1 (List.replicate 32 (.int .u8 0))))), (2000, .var (.d (.arr 32 1 ((padB (bs.drop k) i).map byteD))))]) (fun i => 32 - i) (fun i => k + i ≤ bs.length) 0 [] ?_ ?_ ?_ ?_ ?_ (fun i hI => vc_by (k + i < bs.length) (fun hlt => ?_) (fun hge => ?_))
                 | refine vc_call [] (byte_ok B bs hB (k + i) hlt hl _ rfl) ?_ | refine vc_pan [] (byte_pan B bs hB (k + i) hge) ?_ | refine vc_nextI (i + 1) [] ?_ ?_ ?_ ?_ ?_ ?_ | refine vc_panc [] [1000, 2000] ?_ ?_
                 | refine vc_weakf [] ?_ ?_ ?_ | refine vc_and ?_ ?_ | refine vc_ret [] [] ?_)
          | ((with_reducible first | refine vc_caseD (fun h => ?_) (fun h => ?_) | refine vc_caseN (fun h => ?_) (fun h => ?_)) <;> try (exfalso; omega))
          | ((with_reducible refine vc_case (fun h => ?_) (fun h => ?_)) <;> (try simp at h) <;> try (exfalso; omega))))
  all_goals (try simp only [Int.toNat_natCast])
  all_goals first
    | rfl
    | omega
    | (simp [padB]; rfl)
    | (congr 1; rw [wrap64_id (by omega) (by omega)]; omega)
    | (have e : bs.getD (k + i) 0 = (bs.drop k).getD i 0 := by rw [List.getD_eq_getElem?_getD, List.getD_eq_getElem?_getD, List.getElem?_drop]
       rw [e]
       exact congrArg (D.arr 32 1) (padB_set (by rw [List.length_drop]; omega) (by omega)))

def inNs (bs : List UInt8) (b : Bool) (k : Nat) : Nat × Nat × Bool := bif b then (0, k, true) else inN bs 10 k 0 0
def inCs (bs : List UInt8) (most : Nat) (b : Bool) (k : Nat) : Nat × Nat × Bool := bif b then (0, k, true) else inC bs most k
def inTs (bs : List UInt8) (b : Bool) (k : Nat) : List UInt8 × Nat × Bool := bif b then ([], k, true) else inT bs k

theorem inNum_any (B : List D) (bs : List UInt8) (hB : B = bs.map byteD) (k : Nat) (b : Bool) (hk : k ≤ bs.length) (hl : bs.length < 2 ^ 63) :
    LocalCall Try.prog 75 [.ptr 9 []] [(9, rIn B k b)] [] (one [.d (.int .u64 ((inNs bs b k).1 : Int))]) [(9, rIn B (inNs bs b k).2.1 (inNs bs b k).2.2)] := by
  cases b with
  | true => exact inNum_bad B k
  | false => exact inNum_ok B bs hB k hk hl _ rfl

theorem inText_any (B : List D) (bs : List UInt8) (hB : B = bs.map byteD) (k : Nat) (b : Bool) (hk : k ≤ bs.length) (hl : bs.length < 2 ^ 63) :
    LocalCall Try.prog 73 [.ptr 9 []] [(9, rIn B k b)] [] (one [.d (.sl ((inTs bs b k).1.map byteD))]) [(9, rIn B (inTs bs b k).2.1 (inTs bs b k).2.2)] := by
  cases b with
  | true => exact inText_bad B k
  | false => exact inText_ok B bs hB k hk hl _ rfl

theorem inK_le (bs : List UInt8) (n k : Nat) (h : k ≤ bs.length) : (inK bs n k).2.1 ≤ bs.length := by
  unfold inK
  by_cases hc : k + n ≤ bs.length
  · rw [decide_eq_true hc]; exact hc
  · rw [decide_eq_false hc]; exact h

theorem inNs_le (bs : List UInt8) (b : Bool) (k : Nat) (h : k ≤ bs.length) : (inNs bs b k).2.1 ≤ bs.length := by
  cases b with
  | true => exact h
  | false => exact inN_le bs 10 k 0 0 h

theorem inTs_le (bs : List UInt8) (b : Bool) (k : Nat) (h : k ≤ bs.length) : (inTs bs b k).2.1 ≤ bs.length := by
  cases b with
  | true => exact h
  | false =>
    have := inC_le bs 1048576 k h
    unfold inTs inT
    simp only [cond_false]
    cases (inC bs 1048576 k).2.2 with
    | true => exact this
    | false => exact inK_le bs _ _ this

def optT (r : List UInt8 × Nat × Bool) : Option (List UInt8 × Nat) := bif r.2.2 then none else some (r.1, r.2.1)

theorem inT_rdT (bs : List UInt8) (k : Nat) : rdT bs k = optT (inT bs k) := by
  unfold rdT inT
  have h := inC_rdC bs 1048576 k
  rw [show ((1048576 : Nat) : Int) = 1048576 from rfl] at h
  rw [h]
  rcases inC bs 1048576 k with ⟨v, e, b⟩
  cases b with
  | true => rfl
  | false =>
    simp only [optN, cond_false]
    unfold inK
    cases decide (e + v ≤ bs.length) <;> rfl

/-- The error's number of what was read. -/
def errI {α : Type} (o : Option α) : Int := if o = none then 3 else 0

theorem errI_none {α : Type} : errI (none : Option α) = 3 := rfl
theorem errI_some {α : Type} (x : α) : errI (some x) = 0 := rfl

end Go.Proofs.Ytcdjheiccefcdaa

/-
Digests as data: what '==' says of them.
-/
set_option linter.unusedSimpArgs false
set_option linter.unusedVariables false
namespace Go.Proofs.Ytcdjheiccefcdaa
open Go.Sym
set_option maxRecDepth 10000
set_option maxHeartbeats 1000000

theorem fits_dig (f : Nat) (a : List UInt8) : D.fits Try.prog (f + 2) 23 (.arr 32 1 (a.map byteD)) := by
  have hu : Try.prog.underlying 23 = some (.array 32 5) := rfl
  have hu2 : Try.prog.underlying 5 = some (.int .u8) := rfl
  simp only [D.fits, hu]
  refine ⟨trivial, rfl, rfl, fun y hy => ?_, fun y hy => ?_⟩
  · obtain ⟨c, _, rfl⟩ := List.mem_map.1 hy; rfl
  · obtain ⟨c, _, rfl⟩ := List.mem_map.1 hy
    simp only [hu2, byteD]

theorem beqs_bytes : ∀ a b : List UInt8, D.beqs (a.map byteD) (b.map byteD) = decide (a = b)
  | [], [] => rfl
  | [], _ :: _ => rfl
  | _ :: _, [] => rfl
  | x :: a, y :: b => by
    simp only [List.map_cons, D.beqs, beqs_bytes a b, byteD, D.beq, List.cons.injEq]
    rw [Bool.eq_iff_iff]
    simp only [Bool.and_eq_true, decide_eq_true_eq, beq_iff_eq]
    exact and_congr_left fun _ => ⟨fun h => UInt8.toNat_inj.1 (Int.ofNat_inj.1 h), fun h => by rw [h]⟩
theorem beq_dig (n e m f : Nat) (a b : List UInt8) : (D.arr n e (a.map byteD)).beq (.arr m f (b.map byteD)) = decide (a = b) := by
  simp only [D.beq]; exact beqs_bytes a b

end Go.Proofs.Ytcdjheiccefcdaa

/-
The record layer: what the reader does, as an option says; names.
-/
set_option linter.unusedSimpArgs false
set_option linter.unusedVariables false
namespace Go.Proofs.Ytcdjheiccefcdaa
open Go.Sym
set_option maxRecDepth 10000
set_option maxHeartbeats 1000000

theorem num_e (B : List D) (bs : List UInt8) (hB : B = bs.map byteD) (k : Nat) (hl : bs.length < 2 ^ 63) :
    LocalE (rdN bs 10 k 0 0) Try.prog 64 [.ptr 9 []] [(9, rd B k)] [] (fun a => [.d (.int .u64 (a.1 : Int))]) (fun a => [(9, rd B a.2)]) [] fault [(9, .dead)] :=
  ⟨fun a h => num_read B bs hB k a.1 a.2 h hl, fun h => num_nread B bs hB k h hl⟩

theorem text_e (B : List D) (bs : List UInt8) (hB : B = bs.map byteD) (k : Nat) (hl : bs.length < 2 ^ 63) :
    LocalE (rdT bs k) Try.prog 61 [.ptr 9 []] [(9, rd B k)] [] (fun a => [.d (.sl (a.1.map byteD))]) (fun a => [(9, rd B a.2)]) [] fault [(9, .dead)] :=
  ⟨fun a h => text_read B bs a.1 hB k a.2 h hl, fun h => text_nread B bs hB k h hl⟩

/-- A digest. -/
def rdG (bs : List UInt8) (k : Nat) : Option (List UInt8 × Nat) := bif decide (k + 32 ≤ bs.length) then some ((bs.drop k).take 32, k + 32) else none

theorem rdG_ok {bs d : List UInt8} {k e : Nat} (h : rdG bs k = some (d, e)) : k + 32 ≤ bs.length ∧ d = (bs.drop k).take 32 ∧ e = k + 32 := by
  unfold rdG at h
  by_cases hk : k + 32 ≤ bs.length
  · rw [decide_eq_true hk, cond_true] at h
    cases h; exact ⟨hk, rfl, rfl⟩
  · rw [decide_eq_false hk, cond_false] at h; cases h

theorem rdG_no {bs : List UInt8} {k : Nat} (h : rdG bs k = none) : ¬ k + 32 ≤ bs.length := fun hk => by
  unfold rdG at h
  rw [decide_eq_true hk, cond_true] at h; cases h

theorem dig_e (B : List D) (bs : List UInt8) (hB : B = bs.map byteD) (k : Nat) (hk : k ≤ bs.length) (hl : bs.length < 2 ^ 63) :
    LocalE (rdG bs k) Try.prog 65 [.ptr 9 []] [(9, rd B k)] [] (fun a => [.d (.arr 32 1 (a.1.map byteD))]) (fun a => [(9, rd B a.2)]) [] fault [(9, .dead)] := by
  refine ⟨fun a h => ?_, fun h => dig_nread B bs hB k hk (rdG_no h) hl⟩
  obtain ⟨h1, h2, h3⟩ := rdG_ok h
  rw [h2, h3]
  exact dig_read B bs hB k h1 hl

theorem rdT_le {bs ts : List UInt8} {k m : Nat} (h : rdT bs k = some (ts, m)) : m ≤ bs.length := by
  obtain ⟨n, e, _, h2, _, h4⟩ := rdT_ok h
  omega
theorem rdN_le2 {bs : List UInt8} {k v e : Nat} (h : rdN bs 10 k 0 0 = some (v, e)) : e ≤ bs.length := (rdN_le bs _ _ _ _ _ _ h).2
theorem rdG_le {bs ts : List UInt8} {k m : Nat} (h : rdG bs k = some (ts, m)) : m ≤ bs.length := by
  obtain ⟨h1, _, h3⟩ := rdG_ok h
  omega

/-! ### Names -/

def okC (c : UInt8) : Prop := (97 ≤ c.toNat ∧ c.toNat ≤ 122) ∨ (48 ≤ c.toNat ∧ c.toNat ≤ 57) ∨ c.toNat = 46 ∨ c.toNat = 45
instance (c : UInt8) : Decidable (okC c) := by unfold okC; exact inferInstance

def nameB (n : List UInt8) : Bool := n.all (fun c => decide (okC c)) && decide (0 < n.length ∧ n.length ≤ 32)

abbrev strD (n : List UInt8) : D := .str ⟨n.toArray⟩

theorem str_list (n : List UInt8) : (⟨n.toArray⟩ : ByteArray).toList = n := by rw [ByteArray.toList_eq]
/-- A binding. -/
structure Bnd where
  name : List UInt8
  key : List UInt8
  serial : Nat

abbrev bD (b : Bnd) : D := .st [strD b.name, .sl (b.key.map byteD), .int .u64 (b.serial : Int)]
def b0 : Bnd := ⟨[], [], 0⟩

/-- What is wrong with a name and a key. -/
def checkI (n k : List UInt8) : Int := bif nameB n then (bif decide (k.length = 0 ∨ 64 < k.length) then 5 else 0) else 4

end Go.Proofs.Ytcdjheiccefcdaa

/-
What the closures of the record layer read: bindings, requests, signed roots.
-/
set_option linter.unusedSimpArgs false
set_option linter.unusedVariables false
namespace Go.Proofs.Ytcdjheiccefcdaa
open Go.Sym
set_option maxRecDepth 10000
set_option maxHeartbeats 2000000

theorem rdN_end {bs : List UInt8} {k : Nat} {a : Nat × Nat} (h : rdN bs 10 k 0 0 = some a) : a.2 ≤ bs.length := rdN_le2 (v := a.1) (e := a.2) h
theorem rdG_end {bs : List UInt8} {k : Nat} {a : List UInt8 × Nat} (h : rdG bs k = some a) : a.2 ≤ bs.length := rdG_le (ts := a.1) (m := a.2) h

/-- A binding. -/
def rdBnd (bs : List UInt8) : Option (Bnd × Nat) := (rdT bs 0).bind fun a => (rdT bs a.2).bind fun b => (rdN bs 10 b.2 0 0).bind fun c => bif decide (checkI a.1 b.1 = 0) then some (⟨a.1, b.1, c.1⟩, c.2) else none

/-- A request. -/
structure Req where
  kind : Int
  name : List UInt8
  key : List UInt8
  auth : List UInt8

abbrev qD (q : Req) : D := .st [.int .i64 q.kind, strD q.name, .sl (q.key.map byteD), .arr 32 1 (q.auth.map byteD)]
def zero32 : List UInt8 := List.replicate 32 0

/-- Who asks. -/
def rdAu (bs : List UInt8) (n k : Nat) : Option (List UInt8 × Nat) := bif decide (n = 2) then rdG bs k else some (zero32, k)

def rdReq (bs : List UInt8) : Option (Req × Nat) := (rdC bs 2 0).bind fun k => (rdT bs k.2).bind fun a => (rdT bs a.2).bind fun b => (rdAu bs k.1 b.2).bind fun c =>
  bif decide (1 ≤ k.1 ∧ checkI a.1 b.1 = 0) then some (⟨(k.1 : Int), a.1, b.1, c.1⟩, c.2) else none

/-- A root, and one signed. -/
structure Rt where
  epoch : Nat
  prev : List UInt8
  tree : List UInt8
  next : List UInt8
structure Sgn where
  root : Rt
  sig : List UInt8

abbrev digD (d : List UInt8) : D := .arr 32 1 (d.map byteD)
abbrev rootD (r : Rt) : D := .st [.int .u64 (r.epoch : Int), digD r.prev, digD r.tree, digD r.next]
abbrev sD (s : Sgn) : D := .st [rootD s.root, .sl (s.sig.map byteD)]

def rdSgn (bs : List UInt8) : Option (Sgn × Nat) := (rdN bs 10 0 0 0).bind fun e => (rdG bs e.2).bind fun p => (rdG bs p.2).bind fun t => (rdG bs t.2).bind fun n => (rdT bs n.2).bind fun s => some (⟨⟨e.1, p.1, t.1, n.1⟩, s.1⟩, s.2)

theorem sgn_in (B : List D) (bs : List UInt8) (hB : B = bs.map byteD) (hl : bs.length < 2 ^ 63) :
    LocalE (rdSgn bs) Try.prog 63 [.ptr 9 []] [(9, rd B 0)] [] (fun a => [.d (sD a.1)]) (fun a => [(9, rd B a.2)]) [] fault [(9, .dead)] := by
  refine vc_fnE mixed Try.func63 rfl rfl [] (rdSgn bs) (vc_chk rfl) ?_
  repeat' (first
      | ((with_reducible refine vc_chk ?_); first | decide +kernel | rfl)
      | (with_reducible refine vc_side0 ?_; rfl)
      | (with_reducible first
           | refine vc_true ?_ | refine vc_true2 ?_ | refine vc_side ?_ ?_ | refine vc_triv | refine vc_later ?_ | refine vc_caseT ?_ | refine vc_caseF ?_ | refine vc_cons ?_ | refine vc_nil ?_ ?_ | refine vc_seq ?_
              | refine vc_region ?_ | refine vc_cond ?_ | refine vc_block ?_ | refine vc_retc ?_ | refine vc_exit ?_ | refine vc_skip ?_ | refine vc_scope ?_ | refine vc_label ?_ | refine vc_goto ?_ | refine vc_wkSl0
              | refine vc_wkHp0 | refine vc_eqAVs0 | refine vc_preG0 | refine vc_wkSl ?_ ?_ | refine vc_wkHp ?_ ?_ | refine vc_eqAVs ?_ ?_ | refine vc_preG ?_ ?_ | refine vc_side0 ?_
              | refine vc_eAt [] 9 (by with_unfolding_all rfl) (num_e B bs hB 0 hl) (fun a0 h0 => ?_) (fun h0 => ?_)
              | refine vc_eAt [] 9 (by with_unfolding_all rfl) (dig_e B bs hB a0.2 (rdN_end h0) hl) (fun a1 h1 => ?_) (fun h1 => ?_)
              | refine vc_eAt [] 9 (by with_unfolding_all rfl) (dig_e B bs hB a1.2 (rdG_end h1) hl) (fun a2 h2 => ?_) (fun h2 => ?_)
              | refine vc_eAt [] 9 (by with_unfolding_all rfl) (dig_e B bs hB a2.2 (rdG_end h2) hl) (fun a3 h3 => ?_) (fun h3 => ?_)
              | refine vc_eAt [] 9 (by with_unfolding_all rfl) (text_e B bs hB a3.2 hl) (fun a4 h4 => ?_) (fun h4 => ?_) | refine vc_ek (⟨⟨a0.1, a1.1, a2.1, a3.1⟩, a4.1⟩, a4.2) ?_ ?_ | refine vc_ep ?_ ?_
              | refine vc_panc [] [] ?_ ?_ | refine vc_weakf [] ?_ ?_ ?_ | refine vc_and ?_ ?_ | refine vc_ret [] [] ?_)
      | ((with_reducible first | refine vc_caseD (fun h => ?_) (fun h => ?_) | refine vc_caseN (fun h => ?_) (fun h => ?_)) <;> try (exfalso; omega))
      | ((with_reducible refine vc_case (fun h => ?_) (fun h => ?_)) <;> (try simp only [Go.Sym.vs1, reduceCtorEq] at h) <;> try (exfalso; first | omega | (simp at h; done)))
      | (conv in Vc _ => arg 1; whnf
         first
          | (with_reducible refine vc_side0 ?_; rfl)
          | (with_reducible first
              | refine vc_true ?_ | refine vc_true2 ?_ | refine vc_side ?_ ?_ | refine vc_triv | refine vc_later ?_ | refine vc_caseT ?_ | refine vc_caseF ?_ | refine vc_cons ?_ | refine vc_nil ?_ ?_ | refine vc_seq ?_
                 | refine vc_region ?_ | refine vc_cond ?_ | refine vc_block ?_ | refine vc_retc ?_ | refine vc_exit ?_ | refine vc_skip ?_ | refine vc_scope ?_ | refine vc_label ?_ | refine vc_goto ?_ | refine vc_wkSl0
                 | refine vc_wkHp0 | refine vc_eqAVs0 | refine vc_preG0 | refine vc_wkSl ?_ ?_ | refine vc_wkHp ?_ ?_ | refine vc_eqAVs ?_ ?_ | refine vc_preG ?_ ?_ | refine vc_side0 ?_
                 | refine vc_eAt [] 9 (by with_unfolding_all rfl) (num_e B bs hB 0 hl) (fun a0 h0 => ?_) (fun h0 => ?_)
                 | refine vc_eAt [] 9 (by with_unfolding_all rfl) (dig_e B bs hB a0.2 (rdN_end h0) hl) (fun a1 h1 => ?_) (fun h1 => ?_)
                 | refine vc_eAt [] 9 (by with_unfolding_all rfl) (dig_e B bs hB a1.2 (rdG_end h1) hl) (fun a2 h2 => ?_) (fun h2 => ?_)
                 | refine vc_eAt [] 9 (by with_unfolding_all rfl) (dig_e B bs hB a2.2 (rdG_end h2) hl) (fun a3 h3 => ?_) (fun h3 => ?_)
                 | refine vc_eAt [] 9 (by with_unfolding_all rfl) (text_e B bs hB a3.2 hl) (fun a4 h4 => ?_) (fun h4 => ?_) | refine vc_ek (⟨⟨a0.1, a1.1, a2.1, a3.1⟩, a4.1⟩, a4.2) ?_ ?_ | refine vc_ep ?_ ?_
                 | refine vc_panc [] [] ?_ ?_ | refine vc_weakf [] ?_ ?_ ?_ | refine vc_and ?_ ?_ | refine vc_ret [] [] ?_)
          | ((with_reducible first | refine vc_caseD (fun h => ?_) (fun h => ?_) | refine vc_caseN (fun h => ?_) (fun h => ?_)) <;> try (exfalso; omega))
          | ((with_reducible refine vc_case (fun h => ?_) (fun h => ?_)) <;> (try simp only [Go.Sym.vs1, reduceCtorEq] at h) <;> try (exfalso; first | omega | (simp at h; done)))))
  all_goals first
    | rfl
    | exact ⟨trivial, trivial⟩
    | exact ⟨trivial, trivial, trivial⟩
    | exact ⟨trivial, trivial, trivial, trivial⟩
    | exact ⟨trivial, trivial, trivial, trivial, trivial⟩
    | (simp [rdSgn, h0]; done)
    | (simp [rdSgn, h0, h1]; done)
    | (simp [rdSgn, h0, h1, h2]; done)
    | (simp [rdSgn, h0, h1, h2, h3]; done)
    | (simp [rdSgn, h0, h1, h2, h3, h4]; done)

end Go.Proofs.Ytcdjheiccefcdaa

/-
What the closures of the record layer read: proofs.
-/
set_option linter.unusedSimpArgs false
set_option linter.unusedVariables false
namespace Go.Proofs.Ytcdjheiccefcdaa
open Go.Sym
set_option maxRecDepth 10000
set_option maxHeartbeats 4000000

/-- A proof. -/
structure Prf where
  sides : List (List UInt8)
  fin : Int
  index : List UInt8
  value : List UInt8

abbrev pD (p : Prf) : D := .st [.sl (p.sides.map digD), .int .i64 p.fin, digD p.index, digD p.value]

/-- So many digests. -/
def rdGs (bs : List UInt8) : Nat → Nat → Option (List (List UInt8) × Nat)
  | 0, k => some ([], k)
  | n + 1, k => (rdG bs k).bind fun a => (rdGs bs n a.2).map fun p => (a.1 :: p.1, p.2)

structure RgI (bs : List UInt8) (R : Option (List (List UInt8) × Nat)) (x : List (List UInt8) × Nat × Nat) : Prop where
  h : (rdGs bs x.2.1 x.2.2).map (fun p => (x.1 ++ p.1, p.2)) = R
  le : x.1.length + x.2.1 ≤ 256
  kle : x.2.2 ≤ bs.length

theorem RgI.stop {bs : List UInt8} {R : Option (List (List UInt8) × Nat)} {x : List (List UInt8) × Nat × Nat} (hI : RgI bs R x) (h : x.2.1 = 0) : R = some (x.1, x.2.2) := by
  obtain ⟨acc, n, k⟩ := x
  obtain ⟨h1, _, _⟩ := hI
  simp only at h h1
  subst h
  rw [← h1]; simp [rdGs]

theorem RgI.no {bs : List UInt8} {R : Option (List (List UInt8) × Nat)} {x : List (List UInt8) × Nat × Nat} (hI : RgI bs R x) (h : 0 < x.2.1) (hg : rdG bs x.2.2 = none) : R = none := by
  obtain ⟨acc, n, k⟩ := x
  obtain ⟨h1, _, _⟩ := hI
  simp only at h h1 hg
  obtain ⟨m, rfl⟩ : ∃ m, n = m + 1 := ⟨n - 1, by omega⟩
  rw [← h1]; simp [rdGs, hg]

theorem RgI.next {bs : List UInt8} {R : Option (List (List UInt8) × Nat)} {x : List (List UInt8) × Nat × Nat} (hI : RgI bs R x) (h : 0 < x.2.1) {a : List UInt8 × Nat} (hg : rdG bs x.2.2 = some a) : RgI bs R (x.1 ++ [a.1], x.2.1 - 1, a.2) := by
  obtain ⟨acc, n, k⟩ := x
  obtain ⟨h1, h2, _⟩ := hI
  simp only at h h1 h2 hg
  obtain ⟨m, rfl⟩ : ∃ m, n = m + 1 := ⟨n - 1, by omega⟩
  refine ⟨?_, by simp; omega, rdG_end hg⟩
  rw [← h1]
  simp only [rdGs, hg, Option.bind_some, Nat.add_sub_cancel, Option.map_map]
  congr 1
  funext p
  simp

def rdLf (bs : List UInt8) (e k : Nat) : Option ((List UInt8 × List UInt8) × Nat) := bif decide (e = 1) then (rdG bs k).bind fun a => (rdG bs a.2).bind fun b => some ((a.1, b.1), b.2) else some ((zero32, zero32), k)

def rdPrf (bs : List UInt8) : Option (Prf × Nat) := (rdC bs 256 0).bind fun n => (rdGs bs n.1 n.2).bind fun g => (rdC bs 1 g.2).bind fun e => (rdLf bs e.1 e.2).bind fun l => some (⟨g.1, (e.1 : Int), l.1.1, l.1.2⟩, l.2)

end Go.Proofs.Ytcdjheiccefcdaa

/-
What is read to its end; things of nothing.
-/
set_option linter.unusedSimpArgs false
set_option linter.unusedVariables false
namespace Go.Proofs.Ytcdjheiccefcdaa
open Go.Sym
set_option maxRecDepth 10000
set_option maxHeartbeats 1000000

/-- What is read, if it ends where the bytes end. -/
def toFin {α : Type} (len : Nat) (r : Option (α × Nat)) : Option α := r.bind fun a => bif decide (a.2 = len) then some a.1 else none

theorem toFin_cases {α : Type} (len : Nat) (r : Option (α × Nat)) : (∃ a, r = some a ∧ a.2 = len ∧ toFin len r = some a.1) ∨ ((r = none ∨ ∃ a, r = some a ∧ ¬ a.2 = len) ∧ toFin len r = none) := by
  cases r with
  | none => exact .inr ⟨.inl rfl, rfl⟩
  | some a =>
    by_cases h : a.2 = len
    · exact .inl ⟨a, rfl, h, by simp [toFin, h]⟩
    · exact .inr ⟨.inr ⟨a, rfl, h⟩, by simp [toFin, h]⟩

def q0 : Req := ⟨0, [], [], zero32⟩
def s0 : Sgn := ⟨⟨0, zero32, zero32, zero32⟩, []⟩
def p0 : Prf := ⟨[], 0, zero32, zero32⟩

end Go.Proofs.Ytcdjheiccefcdaa

/-
Things of the record layer compared; whether a proof may be.
-/
set_option linter.unusedSimpArgs false
set_option linter.unusedVariables false
namespace Go.Proofs.Ytcdjheiccefcdaa
open Go.Sym
set_option maxRecDepth 10000
set_option maxHeartbeats 4000000

instance : DecidableEq Bnd := fun a b => if h : a.name = b.name ∧ a.key = b.key ∧ a.serial = b.serial then isTrue (by cases a; cases b; simp_all) else isFalse (by rintro rfl; exact h ⟨rfl, rfl, rfl⟩)
instance : DecidableEq Req := fun a b => if h : a.kind = b.kind ∧ a.name = b.name ∧ a.key = b.key ∧ a.auth = b.auth then isTrue (by cases a; cases b; simp_all) else isFalse (by rintro rfl; exact h ⟨rfl, rfl, rfl, rfl⟩)
instance : DecidableEq Rt := fun a b => if h : a.epoch = b.epoch ∧ a.prev = b.prev ∧ a.tree = b.tree ∧ a.next = b.next then isTrue (by cases a; cases b; simp_all) else isFalse (by rintro rfl; exact h ⟨rfl, rfl, rfl, rfl⟩)
instance : DecidableEq Sgn := fun a b => if h : a.root = b.root ∧ a.sig = b.sig then isTrue (by cases a; cases b; simp_all) else isFalse (by rintro rfl; exact h ⟨rfl, rfl⟩)
instance : DecidableEq Prf := fun a b => if h : a.sides = b.sides ∧ a.fin = b.fin ∧ a.index = b.index ∧ a.value = b.value then isTrue (by cases a; cases b; simp_all) else isFalse (by rintro rfl; exact h ⟨rfl, rfl, rfl, rfl⟩)

theorem rt_ext (a b : Rt) : a = b ↔ a.epoch = b.epoch ∧ a.prev = b.prev ∧ a.tree = b.tree ∧ a.next = b.next := ⟨fun h => by subst h; exact ⟨rfl, rfl, rfl, rfl⟩, fun h => by cases a; cases b; simp_all⟩
theorem sgn_ext (a b : Sgn) : a = b ↔ a.root = b.root ∧ a.sig = b.sig := ⟨fun h => by subst h; exact ⟨rfl, rfl⟩, fun h => by cases a; cases b; simp_all⟩
theorem bool_iff {b : Bool} {p : Prop} [Decidable p] (h : b = true ↔ p) : D.bool b = D.bool (decide p) := by
  congr 1
  rw [Bool.eq_iff_iff, decide_eq_true_eq]; exact h

theorem fits_root (f : Nat) (r : Rt) : D.fits Try.prog (f + 3) 27 (rootD r) := by
  have h1 := fits_dig f r.prev
  have h2 := fits_dig f r.tree
  have h3 := fits_dig f r.next
  exact ⟨by decide +kernel, ⟨by decide, rfl, rfl⟩, rfl, ⟨by decide, rfl, rfl⟩, h1, ⟨by decide, rfl, rfl⟩, h2, ⟨by decide, rfl, rfl⟩, h3, trivial⟩

theorem beq_root (a b : Rt) : D.beq (rootD a) (rootD b) = decide (a = b) := by
  simp only [D.beq, D.beqs, beqs_bytes]
  rw [Bool.eq_iff_iff, decide_eq_true_eq, rt_ext]
  simp only [Bool.and_eq_true, beq_iff_eq, decide_eq_true_eq, and_true, Int.ofNat_inj]

theorem sameSgn_ok (a b : Sgn) : LocalCall Try.prog 38 [.d (sD a), .d (sD b)] [] [] (one [.d (.bool (decide (a = b)))]) [] := by
  refine vc_fn mixed Try.func38 rfl rfl [] (vc_chk rfl) ?_
  repeat' (first
      | ((with_reducible refine vc_chk ?_); first | decide +kernel | rfl)
      | (with_reducible refine vc_side0 ?_; rfl)
      | (with_reducible first
           | refine vc_true ?_ | refine vc_true2 ?_ | refine vc_side ?_ ?_ | refine vc_triv | refine vc_later ?_ | refine vc_caseT ?_ | refine vc_caseF ?_ | refine vc_cons ?_ | refine vc_nil ?_ ?_ | refine vc_seq ?_
              | refine vc_region ?_ | refine vc_cond ?_ | refine vc_block ?_ | refine vc_retc ?_ | refine vc_exit ?_ | refine vc_skip ?_ | refine vc_scope ?_ | refine vc_label ?_ | refine vc_goto ?_ | refine vc_wkSl0
              | refine vc_wkHp0 | refine vc_eqAVs0 | refine vc_preG0 | refine vc_wkSl ?_ ?_ | refine vc_wkHp ?_ ?_ | refine vc_eqAVs ?_ ?_ | refine vc_preG ?_ ?_ | refine vc_side0 ?_ | refine vc_weakf [] ?_ ?_ ?_
              | refine vc_and ?_ ?_ | refine vc_ret [] [] ?_)
      | ((with_reducible first | refine vc_caseD (fun h => ?_) (fun h => ?_) | refine vc_caseN (fun h => ?_) (fun h => ?_)) <;> try (exfalso; omega))
      | ((with_reducible refine vc_case (fun h => ?_) (fun h => ?_)) <;> (try simp only [Go.Sym.vs1, reduceCtorEq] at h) <;> try (exfalso; first | omega | (simp at h; done)))
      | (conv in Vc _ => arg 1; whnf
         first
          | (with_reducible refine vc_side0 ?_; rfl)
          | (with_reducible first
              | refine vc_true ?_ | refine vc_true2 ?_ | refine vc_side ?_ ?_ | refine vc_triv | refine vc_later ?_ | refine vc_caseT ?_ | refine vc_caseF ?_ | refine vc_cons ?_ | refine vc_nil ?_ ?_ | refine vc_seq ?_
                 | refine vc_region ?_ | refine vc_cond ?_ | refine vc_block ?_ | refine vc_retc ?_ | refine vc_exit ?_ | refine vc_skip ?_ | refine vc_scope ?_ | refine vc_label ?_ | refine vc_goto ?_ | refine vc_wkSl0
                 | refine vc_wkHp0 | refine vc_eqAVs0 | refine vc_preG0 | refine vc_wkSl ?_ ?_ | refine vc_wkHp ?_ ?_ | refine vc_eqAVs ?_ ?_ | refine vc_preG ?_ ?_ | refine vc_side0 ?_ | refine vc_weakf [] ?_ ?_ ?_
                 | refine vc_and ?_ ?_ | refine vc_ret [] [] ?_)
          | ((with_reducible first | refine vc_caseD (fun h => ?_) (fun h => ?_) | refine vc_caseN (fun h => ?_) (fun h => ?_)) <;> try (exfalso; omega))
          | ((with_reducible refine vc_case (fun h => ?_) (fun h => ?_)) <;> (try simp only [Go.Sym.vs1, reduceCtorEq] at h) <;> try (exfalso; first | omega | (simp at h; done)))))
  all_goals (try simp only [bytesOf_map, str_list] at *)
  all_goals first
    | exact ⟨trivial, trivial⟩
    | exact ⟨by decide +kernel, fits_root 5 _, fits_root 5 _⟩
    | (have hr : D.beq (rootD a.root) (rootD b.root) = true := h
       rw [beq_root, decide_eq_true_eq] at hr
       refine bool_iff ?_; rw [cond_true, sgn_ext, beq_iff_eq]; exact ⟨fun e => ⟨hr, e⟩, fun e => e.2⟩)
    | (have hr : D.beq (rootD a.root) (rootD b.root) = false := h
       rw [beq_root, decide_eq_false_iff_not] at hr
       exact bool_no fun e => hr (by rw [e]))
    | rfl

def rightP (p : Prf) : Prop := p.sides.length ≤ 256 ∧ (p.fin = 1 ∨ (p.fin = 0 ∧ p.index = zero32 ∧ p.value = zero32))
instance (p : Prf) : Decidable (rightP p) := by unfold rightP; exact inferInstance

end Go.Proofs.Ytcdjheiccefcdaa

/-
The references' numbers and texts, handed back as rows of their own; texts and digests behind bytes.
-/
set_option linter.unusedSimpArgs false
set_option linter.unusedVariables false
namespace Go.Proofs.Ytcdjheiccefcdaa
open Go.Sym
set_option maxRecDepth 10000
set_option maxHeartbeats 1000000

theorem room30 {k j : Nat} (hj : j = 1) (h : k ≤ 2 ^ 30) : Room k j := by subst hj; unfold Room; omega
theorem rNum_own (i : Int) (n : Nat) (hi : i = n) (hn : n < 2 ^ 64) : LocalCall Try.prog 67 [.d (.int .u64 i)] [] [2] (one [.sl 2 [] 1 0 ((numB n).map byteD).length]) [(2, .row 1 ((numB n).map byteD))] := by
  subst hi
  have h10 := numB_le10 hn
  refine vc_fn mixed Try.func67 rfl rfl [(500001, [7001003])] (vc_chk rfl) ?_
  repeat' (first
      | ((with_reducible refine vc_chk ?_); first | decide +kernel | rfl)
      | (with_reducible refine vc_side0 ?_; rfl)
      | (with_reducible first
           | refine vc_true ?_ | refine vc_true2 ?_ | refine vc_side ?_ ?_ | refine vc_triv | refine vc_later ?_ | refine vc_caseT ?_ | refine vc_caseF ?_ | refine vc_cons ?_ | refine vc_nil ?_ ?_ | refine vc_seq ?_
              | refine vc_region ?_ | refine vc_cond ?_ | refine vc_block ?_ | refine vc_retc ?_ | refine vc_exit ?_ | refine vc_skip ?_ | refine vc_scope ?_ | refine vc_label ?_ | refine vc_goto ?_ | refine vc_wkSl0
              | refine vc_wkHp0 | refine vc_eqAVs0 | refine vc_preG0 | refine vc_wkSl ?_ ?_ | refine vc_wkHp ?_ ?_ | refine vc_eqAVs ?_ ?_ | refine vc_preG ?_ ?_ | refine vc_side0 ?_
              | refine vc_loopI 20 (fun (x : List D × Nat) => [(3, .sl 7 [] 1 0 x.1.length), (0, .d (.int .u64 (x.2 : Int)))]) (fun x => [(7, .row 1 x.1)]) (fun x => x.2) (fun x => x.1 ++ (numB x.2).map byteD = (numB n).map byteD ∧ x.2 < 2 ^ 64) ([], n) [] ?_ ?_ ?_ ?_ ?_ (fun x hI => ?_)
              | refine vc_nextI (x.1 ++ [byteD (UInt8.ofNat (x.2 % 128 + 128))], x.2 / 128) [(7, 4024)] ?_ ?_ ?_ ?_ ?_ ?_ | refine vc_ret [] [(2, 6016)] ?_ | refine vc_weakf [] ?_ ?_ ?_ | refine vc_and ?_ ?_
              | refine vc_ret [] [] ?_)
      | ((with_reducible first | refine vc_caseD (fun h => ?_) (fun h => ?_) | refine vc_caseN (fun h => ?_) (fun h => ?_)) <;> try (exfalso; omega))
      | ((with_reducible refine vc_case (fun h => ?_) (fun h => ?_)) <;> (try simp at h) <;> try (exfalso; omega))
      | (conv in Vc _ => arg 1; whnf
         first
          | (with_reducible refine vc_side0 ?_; rfl)
          | (with_reducible first
              | refine vc_true ?_ | refine vc_true2 ?_ | refine vc_side ?_ ?_ | refine vc_triv | refine vc_later ?_ | refine vc_caseT ?_ | refine vc_caseF ?_ | refine vc_cons ?_ | refine vc_nil ?_ ?_ | refine vc_seq ?_
                 | refine vc_region ?_ | refine vc_cond ?_ | refine vc_block ?_ | refine vc_retc ?_ | refine vc_exit ?_ | refine vc_skip ?_ | refine vc_scope ?_ | refine vc_label ?_ | refine vc_goto ?_ | refine vc_wkSl0
                 | refine vc_wkHp0 | refine vc_eqAVs0 | refine vc_preG0 | refine vc_wkSl ?_ ?_ | refine vc_wkHp ?_ ?_ | refine vc_eqAVs ?_ ?_ | refine vc_preG ?_ ?_ | refine vc_side0 ?_
                 | refine vc_loopI 20 (fun (x : List D × Nat) => [(3, .sl 7 [] 1 0 x.1.length), (0, .d (.int .u64 (x.2 : Int)))]) (fun x => [(7, .row 1 x.1)]) (fun x => x.2) (fun x => x.1 ++ (numB x.2).map byteD = (numB n).map byteD ∧ x.2 < 2 ^ 64) ([], n) [] ?_ ?_ ?_ ?_ ?_ (fun x hI => ?_)
                 | refine vc_nextI (x.1 ++ [byteD (UInt8.ofNat (x.2 % 128 + 128))], x.2 / 128) [(7, 4024)] ?_ ?_ ?_ ?_ ?_ ?_ | refine vc_ret [] [(2, 6016)] ?_ | refine vc_weakf [] ?_ ?_ ?_ | refine vc_and ?_ ?_
                 | refine vc_ret [] [] ?_)
          | ((with_reducible first | refine vc_caseD (fun h => ?_) (fun h => ?_) | refine vc_caseN (fun h => ?_) (fun h => ?_)) <;> try (exfalso; omega))
          | ((with_reducible refine vc_case (fun h => ?_) (fun h => ?_)) <;> (try simp at h) <;> try (exfalso; omega))))
  all_goals (try simp only [List.drop_zero, List.take_length, rstep])
  all_goals (try rw [rdiv (by omega)])
  all_goals first
    | rfl
    | exact ⟨rfl, hn⟩
    | omega
    | decide
    | exact fun h => by cases h
    | skip
  all_goals
    obtain ⟨acc, m⟩ := x
    obtain ⟨h1, h2⟩ := hI
    simp only at h1 h2 h ⊢
    have hroom : Room (numB n).length 1 := by unfold Room; omega
    have hlen := congrArg List.length h1
    simp only [List.length_append, List.length_map] at hlen
    rcases Nat.lt_or_ge m 128 with hm | hm
    rotate_left
    · have hm : ¬ m < 128 := by omega
      have hns := numB_step (xs := []) hm h1
      have hlen2 := congrArg List.length hns
      simp only [List.length_append, List.length_map, List.length_nil] at hlen2
      first
      | (exfalso; omega)
      | exact ⟨hns, by omega⟩
      | refine ⟨⟨by simp, trivial, room_le hroom rfl ?_⟩, fun y hy => ?_⟩
        · simp only [List.length_append]; omega
        · simp only [List.mem_singleton] at hy; subst hy; rfl
    · rw [numB_small hm] at h1
      first
      | (exfalso; omega)
      | (rw [low8 hm]; exact h1)
      | (rw [low8 hm]; exact congrArg List.length h1)
      | exact ⟨Nat.le_of_eq (Nat.zero_add _), trivial⟩
      | (rw [low8 hm]; exact congrArg D.sl h1)
      | (rw [low8 hm]; refine ⟨⟨by simp, trivial, room_le hroom rfl (Nat.le_of_eq ((congrArg List.length h1).trans (List.length_map _)))⟩, fun y hy => ?_⟩
         simp only [List.mem_singleton] at hy; subst hy; rfl)

theorem rText_b (t : List UInt8) (hroom : Room (textB t).length 1) : LocalCall Try.prog 68 [.d (.sl (t.map byteD))] [] [] (one [.d (.sl ((textB t).map byteD))]) [] := by
  have h := rText_ok (t.map byteD) (size_bytes t) (by rw [List.length_map]; simpa [textB] using hroom)
  rw [List.length_map, ← List.map_append] at h
  exact h

theorem text_b {A B : Nat} (h : A ≠ B) (x t : List UInt8) (hroom : (x ++ textB t).length ≤ 2 ^ 30) :
    LocalCall Try.prog 57 [.sl A [] 1 0 (x.map byteD).length, .d (.sl (t.map byteD))] [(A, .row 1 (x.map byteD))] [B] (one [.sl B [] 1 0 ((x ++ textB t).map byteD).length]) [(B, .row 1 ((x ++ textB t).map byteD)), (A, .dead)] := by
  have e : x.map byteD ++ (numB (t.map byteD).length).map byteD ++ t.map byteD = (x ++ textB t).map byteD := by
    rw [List.length_map, textB, List.map_append, List.map_append, List.append_assoc]
  have := text_at h (x.map byteD) (t.map byteD) (size_bytes t) (by rw [e, List.length_map]; exact room30 rfl hroom)
  rw [e] at this
  exact this

theorem dig_ok (xs ds : List D) (hd : ds.length = 32) (hts : ∀ y, y ∈ ds → y.size = 1) (hroom : Room (xs ++ ds).length 1) {A B : Nat} (h : A ≠ B) :
    LocalCall Try.prog 56 [.sl A [] 1 0 xs.length, .d (.arr 32 1 ds)] [(A, .row 1 xs)] [B] (one [.sl B [] 1 0 (xs ++ ds).length]) [(B, .row 1 (xs ++ ds)), (A, .dead)] :=
  local_ren [(1, A), (2, B)] [(A, 1), (B, 2)] (digest_ok xs ds hd hts hroom) (ren_two h (by simp [AV.namesL, AV.names]) (by simp [one, AV.names]))

theorem dig_b {A B : Nat} (h : A ≠ B) (x d : List UInt8) (hd : d.length = 32) (hroom : (x ++ d).length ≤ 2 ^ 30) :
    LocalCall Try.prog 56 [.sl A [] 1 0 (x.map byteD).length, .d (.arr 32 1 (d.map byteD))] [(A, .row 1 (x.map byteD))] [B] (one [.sl B [] 1 0 ((x ++ d).map byteD).length]) [(B, .row 1 ((x ++ d).map byteD)), (A, .dead)] := by
  have := dig_ok (x.map byteD) (d.map byteD) (by rw [List.length_map]; exact hd) (size_bytes d) (by rw [← List.map_append, List.length_map]; exact room30 rfl hroom) h
  rw [← List.map_append] at this
  exact this

end Go.Proofs.Ytcdjheiccefcdaa

/-
What record.Binding, Request, Signed and Proof write.
-/
set_option linter.unusedSimpArgs false
set_option linter.unusedVariables false
namespace Go.Proofs.Ytcdjheiccefcdaa
open Go.Sym
set_option maxRecDepth 10000
set_option maxHeartbeats 8000000

def bndB (b : Bnd) : List UInt8 := textB b.name ++ textB b.key ++ numB b.serial
def kindN (k : Int) : Nat := (IntKind.u64.wrap k).toNat
def reqB (q : Req) : List UInt8 := numB (kindN q.kind) ++ textB q.name ++ textB q.key ++ (bif decide (q.kind = 2) then q.auth else [])
def sgnB (s : Sgn) : List UInt8 := numB s.root.epoch ++ [s.root.prev, s.root.tree, s.root.next].flatten ++ textB s.sig
def prfB (p : Prf) : List UInt8 := numB p.sides.length ++ p.sides.flatten ++ numB (kindN p.fin) ++ (bif decide (p.fin = 1) then p.index ++ p.value else [])

theorem str_cut (n : List UInt8) : D.sl (List.take (⟨n.toArray⟩ : ByteArray).size (List.drop 0 (List.map byteD (⟨n.toArray⟩ : ByteArray).data.toList))) = D.sl (n.map byteD) := by
  show D.sl (List.take n.length (List.drop 0 (List.map byteD n))) = _
  rw [List.drop_zero, ← List.length_map (f := byteD), List.take_length]
theorem str_side (n : List UInt8) : 0 + (⟨n.toArray⟩ : ByteArray).size ≤ (List.map byteD (⟨n.toArray⟩ : ByteArray).data.toList).length ∧ True := by
  show 0 + n.length ≤ (List.map byteD n).length ∧ True
  rw [List.length_map]; exact ⟨Nat.le_of_eq (Nat.zero_add _), trivial⟩

theorem sgnW (s : Sgn) (he : s.root.epoch < 2 ^ 64) (h1 : s.root.prev.length = 32) (h2 : s.root.tree.length = 32) (h3 : s.root.next.length = 32) (hr : (sgnB s).length ≤ 2 ^ 30) : LocalCall Try.prog 32 [.d (sD s)] [] [] (one [.d (.sl ((sgnB s).map byteD))]) [] := by
  have hl := hr
  unfold sgnB at hl
  simp only [List.length_append] at hl
  have c0 := num_nil (A := 6) (B := 7) (by decide) _ _ rfl he
  generalize hds : [s.root.prev, s.root.tree, s.root.next] = ds at hl
  have h32 : ∀ d, d ∈ ds → d.length = 32 := fun d hd => by
    rw [← hds] at hd
    simp only [List.mem_cons, List.not_mem_nil, or_false] at hd
    rcases hd with rfl | rfl | rfl <;> assumption
  have hn : ds.length = 3 := by rw [← hds]; rfl
  have hg : ∀ i, i < 3 → (ds.getD i []).length = 32 := fun i hi => h32 _ (by rw [List.getD_eq_getElem?_getD, List.getElem?_eq_getElem (by omega)]; simp)
  have hJ : ∀ i, (ds.take i).flatten.length ≤ ds.flatten.length := fun i => by
    have h : ds.flatten = (ds.take i).flatten ++ (ds.drop i).flatten := by rw [← List.flatten_append, List.take_append_drop]
    rw [h, List.length_append]; omega
  have hN : ∀ i, i < 3 → (ds.take i).flatten ++ ds.getD i [] = (ds.take (i + 1)).flatten := fun i h => by
    rw [List.take_add_one, List.flatten_append, List.getD_eq_getElem?_getD, List.getElem?_eq_getElem (by omega)]; simp
  have c1 : ∀ i, i < 3 → LocalCall Try.prog 56 [.sl 7 [] 1 0 ((numB s.root.epoch ++ (ds.take i).flatten).map byteD).length, .d (.arr 32 1 ((ds.getD i []).map byteD))] [(7, .row 1 ((numB s.root.epoch ++ (ds.take i).flatten).map byteD))] [8] (one [.sl 8 [] 1 0 ((numB s.root.epoch ++ (ds.take (i + 1)).flatten).map byteD).length]) [(8, .row 1 ((numB s.root.epoch ++ (ds.take (i + 1)).flatten).map byteD)), (7, .dead)] := fun i hi => by
    have := dig_b (A := 7) (B := 8) (by decide) (numB s.root.epoch ++ (ds.take i).flatten) (ds.getD i []) (hg i hi) (by
      have := hJ (i + 1)
      rw [← hN i hi, List.length_append] at this
      simp only [List.length_append]; omega)
    rw [List.append_assoc, hN i hi] at this
    exact this
  have c2 := text_b (A := 7) (B := 8) (by decide) (numB s.root.epoch ++ (ds.take 3).flatten) s.sig (by
    have := hJ 3
    simp only [List.length_append]; omega)
  refine vc_fn mixed Try.func32 rfl rfl [] (vc_chk rfl) ?_
  repeat' (first
      | ((with_reducible refine vc_chk ?_); first | decide +kernel | rfl)
      | (with_reducible refine vc_side0 ?_; rfl)
      | (with_reducible first
           | refine vc_true ?_ | refine vc_true2 ?_ | refine vc_side ?_ ?_ | refine vc_triv | refine vc_later ?_ | refine vc_caseT ?_ | refine vc_caseF ?_ | refine vc_cons ?_ | refine vc_nil ?_ ?_ | refine vc_seq ?_
              | refine vc_region ?_ | refine vc_cond ?_ | refine vc_block ?_ | refine vc_retc ?_ | refine vc_exit ?_ | refine vc_skip ?_ | refine vc_scope ?_ | refine vc_label ?_ | refine vc_goto ?_ | refine vc_wkSl0
              | refine vc_wkHp0 | refine vc_eqAVs0 | refine vc_preG0 | refine vc_wkSl ?_ ?_ | refine vc_wkHp ?_ ?_ | refine vc_eqAVs ?_ ?_ | refine vc_preG ?_ ?_ | refine vc_side0 ?_
              | refine vc_loopI 33 (fun (i : Nat) => [(1, .ptr 1000 []), (3, .sl 7 [] 1 0 ((numB s.root.epoch ++ (ds.take i).flatten).map byteD).length), (19, .sl 3036 [] 32 0 3), (20, .d (.int .i64 3)), (21, .d (.int .i64 (i : Int)))]) (fun i => [(1000, .var (.d (sD s))), (7, .row 1 ((numB s.root.epoch ++ (ds.take i).flatten).map byteD)), (3036, .row 32 (ds.map digD))]) (fun i => 3 - i) (fun i => i ≤ 3) 0 [] ?_ ?_ ?_ ?_ ?_ (fun i hI => ?_)
              | refine vc_call [] (c1 i (by omega)) ?_ | refine vc_call [] c2 ?_ | refine vc_nextI (i + 1) [(7, 8)] ?_ ?_ ?_ ?_ ?_ ?_ | refine vc_call [] c0 ?_ | refine vc_ret [true] [] ?_ | refine vc_weakf [] ?_ ?_ ?_
              | refine vc_and ?_ ?_ | refine vc_ret [] [] ?_)
      | ((with_reducible first | refine vc_caseD (fun h => ?_) (fun h => ?_) | refine vc_caseN (fun h => ?_) (fun h => ?_)) <;> try (exfalso; omega))
      | ((with_reducible refine vc_case (fun h => ?_) (fun h => ?_)) <;> (try simp only [Go.Sym.vs1, reduceCtorEq] at h) <;> try (exfalso; first | omega | (simp at h; done)))
      | (conv in Vc _ => arg 1; whnf
         first
          | (with_reducible refine vc_side0 ?_; rfl)
          | (with_reducible first
              | refine vc_true ?_ | refine vc_true2 ?_ | refine vc_side ?_ ?_ | refine vc_triv | refine vc_later ?_ | refine vc_caseT ?_ | refine vc_caseF ?_ | refine vc_cons ?_ | refine vc_nil ?_ ?_ | refine vc_seq ?_
                 | refine vc_region ?_ | refine vc_cond ?_ | refine vc_block ?_ | refine vc_retc ?_ | refine vc_exit ?_ | refine vc_skip ?_ | refine vc_scope ?_ | refine vc_label ?_ | refine vc_goto ?_ | refine vc_wkSl0
                 | refine vc_wkHp0 | refine vc_eqAVs0 | refine vc_preG0 | refine vc_wkSl ?_ ?_ | refine vc_wkHp ?_ ?_ | refine vc_eqAVs ?_ ?_ | refine vc_preG ?_ ?_ | refine vc_side0 ?_
                 | refine vc_loopI 33 (fun (i : Nat) => [(1, .ptr 1000 []), (3, .sl 7 [] 1 0 ((numB s.root.epoch ++ (ds.take i).flatten).map byteD).length), (19, .sl 3036 [] 32 0 3), (20, .d (.int .i64 3)), (21, .d (.int .i64 (i : Int)))]) (fun i => [(1000, .var (.d (sD s))), (7, .row 1 ((numB s.root.epoch ++ (ds.take i).flatten).map byteD)), (3036, .row 32 (ds.map digD))]) (fun i => 3 - i) (fun i => i ≤ 3) 0 [] ?_ ?_ ?_ ?_ ?_ (fun i hI => ?_)
                 | refine vc_call [] (c1 i (by omega)) ?_ | refine vc_call [] c2 ?_ | refine vc_nextI (i + 1) [(7, 8)] ?_ ?_ ?_ ?_ ?_ ?_ | refine vc_call [] c0 ?_ | refine vc_ret [true] [] ?_ | refine vc_weakf [] ?_ ?_ ?_
                 | refine vc_and ?_ ?_ | refine vc_ret [] [] ?_)
          | ((with_reducible first | refine vc_caseD (fun h => ?_) (fun h => ?_) | refine vc_caseN (fun h => ?_) (fun h => ?_)) <;> try (exfalso; omega))
          | ((with_reducible refine vc_case (fun h => ?_) (fun h => ?_)) <;> (try simp only [Go.Sym.vs1, reduceCtorEq] at h) <;> try (exfalso; first | omega | (simp at h; done)))))
  all_goals first
    | rfl
    | exact str_side _
    | exact str_cut _
    | exact ⟨Nat.le_of_eq (Nat.zero_add _), trivial⟩
    | (rw [List.drop_zero, List.take_length]; rfl)
    | omega
    | (rw [List.take_zero, List.flatten_nil, List.append_nil]; done)
    | exact ⟨by omega, by omega⟩
    | (congr 1; rw [wrap64_id (by omega) (by omega)]; rfl)
    | (rw [Int.toNat_natCast, Nat.zero_add, (map_at (f := digD) (d := []) (by omega)).1]; rfl)
    | (rw [Int.toNat_natCast, Nat.zero_add, (map_at (f := digD) (d := []) (by omega)).1]; exact ⟨⟨by rw [List.length_map]; omega, trivial⟩, rfl⟩)
    | (obtain rfl : i = 3 := by omega
       rfl)
    | (subst hds; rfl)
    | (show D.arr 32 1 ((ds.map digD).getD (0 + (i : Int).toNat) .nilp).els = _
       rw [Int.toNat_natCast, Nat.zero_add, (map_at (f := digD) (d := []) (by omega)).1]; rfl)
    | (subst hds; rw [List.drop_zero, List.take_length]; rfl)
    | (obtain rfl : i = 3 := by omega
       subst hds; rw [List.drop_zero, List.take_length]; rfl)
    | skip

end Go.Proofs.Ytcdjheiccefcdaa

/-
What is written is what is read: bindings, requests, signed roots and proofs; no program in sight.
-/
set_option linter.unusedSimpArgs false
set_option linter.unusedVariables false
namespace Go.Proofs.Ytcdjheiccefcdaa
open Go.Sym
set_option maxRecDepth 10000
set_option maxHeartbeats 1000000

theorem rdG_iff {bs d : List UInt8} {k m : Nat} (h : rdG bs k = some (d, m)) : d.length = 32 ∧ bs.drop k = d ++ bs.drop m := by
  obtain ⟨h1, rfl, rfl⟩ := rdG_ok h
  refine ⟨by rw [List.length_take, List.length_drop]; omega, ?_⟩
  rw [← List.drop_drop, List.take_append_drop]

theorem iff_rdG {bs d rest : List UInt8} {k : Nat} (hl : d.length = 32) (h : bs.drop k = d ++ rest) : rdG bs k = some (d, k + 32) ∧ bs.drop (k + 32) = rest := by
  have hlen : (bs.drop k).length = 32 + rest.length := by rw [h, List.length_append, hl]
  rw [List.length_drop] at hlen
  refine ⟨?_, ?_⟩
  · unfold rdG
    rw [decide_eq_true (by omega), cond_true, h, ← hl, List.take_left' rfl]
  · rw [← List.drop_drop, h, ← hl, List.drop_left' rfl]

theorem at_end {bs : List UInt8} {k : Nat} (hk : k ≤ bs.length) (h : bs.drop k = []) : k = bs.length := by
  have := congrArg List.length h
  rw [List.length_drop] at this
  simp at this; omega

/-! ### Bindings -/

/-! ### Requests -/

/-- May a request be? -/
def mayQ (q : Req) : Prop := checkI q.name q.key = 0 ∧ (q.kind = 2 ∨ (q.kind = 1 ∧ q.auth = zero32))

/-! ### Signed roots -/

structure wfS (s : Sgn) : Prop where
  epoch : s.root.epoch < 2 ^ 64
  prev : s.root.prev.length = 32
  tree : s.root.tree.length = 32
  next : s.root.next.length = 32

theorem sgn_back {s : Sgn} (hw : wfS s) (hs : s.sig.length ≤ 1048576) : toFin (sgnB s).length (rdSgn (sgnB s)) = some s := by
  have h0 : (sgnB s).drop 0 = numB s.root.epoch ++ (s.root.prev ++ (s.root.tree ++ (s.root.next ++ (textB s.sig ++ [])))) := by simp [sgnB]
  obtain ⟨q0, r0⟩ := iff_rdN hw.epoch h0
  obtain ⟨q1, r1⟩ := iff_rdG hw.prev r0
  obtain ⟨q2, r2⟩ := iff_rdG hw.tree r1
  obtain ⟨q3, r3⟩ := iff_rdG hw.next r2
  obtain ⟨q4, r4⟩ := iff_rdT hs r3
  have he := at_end (rdT_le q4) r4
  simp only [rdSgn, q0, q1, q2, q3, q4, Option.bind_some]
  simp only [toFin, Option.bind_some, he, decide_true, cond_true]

theorem sgn_one {bs : List UInt8} {s : Sgn} (h : toFin bs.length (rdSgn bs) = some s) : sgnB s = bs ∧ wfS s ∧ s.sig.length ≤ 1048576 := by
  rcases toFin_cases bs.length (rdSgn bs) with ⟨a, h1, h2, h3⟩ | ⟨_, h3⟩
  · rw [h] at h3
    cases h3
    unfold rdSgn at h1
    cases q0 : rdN bs 10 0 0 0 with
    | none => rw [q0] at h1; cases h1
    | some w =>
    rw [q0, Option.bind_some] at h1
    cases q1 : rdG bs w.2 with
    | none => rw [q1] at h1; cases h1
    | some x =>
    rw [q1, Option.bind_some] at h1
    cases q2 : rdG bs x.2 with
    | none => rw [q2] at h1; cases h1
    | some y =>
    rw [q2, Option.bind_some] at h1
    cases q3 : rdG bs y.2 with
    | none => rw [q3] at h1; cases h1
    | some z =>
    rw [q3, Option.bind_some] at h1
    cases q4 : rdT bs z.2 with
    | none => rw [q4] at h1; cases h1
    | some u =>
    rw [q4, Option.bind_some] at h1
    cases h1
    obtain ⟨e5, e0⟩ := rdN_iff (v := w.1) (e := w.2) q0
    obtain ⟨f1, e1⟩ := rdG_iff (d := x.1) (m := x.2) q1
    obtain ⟨f2, e2⟩ := rdG_iff (d := y.1) (m := y.2) q2
    obtain ⟨f3, e3⟩ := rdG_iff (d := z.1) (m := z.2) q3
    obtain ⟨f4, e4⟩ := rdT_iff (ts := u.1) (m := u.2) q4
    refine ⟨?_, ⟨e5, f1, f2, f3⟩, f4⟩
    simp only at h2
    rw [List.drop_zero] at e0
    rw [h2, List.drop_length] at e4
    rw [e0, e1, e2, e3, e4]
    simp [sgnB]
  · rw [h] at h3; cases h3

/-! ### Proofs -/

structure wfP (p : Prf) : Prop where
  sides : ∀ d, d ∈ p.sides → d.length = 32
  index : p.index.length = 32
  value : p.value.length = 32

theorem flat_code : ∀ {a b : List (List UInt8)} {u v : List UInt8}, a.length = b.length → (∀ d, d ∈ a → d.length = 32) → (∀ d, d ∈ b → d.length = 32) → a.flatten ++ u = b.flatten ++ v → a = b ∧ u = v
  | [], [], u, v, _, _, _, h => ⟨rfl, by simpa using h⟩
  | x :: a, y :: b, u, v, hl, ha, hb, h => by
    rw [List.flatten_cons, List.flatten_cons, List.append_assoc, List.append_assoc] at h
    obtain ⟨h1, h⟩ := List.append_inj h (by rw [ha x (by simp), hb y (by simp)])
    obtain ⟨h2, h3⟩ := flat_code (by simpa using hl) (fun d hd => ha d (by simp [hd])) (fun d hd => hb d (by simp [hd])) h
    exact ⟨by rw [h1, h2], h3⟩

end Go.Proofs.Ytcdjheiccefcdaa

/-
Readings of bindings, requests, signed roots and proofs.
-/
set_option linter.unusedSimpArgs false
set_option linter.unusedVariables false
namespace Go.Proofs.Ytcdjheiccefcdaa
open Go.Sym
set_option maxRecDepth 10000

theorem sll_of {n : Nat} {x : D} (h : okD Try.prog (n + 2) 28 x) : ∃ bs : List UInt8, x = .sl (bs.map byteD) ∧ bs.length ≤ maxLen := by
  have hu : Try.prog.underlying 28 = some (.slice 5) := rfl
  rw [show n + 2 = (n + 1) + 1 from rfl, okD, hu] at h
  obtain ⟨xs, rfl, hl, hx⟩ := h
  obtain ⟨bs, rfl⟩ := bytes_of (n := n) xs hx
  exact ⟨bs, rfl, by simpa using hl⟩

theorem root_of {n : Nat} {x : D} (h : okD Try.prog (n + 4) 27 x) : ∃ r : Rt, x = rootD r ∧ r.epoch < 2 ^ 64 ∧ r.prev.length = 32 ∧ r.tree.length = 32 ∧ r.next.length = 32 := by
  have hu : ∃ fs, Try.prog.underlying 27 = some (.struct fs) ∧ fs.toList.map (·.type) = [25, 23, 23, 23] := ⟨_, rfl, rfl⟩
  obtain ⟨fs, hu, ht⟩ := hu
  rw [show n + 4 = (n + 3) + 1 from rfl, okD, hu] at h
  obtain ⟨xs, rfl, hx⟩ := h
  rw [ht] at hx
  obtain ⟨i, a, b, c, rfl, hi, h0, h1, h2⟩ := okAll4 hx
  obtain ⟨j, rfl, hj⟩ := u64_of (n := n + 2) hi
  obtain ⟨p, hp, rfl⟩ := dig_of (n := n + 1) h0
  obtain ⟨t, ht, rfl⟩ := dig_of (n := n + 1) h1
  obtain ⟨d, hd, rfl⟩ := dig_of (n := n + 1) h2
  exact ⟨⟨j, p, t, d⟩, rfl, hj, hp, ht, hd⟩

theorem sgn_of {n : Nat} {x : D} (h : okD Try.prog (n + 5) 30 x) : ∃ s : Sgn, x = sD s ∧ wfS s := by
  have hu : ∃ fs, Try.prog.underlying 30 = some (.struct fs) ∧ fs.toList.map (·.type) = [27, 28] := ⟨_, rfl, rfl⟩
  obtain ⟨fs, hu, ht⟩ := hu
  rw [show n + 5 = (n + 4) + 1 from rfl, okD, hu] at h
  obtain ⟨xs, rfl, hx⟩ := h
  rw [ht] at hx
  obtain ⟨a, b, rfl, h0, h1⟩ := okAll2 hx
  obtain ⟨r, rfl, e1, e2, e3, e4⟩ := root_of (n := n) h0
  obtain ⟨k, rfl⟩ := sl_of (n := n + 2) h1
  exact ⟨⟨r, k⟩, rfl, e1, e2, e3, e4⟩

theorem bulk_sgn (s : Sgn) : s.sig.length ≤ (sD s).bulk := by
  have h2 := bulks_len (s.sig.map byteD)
  simp only [D.bulks, D.bulk, List.length_map] at h2 ⊢
  omega
end Go.Proofs.Ytcdjheiccefcdaa

/-
blazonref01.Join hands back a row of its own.
-/
set_option linter.unusedSimpArgs false
set_option linter.unusedVariables false
namespace Go.Proofs.Ytcdjheiccefcdaa
open Go.Sym
set_option maxRecDepth 10000
set_option maxHeartbeats 1000000

theorem roomJ {k : Nat} (h : k ≤ 2 ^ 30) : Room k 1 := by unfold Room; omega

end Go.Proofs.Ytcdjheiccefcdaa
