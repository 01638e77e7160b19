import Derived.Test.YtpeglanfbmpoeaaJ1
import Derived.Test.YtpeglanfbmpoeaaJ2
import Derived.Test.YtpeglanfbmpoeaaJ3
import Derived.Test.YtpeglanfbmpoeaaJ4
import Derived.Test.YtpeglanfbmpoeaaJ5
import Derived.Test.YtpeglanfbmpoeaaJ6
import Derived.Test.YtpeglanfbmpoeaaJ7
import Derived.Test.YtpeglanfbmpoeaaJ8
import Derived.Test.YtpeglanfbmpoeaaJ9
import Derived.Test.YtpeglanfbmpoeaaJ10
import Derived.Test.YtpeglanfbmpoeaaJ11
import Derived.Test.YtpeglanfbmpoeaaJ12
import Derived.Test.YtpeglanfbmpoeaaJ13
set_option linter.unusedSimpArgs false
set_option linter.unusedVariables false
/-
What the laws of ways and trees return.
-/
set_option linter.unusedSimpArgs false
set_option linter.unusedVariables false
namespace Go.Proofs.Ytpeglanfbmpoeaa
open Go.Sym
set_option maxRecDepth 10000
set_option maxHeartbeats 4000000

theorem ofL_ok {a v : List (List UInt8)} (ha : ∀ x, x ∈ a → x.length = 32) (hv : ∀ x, x ∈ v → x.length = 32) (hl : a.length ≤ 60) : wfL (ofL a v) ∧ (keysL (ofL a v)).Nodup ∧ (ofL a v).length ≤ 1000 := by
  have hz : (a.zip v).length ≤ 60 := by rw [List.length_zip]; omega
  obtain ⟨h1, h2, h3⟩ := ofN_ok ha hv 60
  rw [ofN_all a v hz] at h1 h2 h3
  exact ⟨h1, h2, by omega⟩

section
variable {L : Lvs} (hw : wfL L) (hn : (keysL L).Nodup) (hl : L.length ≤ 1000)
include hw hn hl
theorem rootL_ok : LocalCall Try.prog 18 [.d (lvD L), .d (.int .i64 0)] [] [] (one [.d (digD (rootL L))]) [] := root_ok 256 0 L rfl hw hn (agree_zero L) hl
omit hl in
theorem checkL_ok {idx : List UInt8} (hx : idx.length = 32) : LocalCall Try.prog 15 [.d (digD (rootL L)), .d (digD idx), .d (pD (prfL L idx))] [] [] (one [.d (digD ((getL L idx).getD zero32)), .d (.bool (getL L idx).isSome), .d (.int .i64 0)]) [] := by
  have c := pcheck_ok (rootL L) idx (rootF_length _ _ _) hx (prfL L idx) (prfL_wf hw hn idx) (Nat.le_trans (prfL_len hw hn idx) (by decide))
  obtain ⟨h1, h2, h3⟩ := prfL_ok hw hn hx
  unfold errP at c
  rwa [h1, h2, h3, cond_true] at c
end

theorem proofTrees_main (a v : List (List UInt8)) (q : List UInt8) (ha : ∀ x, x ∈ a → x.length = 32) (hv : ∀ x, x ∈ v → x.length = 32) (hq : q.length = 32) (hvl : v.length < 2 ^ 63) :
    LocalCall Try.prog 5 [.d (.sl (a.map digD)), .d (.sl (v.map digD)), .d (digD q)] [] [] (one [.d (.bool true)]) [] := by
  have la : (a.map digD).length = a.length := List.length_map _
  refine vc_fn mixed Try.func5 rfl rfl [] (vc_chk rfl) ?_
  by_cases h60 : ((a.map digD).length : Int) > 60
  · skip
    repeat' (first
        | ((with_reducible refine vc_chk ?_); first | decide +kernel | rfl)
        | (with_reducible refine vc_side0 ?_; rfl)
        | (with_reducible first
             | refine vc_true ?_ | refine vc_true2 ?_ | refine vc_side ?_ ?_ | refine vc_triv | refine vc_later ?_ | refine vc_caseT ?_ | refine vc_caseF ?_ | refine vc_cons ?_ | refine vc_nil ?_ ?_ | refine vc_seq ?_
                | refine vc_region ?_ | refine vc_cond ?_ | refine vc_block ?_ | refine vc_retc ?_ | refine vc_exit ?_ | refine vc_skip ?_ | refine vc_scope ?_ | refine vc_label ?_ | refine vc_goto ?_ | refine vc_wkSl0
                | refine vc_wkHp0 | refine vc_eqAVs0 | refine vc_preG0 | refine vc_wkSl ?_ ?_ | refine vc_wkHp ?_ ?_ | refine vc_eqAVs ?_ ?_ | refine vc_preG ?_ ?_ | refine vc_side0 ?_ | refine vc_pure works8_ok ?_ ?_ ?_
                | refine vc_weakf [] ?_ ?_ ?_ | refine vc_and ?_ ?_ | refine vc_ret [] [] ?_)
        | ((with_reducible first | refine vc_caseD (fun h => ?_) (fun h => ?_) | refine vc_caseN (fun h => ?_) (fun h => ?_)) <;> try (exfalso; omega))
        | ((with_reducible refine vc_case (fun h => ?_) (fun h => ?_)) <;> (try simp only [Bool.cond_true_left, Bool.cond_false_right, Bool.cond_true_right, Bool.cond_false_left, Bool.and_eq_true, Bool.or_eq_true, Bool.and_eq_false_iff, Bool.or_eq_false_iff, Bool.not_eq_true', Bool.not_eq_false', Bool.not_eq_true, Bool.not_eq_false, Bool.not_not, decide_eq_true_eq, decide_eq_false_iff_not, beq_iff_eq, beq_eq_false_iff_ne, bne_iff_ne, bne_eq_false_iff_eq, ne_eq, Classical.not_not, reduceCtorEq, false_or, or_false, true_and, and_true, Bool.false_eq_true, Bool.true_eq_false] at h) <;> try (exfalso; first | omega | (simp at h; done)))
        | (conv in Vc _ => arg 1; whnf
           first
            | (with_reducible refine vc_side0 ?_; rfl)
            | (with_reducible first
                | refine vc_true ?_ | refine vc_true2 ?_ | refine vc_side ?_ ?_ | refine vc_triv | refine vc_later ?_ | refine vc_caseT ?_ | refine vc_caseF ?_ | refine vc_cons ?_ | refine vc_nil ?_ ?_ | refine vc_seq ?_
                   | refine vc_region ?_ | refine vc_cond ?_ | refine vc_block ?_ | refine vc_retc ?_ | refine vc_exit ?_ | refine vc_skip ?_ | refine vc_scope ?_ | refine vc_label ?_ | refine vc_goto ?_ | refine vc_wkSl0
                   | refine vc_wkHp0 | refine vc_eqAVs0 | refine vc_preG0 | refine vc_wkSl ?_ ?_ | refine vc_wkHp ?_ ?_ | refine vc_eqAVs ?_ ?_ | refine vc_preG ?_ ?_ | refine vc_side0 ?_ | refine vc_pure works8_ok ?_ ?_ ?_
                   | refine vc_weakf [] ?_ ?_ ?_ | refine vc_and ?_ ?_ | refine vc_ret [] [] ?_)
            | ((with_reducible first | refine vc_caseD (fun h => ?_) (fun h => ?_) | refine vc_caseN (fun h => ?_) (fun h => ?_)) <;> try (exfalso; omega))
            | ((with_reducible refine vc_case (fun h => ?_) (fun h => ?_)) <;> (try simp only [Bool.cond_true_left, Bool.cond_false_right, Bool.cond_true_right, Bool.cond_false_left, Bool.and_eq_true, Bool.or_eq_true, Bool.and_eq_false_iff, Bool.or_eq_false_iff, Bool.not_eq_true', Bool.not_eq_false', Bool.not_eq_true, Bool.not_eq_false, Bool.not_not, decide_eq_true_eq, decide_eq_false_iff_not, beq_iff_eq, beq_eq_false_iff_ne, bne_iff_ne, bne_eq_false_iff_eq, ne_eq, Classical.not_not, reduceCtorEq, false_or, or_false, true_and, and_true, Bool.false_eq_true, Bool.true_eq_false] at h) <;> try (exfalso; first | omega | (simp at h; done)))))
    all_goals first
      | with_reducible rfl
      | omega
      | exact ⟨trivial, trivial⟩
      | exact ⟨trivial, trivial, trivial⟩
      | exact ⟨trivial, trivial, trivial, trivial⟩
      | exact ⟨⟨by decide, by decide, by decide⟩, trivial⟩
      | exact ⟨Nat.le_of_eq (Nat.zero_add _), trivial⟩
      | exact ⟨Nat.le_refl _, trivial, trivial⟩
      | (rw [wrap64_id (by omega) (by omega)]; rfl)
      | rfl
      | (exfalso; simp at h; done)
      | skip
  have c0 := of7_ok a v ha hv (by omega) hvl
  obtain ⟨w1, w2, w3⟩ := ofL_ok ha hv (show a.length ≤ 60 by omega)
  generalize ofL a v = L at *
  have c1 := rootL_ok w1 w2 w3
  have pv : ∀ x : List UInt8, x.length = 32 → _ := fun x hx => prove_ok L w1 w2 w3 x hx
  have ck : ∀ x : List UInt8, x.length = 32 → _ := fun x hx => checkL_ok w1 w2 (idx := x) hx
  have gt : ∀ x : List UInt8, x.length = 32 → _ := fun x hx => get_ok L w1 w3 x hx
  repeat' (first
      | ((with_reducible refine vc_chk ?_); first | decide +kernel | rfl)
      | (with_reducible refine vc_side0 ?_; rfl)
      | (with_reducible first
           | refine vc_true ?_ | refine vc_true2 ?_ | refine vc_side ?_ ?_ | refine vc_triv | refine vc_later ?_ | refine vc_caseT ?_ | refine vc_caseF ?_ | refine vc_cons ?_ | refine vc_nil ?_ ?_ | refine vc_seq ?_
              | refine vc_region ?_ | refine vc_cond ?_ | refine vc_block ?_ | refine vc_retc ?_ | refine vc_exit ?_ | refine vc_skip ?_ | refine vc_scope ?_ | refine vc_label ?_ | refine vc_goto ?_ | refine vc_wkSl0
              | refine vc_wkHp0 | refine vc_eqAVs0 | refine vc_preG0 | refine vc_wkSl ?_ ?_ | refine vc_wkHp ?_ ?_ | refine vc_eqAVs ?_ ?_ | refine vc_preG ?_ ?_ | refine vc_side0 ?_ | refine vc_pure c0 ?_ ?_ ?_
              | refine vc_pure c1 ?_ ?_ ?_ | refine vc_pure works8_ok ?_ ?_ ?_ | refine vc_call [] (pv (a.getD i []) (digs_len ha (by omega))) ?_ | refine vc_call [] (pv q hq) ?_
              | refine vc_call [] (ck (a.getD i []) (digs_len ha (by omega))) ?_ | refine vc_call [] (ck q hq) ?_ | refine vc_call [] (gt (a.getD i []) (digs_len ha (by omega))) ?_ | refine vc_call [] (gt q hq) ?_
              | refine vc_loopI 73 (fun (i : Nat) => [(0, .d (.sl (a.map digD))), (5, .ptr 1000 []), (7, .ptr 4012 []), (8, .ptr 5008 []), (9, .d (.int .i64 (i : Int)))]) (fun _ => [(1000, .var (.d (digD q))), (4012, .var (.d (lvD L))), (5008, .var (.d (digD (rootL L))))]) (fun i => 6 - i) (fun i => i ≤ 6) 0 [] ?_ ?_ ?_ ?_ ?_ (fun i hI => ?_)
              | refine vc_nextI (i + 1) [] ?_ ?_ ?_ ?_ ?_ ?_ | refine vc_weakf [] ?_ ?_ ?_ | refine vc_and ?_ ?_ | refine vc_ret [] [] ?_)
      | ((with_reducible first | refine vc_caseD (fun h => ?_) (fun h => ?_) | refine vc_caseN (fun h => ?_) (fun h => ?_)) <;> try (exfalso; omega))
      | ((with_reducible refine vc_case (fun h => ?_) (fun h => ?_)) <;> (try simp only [Bool.cond_true_left, Bool.cond_false_right, Bool.cond_true_right, Bool.cond_false_left, Bool.and_eq_true, Bool.or_eq_true, Bool.and_eq_false_iff, Bool.or_eq_false_iff, Bool.not_eq_true', Bool.not_eq_false', Bool.not_eq_true, Bool.not_eq_false, Bool.not_not, decide_eq_true_eq, decide_eq_false_iff_not, beq_iff_eq, beq_eq_false_iff_ne, bne_iff_ne, bne_eq_false_iff_eq, ne_eq, Classical.not_not, reduceCtorEq, false_or, or_false, true_and, and_true, Bool.false_eq_true, Bool.true_eq_false] at h) <;> try (exfalso; first | omega | (simp at h; done)))
      | (conv in Vc _ => arg 1; whnf
         first
          | (with_reducible refine vc_side0 ?_; rfl)
          | (with_reducible first
              | refine vc_true ?_ | refine vc_true2 ?_ | refine vc_side ?_ ?_ | refine vc_triv | refine vc_later ?_ | refine vc_caseT ?_ | refine vc_caseF ?_ | refine vc_cons ?_ | refine vc_nil ?_ ?_ | refine vc_seq ?_
                 | refine vc_region ?_ | refine vc_cond ?_ | refine vc_block ?_ | refine vc_retc ?_ | refine vc_exit ?_ | refine vc_skip ?_ | refine vc_scope ?_ | refine vc_label ?_ | refine vc_goto ?_ | refine vc_wkSl0
                 | refine vc_wkHp0 | refine vc_eqAVs0 | refine vc_preG0 | refine vc_wkSl ?_ ?_ | refine vc_wkHp ?_ ?_ | refine vc_eqAVs ?_ ?_ | refine vc_preG ?_ ?_ | refine vc_side0 ?_ | refine vc_pure c0 ?_ ?_ ?_
                 | refine vc_pure c1 ?_ ?_ ?_ | refine vc_pure works8_ok ?_ ?_ ?_ | refine vc_call [] (pv (a.getD i []) (digs_len ha (by omega))) ?_ | refine vc_call [] (pv q hq) ?_
                 | refine vc_call [] (ck (a.getD i []) (digs_len ha (by omega))) ?_ | refine vc_call [] (ck q hq) ?_ | refine vc_call [] (gt (a.getD i []) (digs_len ha (by omega))) ?_ | refine vc_call [] (gt q hq) ?_
                 | refine vc_loopI 73 (fun (i : Nat) => [(0, .d (.sl (a.map digD))), (5, .ptr 1000 []), (7, .ptr 4012 []), (8, .ptr 5008 []), (9, .d (.int .i64 (i : Int)))]) (fun _ => [(1000, .var (.d (digD q))), (4012, .var (.d (lvD L))), (5008, .var (.d (digD (rootL L))))]) (fun i => 6 - i) (fun i => i ≤ 6) 0 [] ?_ ?_ ?_ ?_ ?_ (fun i hI => ?_)
                 | refine vc_nextI (i + 1) [] ?_ ?_ ?_ ?_ ?_ ?_ | refine vc_weakf [] ?_ ?_ ?_ | refine vc_and ?_ ?_ | refine vc_ret [] [] ?_)
          | ((with_reducible first | refine vc_caseD (fun h => ?_) (fun h => ?_) | refine vc_caseN (fun h => ?_) (fun h => ?_)) <;> try (exfalso; omega))
          | ((with_reducible refine vc_case (fun h => ?_) (fun h => ?_)) <;> (try simp only [Bool.cond_true_left, Bool.cond_false_right, Bool.cond_true_right, Bool.cond_false_left, Bool.and_eq_true, Bool.or_eq_true, Bool.and_eq_false_iff, Bool.or_eq_false_iff, Bool.not_eq_true', Bool.not_eq_false', Bool.not_eq_true, Bool.not_eq_false, Bool.not_not, decide_eq_true_eq, decide_eq_false_iff_not, beq_iff_eq, beq_eq_false_iff_ne, bne_iff_ne, bne_eq_false_iff_eq, ne_eq, Classical.not_not, reduceCtorEq, false_or, or_false, true_and, and_true, Bool.false_eq_true, Bool.true_eq_false] at h) <;> try (exfalso; first | omega | (simp at h; done)))))
  all_goals first
    | with_reducible rfl
    | omega
    | exact ⟨⟨by omega, by omega⟩, by rw [Int.toNat_natCast, digs_at (by omega)]; rfl⟩
    | (rw [Int.toNat_natCast, digs_at (by omega)]; rfl)
    | exact ⟨fits_dig 6 _, fits_dig 6 _⟩
    | (exfalso; exact absurd rfl (dgDiff h))
    | (rw [wrap64_id (by omega) (by omega)]; rfl)
    | (exfalso; exact absurd rfl h)
    | (exfalso; simp at h; done)
    | rfl
    | trace_state

end Go.Proofs.Ytpeglanfbmpoeaa
