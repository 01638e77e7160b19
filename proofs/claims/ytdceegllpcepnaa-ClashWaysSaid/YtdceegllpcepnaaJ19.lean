import Derived.Test.YtdceegllpcepnaaJ1
import Derived.Test.YtdceegllpcepnaaJ2
import Derived.Test.YtdceegllpcepnaaJ3
import Derived.Test.YtdceegllpcepnaaJ4
import Derived.Test.YtdceegllpcepnaaJ5
import Derived.Test.YtdceegllpcepnaaJ6
import Derived.Test.YtdceegllpcepnaaJ7
import Derived.Test.YtdceegllpcepnaaJ8
import Derived.Test.YtdceegllpcepnaaJ9
import Derived.Test.YtdceegllpcepnaaJ10
import Derived.Test.YtdceegllpcepnaaJ11
import Derived.Test.YtdceegllpcepnaaJ12
import Derived.Test.YtdceegllpcepnaaJ13
import Derived.Test.YtdceegllpcepnaaJ14
import Derived.Test.YtdceegllpcepnaaJ15
import Derived.Test.YtdceegllpcepnaaJ16
import Derived.Test.YtdceegllpcepnaaJ17
import Derived.Test.YtdceegllpcepnaaJ18
set_option linter.unusedSimpArgs false
set_option linter.unusedVariables false
/-
What the law of pairs of texts returns.
-/
set_option linter.unusedSimpArgs false
set_option linter.unusedVariables false
namespace Go.Proofs.Ytdceegllpcepnaa
open Go.Sym
set_option maxRecDepth 10000
set_option maxHeartbeats 4000000

theorem tDe9 (v : List UInt8) : (tD v).els = v.map byteD := rfl

theorem clashPairs_main (a b : List (List UInt8)) (ha : ∀ t, t ∈ a → t.length < 2 ^ 28) (hb : ∀ t, t ∈ b → t.length < 2 ^ 28) (la : a.length < 2 ^ 62) :
    LocalCall Try.prog 3 [.d (.sl (a.map tD)), .d (.sl (b.map tD))] [] [] (one [.d (.bool true)]) [] := by
  have xa : (a.map tD).length = a.length := List.length_map _
  have xb : (b.map tD).length = b.length := List.length_map _
  have at' : ∀ i, i < a.length → (a.map tD).getD i .nilp = tD (a.getD i []) := fun i hi => (map_at (f := tD) (d := []) hi).1
  have bt : ∀ i, i < b.length → (b.map tD).getD i .nilp = tD (b.getD i []) := fun i hi => (map_at (f := tD) (d := []) hi).1
  have ma : ∀ i, i < a.length → (a.getD i []).length < 2 ^ 28 := fun i hi => ha _ (by rw [List.getD_eq_getElem?_getD, List.getElem?_eq_getElem hi]; simp)
  have mb : ∀ i, i < b.length → (b.getD i []).length < 2 ^ 28 := fun i hi => hb _ (by rw [List.getD_eq_getElem?_getD, List.getElem?_eq_getElem hi]; simp)
  have c1 := cfirst_ok a b ha hb la
  have c2 := rFirst_ok a b ha hb la
  have c3 := firRight_ok a b ha hb
  have c4 : ∀ i, i < a.length → i < b.length → _ := fun i h1 h2 => cpair_ok (a.getD i []) (b.getD i []) (ma i h1) (mb i h2)
  have c5 : ∀ i, i < a.length → i < b.length → _ := fun i h1 h2 => rPair_ok (a.getD i []) (b.getD i []) (ma i h1) (mb i h2)
  have c6 : ∀ i, i < a.length → i < b.length → _ := fun i h1 h2 => tellRight_ok (a.getD i []) (b.getD i []) (ma i h1) (mb i h2)
  cases hf : firstF a b with
  | none =>
    have e1 : firA a b = [] := by unfold firA; rw [hf]
    have e2 : firB a b = [] := by unfold firB; rw [hf]
    have e3 : firI a b = -1 := by unfold firI; rw [hf]
    rw [e1, e2, hf] at c1
    rw [e3] at c2
    rw [e1, e2, e3, hf] at c3
    refine vc_fn mixed Try.func3 rfl rfl [] (vc_chk rfl) ?_
    repeat' (first
        | ((with_reducible refine vc_chk ?_); first | decide +kernel | rfl)
        | (with_reducible refine vc_side0 ?_; rfl)
        | (with_reducible first
             | refine vc_true ?_ | refine vc_true2 ?_ | refine vc_side ?_ ?_ | refine vc_triv | refine vc_later ?_ | refine vc_caseT ?_ | refine vc_caseF ?_ | refine vc_cons ?_ | refine vc_nil ?_ ?_ | refine vc_seq ?_
                | refine vc_region ?_ | refine vc_cond ?_ | refine vc_block ?_ | refine vc_retc ?_ | refine vc_exit ?_ | refine vc_skip ?_ | refine vc_scope ?_ | refine vc_label ?_ | refine vc_goto ?_ | refine vc_wkSl0
                | refine vc_wkHp0 | refine vc_eqAVs0 | refine vc_preG0 | refine vc_wkSl ?_ ?_ | refine vc_wkHp ?_ ?_ | refine vc_eqAVs ?_ ?_ | refine vc_preG ?_ ?_ | refine vc_side0 ?_ | refine vc_pure c1 ?_ ?_ ?_
                | refine vc_pure c2 ?_ ?_ ?_ | refine vc_pure (c6 i (by omega) (by omega)) ?_ ?_ ?_ | refine vc_pure works9_ok ?_ ?_ ?_ | refine vc_call [] c3 ?_ | refine vc_call [] (c4 i (by omega) (by omega)) ?_
                | refine vc_call [] (c5 i (by omega) (by omega)) ?_
                | refine vc_loopI 90 (fun (i : Nat) => [(0, .d (.sl (a.map tD))), (1, .d (.sl (b.map tD))), (9, .d (.int .i64 (i : Int)))]) (fun _ => []) (fun i => a.length - i) (fun i => i ≤ a.length) 0 [] ?_ ?_ ?_ ?_ ?_ (fun i hI => ?_)
                | refine vc_nextI (i + 1) [] ?_ ?_ ?_ ?_ ?_ ?_ | refine vc_weakf [] ?_ ?_ ?_ | refine vc_and ?_ ?_ | refine vc_ret [] [] ?_)
        | ((with_reducible first | refine vc_caseD (fun h => ?_) (fun h => ?_) | refine vc_caseN (fun h => ?_) (fun h => ?_)) <;> try (exfalso; omega))
        | ((with_reducible refine vc_case (fun h => ?_) (fun h => ?_)) <;> (try simp only [Bool.cond_true_left, Bool.cond_false_right, Bool.cond_true_right, Bool.cond_false_left, Bool.and_eq_true, Bool.or_eq_true, Bool.and_eq_false_iff, Bool.or_eq_false_iff, Bool.not_eq_true', Bool.not_eq_false', Bool.not_eq_true, Bool.not_eq_false, Bool.not_not, decide_eq_true_eq, decide_eq_false_iff_not, beq_iff_eq, beq_eq_false_iff_ne, bne_iff_ne, bne_eq_false_iff_eq, ne_eq, Classical.not_not, reduceCtorEq, false_or, or_false, true_and, and_true, Bool.false_eq_true, Bool.true_eq_false] at h) <;> try (exfalso; first | omega | (simp at h; done)))
        | (conv in Vc _ => arg 1; whnf
           first
            | (with_reducible refine vc_side0 ?_; rfl)
            | (with_reducible first
                | refine vc_true ?_ | refine vc_true2 ?_ | refine vc_side ?_ ?_ | refine vc_triv | refine vc_later ?_ | refine vc_caseT ?_ | refine vc_caseF ?_ | refine vc_cons ?_ | refine vc_nil ?_ ?_ | refine vc_seq ?_
                   | refine vc_region ?_ | refine vc_cond ?_ | refine vc_block ?_ | refine vc_retc ?_ | refine vc_exit ?_ | refine vc_skip ?_ | refine vc_scope ?_ | refine vc_label ?_ | refine vc_goto ?_ | refine vc_wkSl0
                   | refine vc_wkHp0 | refine vc_eqAVs0 | refine vc_preG0 | refine vc_wkSl ?_ ?_ | refine vc_wkHp ?_ ?_ | refine vc_eqAVs ?_ ?_ | refine vc_preG ?_ ?_ | refine vc_side0 ?_ | refine vc_pure c1 ?_ ?_ ?_
                   | refine vc_pure c2 ?_ ?_ ?_ | refine vc_pure (c6 i (by omega) (by omega)) ?_ ?_ ?_ | refine vc_pure works9_ok ?_ ?_ ?_ | refine vc_call [] c3 ?_ | refine vc_call [] (c4 i (by omega) (by omega)) ?_
                   | refine vc_call [] (c5 i (by omega) (by omega)) ?_
                   | refine vc_loopI 90 (fun (i : Nat) => [(0, .d (.sl (a.map tD))), (1, .d (.sl (b.map tD))), (9, .d (.int .i64 (i : Int)))]) (fun _ => []) (fun i => a.length - i) (fun i => i ≤ a.length) 0 [] ?_ ?_ ?_ ?_ ?_ (fun i hI => ?_)
                   | refine vc_nextI (i + 1) [] ?_ ?_ ?_ ?_ ?_ ?_ | refine vc_weakf [] ?_ ?_ ?_ | refine vc_and ?_ ?_ | refine vc_ret [] [] ?_)
            | ((with_reducible first | refine vc_caseD (fun h => ?_) (fun h => ?_) | refine vc_caseN (fun h => ?_) (fun h => ?_)) <;> try (exfalso; omega))
            | ((with_reducible refine vc_case (fun h => ?_) (fun h => ?_)) <;> (try simp only [Bool.cond_true_left, Bool.cond_false_right, Bool.cond_true_right, Bool.cond_false_left, Bool.and_eq_true, Bool.or_eq_true, Bool.and_eq_false_iff, Bool.or_eq_false_iff, Bool.not_eq_true', Bool.not_eq_false', Bool.not_eq_true, Bool.not_eq_false, Bool.not_not, decide_eq_true_eq, decide_eq_false_iff_not, beq_iff_eq, beq_eq_false_iff_ne, bne_iff_ne, bne_eq_false_iff_eq, ne_eq, Classical.not_not, reduceCtorEq, false_or, or_false, true_and, and_true, Bool.false_eq_true, Bool.true_eq_false] at h) <;> try (exfalso; first | omega | (simp at h; done)))))
    all_goals (try simp only [Int.toNat_natCast, List.length_map])
    all_goals (try simp only [at' i (by omega)])
    all_goals (try simp only [bt i (by omega)])
    all_goals first
      | with_reducible rfl
      | omega
      | exact ⟨trivial, trivial⟩
      | exact ⟨trivial, rfl⟩
      | exact ⟨⟨by omega, by omega⟩, rfl⟩
      | (rw [wrap64_id (by omega) (by omega)]; rfl)
      | (exfalso; exact absurd rfl (by assumption))
      | (exfalso; assumption)
      | rfl
      | trace_state
  | some k =>
    obtain ⟨k1, k2, _⟩ := firstF_at hf
    have e1 : firA a b = a.getD k [] := by unfold firA; rw [hf]
    have e2 : firB a b = b.getD k [] := by unfold firB; rw [hf]
    have e3 : firI a b = k := by unfold firI; rw [hf]
    rw [e1, e2, hf] at c1
    rw [e3] at c2
    rw [e1, e2, e3, hf] at c3
    refine vc_fn mixed Try.func3 rfl rfl [] (vc_chk rfl) ?_
    repeat' (first
        | ((with_reducible refine vc_chk ?_); first | decide +kernel | rfl)
        | (with_reducible refine vc_side0 ?_; rfl)
        | (with_reducible first
             | refine vc_true ?_ | refine vc_true2 ?_ | refine vc_side ?_ ?_ | refine vc_triv | refine vc_later ?_ | refine vc_caseT ?_ | refine vc_caseF ?_ | refine vc_cons ?_ | refine vc_nil ?_ ?_ | refine vc_seq ?_
                | refine vc_region ?_ | refine vc_cond ?_ | refine vc_block ?_ | refine vc_retc ?_ | refine vc_exit ?_ | refine vc_skip ?_ | refine vc_scope ?_ | refine vc_label ?_ | refine vc_goto ?_ | refine vc_wkSl0
                | refine vc_wkHp0 | refine vc_eqAVs0 | refine vc_preG0 | refine vc_wkSl ?_ ?_ | refine vc_wkHp ?_ ?_ | refine vc_eqAVs ?_ ?_ | refine vc_preG ?_ ?_ | refine vc_side0 ?_ | refine vc_pure c1 ?_ ?_ ?_
                | refine vc_pure c2 ?_ ?_ ?_ | refine vc_pure (c6 i (by omega) (by omega)) ?_ ?_ ?_ | refine vc_pure works9_ok ?_ ?_ ?_ | refine vc_call [] c3 ?_ | refine vc_call [] (c4 i (by omega) (by omega)) ?_
                | refine vc_call [] (c5 i (by omega) (by omega)) ?_
                | refine vc_loopI 90 (fun (i : Nat) => [(0, .d (.sl (a.map tD))), (1, .d (.sl (b.map tD))), (9, .d (.int .i64 (i : Int)))]) (fun _ => []) (fun i => a.length - i) (fun i => i ≤ a.length) 0 [] ?_ ?_ ?_ ?_ ?_ (fun i hI => ?_)
                | refine vc_nextI (i + 1) [] ?_ ?_ ?_ ?_ ?_ ?_ | refine vc_weakf [] ?_ ?_ ?_ | refine vc_and ?_ ?_ | refine vc_ret [] [] ?_)
        | ((with_reducible first | refine vc_caseD (fun h => ?_) (fun h => ?_) | refine vc_caseN (fun h => ?_) (fun h => ?_)) <;> try (exfalso; omega))
        | ((with_reducible refine vc_case (fun h => ?_) (fun h => ?_)) <;> (try simp only [Bool.cond_true_left, Bool.cond_false_right, Bool.cond_true_right, Bool.cond_false_left, Bool.and_eq_true, Bool.or_eq_true, Bool.and_eq_false_iff, Bool.or_eq_false_iff, Bool.not_eq_true', Bool.not_eq_false', Bool.not_eq_true, Bool.not_eq_false, Bool.not_not, decide_eq_true_eq, decide_eq_false_iff_not, beq_iff_eq, beq_eq_false_iff_ne, bne_iff_ne, bne_eq_false_iff_eq, ne_eq, Classical.not_not, reduceCtorEq, false_or, or_false, true_and, and_true, Bool.false_eq_true, Bool.true_eq_false] at h) <;> try (exfalso; first | omega | (simp at h; done)))
        | (conv in Vc _ => arg 1; whnf
           first
            | (with_reducible refine vc_side0 ?_; rfl)
            | (with_reducible first
                | refine vc_true ?_ | refine vc_true2 ?_ | refine vc_side ?_ ?_ | refine vc_triv | refine vc_later ?_ | refine vc_caseT ?_ | refine vc_caseF ?_ | refine vc_cons ?_ | refine vc_nil ?_ ?_ | refine vc_seq ?_
                   | refine vc_region ?_ | refine vc_cond ?_ | refine vc_block ?_ | refine vc_retc ?_ | refine vc_exit ?_ | refine vc_skip ?_ | refine vc_scope ?_ | refine vc_label ?_ | refine vc_goto ?_ | refine vc_wkSl0
                   | refine vc_wkHp0 | refine vc_eqAVs0 | refine vc_preG0 | refine vc_wkSl ?_ ?_ | refine vc_wkHp ?_ ?_ | refine vc_eqAVs ?_ ?_ | refine vc_preG ?_ ?_ | refine vc_side0 ?_ | refine vc_pure c1 ?_ ?_ ?_
                   | refine vc_pure c2 ?_ ?_ ?_ | refine vc_pure (c6 i (by omega) (by omega)) ?_ ?_ ?_ | refine vc_pure works9_ok ?_ ?_ ?_ | refine vc_call [] c3 ?_ | refine vc_call [] (c4 i (by omega) (by omega)) ?_
                   | refine vc_call [] (c5 i (by omega) (by omega)) ?_
                   | refine vc_loopI 90 (fun (i : Nat) => [(0, .d (.sl (a.map tD))), (1, .d (.sl (b.map tD))), (9, .d (.int .i64 (i : Int)))]) (fun _ => []) (fun i => a.length - i) (fun i => i ≤ a.length) 0 [] ?_ ?_ ?_ ?_ ?_ (fun i hI => ?_)
                   | refine vc_nextI (i + 1) [] ?_ ?_ ?_ ?_ ?_ ?_ | refine vc_weakf [] ?_ ?_ ?_ | refine vc_and ?_ ?_ | refine vc_ret [] [] ?_)
            | ((with_reducible first | refine vc_caseD (fun h => ?_) (fun h => ?_) | refine vc_caseN (fun h => ?_) (fun h => ?_)) <;> try (exfalso; omega))
            | ((with_reducible refine vc_case (fun h => ?_) (fun h => ?_)) <;> (try simp only [Bool.cond_true_left, Bool.cond_false_right, Bool.cond_true_right, Bool.cond_false_left, Bool.and_eq_true, Bool.or_eq_true, Bool.and_eq_false_iff, Bool.or_eq_false_iff, Bool.not_eq_true', Bool.not_eq_false', Bool.not_eq_true, Bool.not_eq_false, Bool.not_not, decide_eq_true_eq, decide_eq_false_iff_not, beq_iff_eq, beq_eq_false_iff_ne, bne_iff_ne, bne_eq_false_iff_eq, ne_eq, Classical.not_not, reduceCtorEq, false_or, or_false, true_and, and_true, Bool.false_eq_true, Bool.true_eq_false] at h) <;> try (exfalso; first | omega | (simp at h; done)))))
    all_goals (try simp only [Int.toNat_natCast, List.length_map])
    all_goals (try simp only [at' i (by omega)])
    all_goals (try simp only [bt i (by omega)])
    all_goals (try simp only [at' k k1, bt k k2, tDe9, bytesOf_map] at *)
    all_goals first
      | with_reducible rfl
      | omega
      | exact ⟨trivial, trivial⟩
      | exact ⟨trivial, rfl⟩
      | exact ⟨⟨by omega, by omega⟩, rfl⟩
      | (rw [wrap64_id (by omega) (by omega)]; rfl)
      | (exfalso; rw [Int.toNat_natCast, at' k k1, tDe9, bytesOf_map] at h; exact h rfl)
      | (exfalso; rw [Int.toNat_natCast, bt k k2, tDe9, bytesOf_map] at h; exact h rfl)
      | (exfalso; exact absurd rfl (by assumption))
      | (exfalso; assumption)
      | rfl
      | trace_state

end Go.Proofs.Ytdceegllpcepnaa
