import Derived.Test.YtdceegllpcepnaaJ1
import Derived.Test.YtdceegllpcepnaaJ2
import Derived.Test.YtdceegllpcepnaaJ3
import Derived.Test.YtdceegllpcepnaaJ4
import Derived.Test.YtdceegllpcepnaaJ5
import Derived.Test.YtdceegllpcepnaaJ6
import Derived.Test.YtdceegllpcepnaaJ7
import Derived.Test.YtdceegllpcepnaaJ8
import Derived.Test.YtdceegllpcepnaaJ9
set_option linter.unusedSimpArgs false
set_option linter.unusedVariables false
/-
The first pair of two lists, by the program and by the document.
-/
set_option linter.unusedSimpArgs false
set_option linter.unusedVariables false
namespace Go.Proofs.Ytdceegllpcepnaa
open Go.Sym
set_option maxRecDepth 10000
set_option maxHeartbeats 4000000

theorem some_eq {o : Option Nat} {k i : Nat} (h1 : o = some k) (h2 : o = some i) : k = i := Option.some.inj (h1.symm.trans h2)
theorem no_more {a b : List (List UInt8)} {i : Nat} (h : ∀ j, j < i → pairB (a.getD j []) (b.getD j []) = false) (hp : pairB (a.getD i []) (b.getD i []) = false) : ∀ j, j < i + 1 → pairB (a.getD j []) (b.getD j []) = false := fun j hj => by
  by_cases e : j = i
  · subst e; exact hp
  · exact h j (by omega)

section
variable (a b : List (List UInt8)) (ha : ∀ t, t ∈ a → t.length < 2 ^ 28) (hb : ∀ t, t ∈ b → t.length < 2 ^ 28) (la : a.length < 2 ^ 62)
include ha hb la

omit la in
theorem firstInner_ok (i : Nat) (hi : i < a.length) (hj : i < b.length) : LocalCall Try.prog 28 [.d (.int .i64 (i : Int)), .ptr 9 [], .ptr 8 []] [(9, .var (.d (.sl (a.map tD)))), (8, .var (.d (.sl (b.map tD))))] []
    (one [.d (.sl ((tellA (a.getD i []) (b.getD i [])).map byteD)), .d (.sl ((tellB (a.getD i []) (b.getD i [])).map byteD)), .d (.bool (pairB (a.getD i []) (b.getD i [])))]) [] := by
  have ma : (a.getD i []).length < 2 ^ 28 := ha _ (by rw [List.getD_eq_getElem?_getD, List.getElem?_eq_getElem hi]; simp)
  have mb : (b.getD i []).length < 2 ^ 28 := hb _ (by rw [List.getD_eq_getElem?_getD, List.getElem?_eq_getElem hj]; simp)
  have xa : (a.map tD).length = a.length := List.length_map _
  have xb : (b.map tD).length = b.length := List.length_map _
  have at' : (a.map tD).getD i .nilp = tD (a.getD i []) := (map_at (f := tD) (d := []) hi).1
  have bt : (b.map tD).getD i .nilp = tD (b.getD i []) := (map_at (f := tD) (d := []) hj).1
  have c0 := cpair_ok (a.getD i []) (b.getD i []) ma mb
  refine vc_fn mixed Try.func28 rfl rfl [] (vc_chk rfl) ?_
  repeat' (first
      | ((with_reducible refine vc_chk ?_); first | decide +kernel | rfl)
      | (with_reducible refine vc_side0 ?_; rfl)
      | (with_reducible first
           | refine vc_true ?_ | refine vc_true2 ?_ | refine vc_side ?_ ?_ | refine vc_triv | refine vc_later ?_ | refine vc_caseT ?_ | refine vc_caseF ?_ | refine vc_cons ?_ | refine vc_nil ?_ ?_ | refine vc_seq ?_
              | refine vc_region ?_ | refine vc_cond ?_ | refine vc_block ?_ | refine vc_retc ?_ | refine vc_exit ?_ | refine vc_skip ?_ | refine vc_scope ?_ | refine vc_label ?_ | refine vc_goto ?_ | refine vc_wkSl0
              | refine vc_wkHp0 | refine vc_eqAVs0 | refine vc_preG0 | refine vc_wkSl ?_ ?_ | refine vc_wkHp ?_ ?_ | refine vc_eqAVs ?_ ?_ | refine vc_preG ?_ ?_ | refine vc_side0 ?_ | refine vc_call [] c0 ?_
              | refine vc_weakf [] ?_ ?_ ?_ | refine vc_and ?_ ?_ | refine vc_ret [] [] ?_)
      | ((with_reducible first | refine vc_caseD (fun h => ?_) (fun h => ?_) | refine vc_caseN (fun h => ?_) (fun h => ?_)) <;> try (exfalso; omega))
      | ((with_reducible refine vc_case (fun h => ?_) (fun h => ?_)) <;> (try simp only [Bool.cond_true_left, Bool.cond_false_right, Bool.cond_true_right, Bool.cond_false_left, Bool.and_eq_true, Bool.or_eq_true, Bool.and_eq_false_iff, Bool.or_eq_false_iff, Bool.not_eq_true', Bool.not_eq_false', Bool.not_eq_true, Bool.not_eq_false, Bool.not_not, decide_eq_true_eq, decide_eq_false_iff_not, beq_iff_eq, beq_eq_false_iff_ne, bne_iff_ne, bne_eq_false_iff_eq, ne_eq, Classical.not_not, reduceCtorEq, false_or, or_false, true_and, and_true, Bool.false_eq_true, Bool.true_eq_false] at h) <;> try (exfalso; first | omega | (simp at h; done)))
      | (conv in Vc _ => arg 1; whnf
         first
          | (with_reducible refine vc_side0 ?_; rfl)
          | (with_reducible first
              | refine vc_true ?_ | refine vc_true2 ?_ | refine vc_side ?_ ?_ | refine vc_triv | refine vc_later ?_ | refine vc_caseT ?_ | refine vc_caseF ?_ | refine vc_cons ?_ | refine vc_nil ?_ ?_ | refine vc_seq ?_
                 | refine vc_region ?_ | refine vc_cond ?_ | refine vc_block ?_ | refine vc_retc ?_ | refine vc_exit ?_ | refine vc_skip ?_ | refine vc_scope ?_ | refine vc_label ?_ | refine vc_goto ?_ | refine vc_wkSl0
                 | refine vc_wkHp0 | refine vc_eqAVs0 | refine vc_preG0 | refine vc_wkSl ?_ ?_ | refine vc_wkHp ?_ ?_ | refine vc_eqAVs ?_ ?_ | refine vc_preG ?_ ?_ | refine vc_side0 ?_ | refine vc_call [] c0 ?_
                 | refine vc_weakf [] ?_ ?_ ?_ | refine vc_and ?_ ?_ | refine vc_ret [] [] ?_)
          | ((with_reducible first | refine vc_caseD (fun h => ?_) (fun h => ?_) | refine vc_caseN (fun h => ?_) (fun h => ?_)) <;> try (exfalso; omega))
          | ((with_reducible refine vc_case (fun h => ?_) (fun h => ?_)) <;> (try simp only [Bool.cond_true_left, Bool.cond_false_right, Bool.cond_true_right, Bool.cond_false_left, Bool.and_eq_true, Bool.or_eq_true, Bool.and_eq_false_iff, Bool.or_eq_false_iff, Bool.not_eq_true', Bool.not_eq_false', Bool.not_eq_true, Bool.not_eq_false, Bool.not_not, decide_eq_true_eq, decide_eq_false_iff_not, beq_iff_eq, beq_eq_false_iff_ne, bne_iff_ne, bne_eq_false_iff_eq, ne_eq, Classical.not_not, reduceCtorEq, false_or, or_false, true_and, and_true, Bool.false_eq_true, Bool.true_eq_false] at h) <;> try (exfalso; first | omega | (simp at h; done)))))
  all_goals (try simp only [Int.toNat_natCast, at', bt])
  all_goals first
    | with_reducible rfl
    | omega
    | exact ⟨trivial, trivial⟩
    | exact ⟨trivial, trivial, trivial⟩
    | exact ⟨trivial, trivial, trivial, trivial⟩
    | exact ⟨⟨by decide, by decide, by decide⟩, trivial⟩
    | exact ⟨Nat.le_of_eq (Nat.zero_add _), trivial⟩
    | exact ⟨Nat.le_refl _, trivial, trivial⟩
    | (rw [wrap64_id (by omega) (by omega)]; rfl)
    | exact ⟨⟨by omega, by omega⟩, rfl⟩
    | rfl
    | (exfalso; simp at h; done)
    | skip

theorem cfirst_ok : LocalCall Try.prog 8 [.d (.sl (a.map tD)), .d (.sl (b.map tD))] [] [] (one [.d (.sl ((firA a b).map byteD)), .d (.sl ((firB a b).map byteD)), .d (.bool (firstF a b).isSome)]) [] := by
  have xa : (a.map tD).length = a.length := List.length_map _
  have xb : (b.map tD).length = b.length := List.length_map _
  have c0 : ∀ i, i < a.length → i < b.length → _ := fun i h1 h2 => local_ren [(9, 1000), (8, 1004)] [(1000, 9), (1004, 8)] (firstInner_ok a b ha hb i h1 h2) rfl
  cases hf : firstF a b with
  | none =>
    have key : LocalCall Try.prog 8 [.d (.sl (a.map tD)), .d (.sl (b.map tD))] [] [] (one [.d .nils, .d .nils, .d (.bool false)]) [] := by
      refine vc_fn mixed Try.func8 rfl rfl [] (vc_chk rfl) ?_
      repeat' (first
          | ((with_reducible refine vc_chk ?_); first | decide +kernel | rfl)
          | (with_reducible refine vc_side0 ?_; rfl)
          | (with_reducible first
               | refine vc_true ?_ | refine vc_true2 ?_ | refine vc_side ?_ ?_ | refine vc_triv | refine vc_later ?_ | refine vc_caseT ?_ | refine vc_caseF ?_ | refine vc_cons ?_ | refine vc_nil ?_ ?_ | refine vc_seq ?_
                  | refine vc_region ?_ | refine vc_cond ?_ | refine vc_block ?_ | refine vc_retc ?_ | refine vc_exit ?_ | refine vc_skip ?_ | refine vc_scope ?_ | refine vc_label ?_ | refine vc_goto ?_ | refine vc_wkSl0
                  | refine vc_wkHp0 | refine vc_eqAVs0 | refine vc_preG0 | refine vc_wkSl ?_ ?_ | refine vc_wkHp ?_ ?_ | refine vc_eqAVs ?_ ?_ | refine vc_preG ?_ ?_ | refine vc_side0 ?_
                  | refine vc_call [] (c0 i (by omega) (by omega)) ?_
                  | refine vc_loopI 32 (fun (i : Nat) => [(2, .ptr 1000 []), (3, .ptr 1004 []), (7, .fn (.func 28) [.ptr 1000 [], .ptr 1004 []]), (17, .d (.int .i64 (min ((a.map tD).length : Int) ((b.map tD).length : Int)))), (18, .d (.int .i64 (i : Int)))]) (fun _ => [(1000, .var (.d (.sl (a.map tD)))), (1004, .var (.d (.sl (b.map tD))))]) (fun i => a.length - i) (fun i => i ≤ a.length ∧ i ≤ b.length ∧ ∀ j, j < i → pairB (a.getD j []) (b.getD j []) = false) 0 [] ?_ ?_ ?_ ?_ ?_ (fun i hI => ?_)
                  | refine vc_nextI (i + 1) [] ?_ ?_ ?_ ?_ ?_ ?_ | refine vc_weakf [] ?_ ?_ ?_ | refine vc_and ?_ ?_ | refine vc_ret [] [] ?_)
          | ((with_reducible first | refine vc_caseD (fun h => ?_) (fun h => ?_) | refine vc_caseN (fun h => ?_) (fun h => ?_)) <;> try (exfalso; omega))
          | ((with_reducible refine vc_case (fun h => ?_) (fun h => ?_)) <;> (try simp only [Bool.cond_true_left, Bool.cond_false_right, Bool.cond_true_right, Bool.cond_false_left, Bool.and_eq_true, Bool.or_eq_true, Bool.and_eq_false_iff, Bool.or_eq_false_iff, Bool.not_eq_true', Bool.not_eq_false', Bool.not_eq_true, Bool.not_eq_false, Bool.not_not, decide_eq_true_eq, decide_eq_false_iff_not, beq_iff_eq, beq_eq_false_iff_ne, bne_iff_ne, bne_eq_false_iff_eq, ne_eq, Classical.not_not, reduceCtorEq, false_or, or_false, true_and, and_true, Bool.false_eq_true, Bool.true_eq_false] at h) <;> try (exfalso; first | omega | (simp at h; done)))
          | (conv in Vc _ => arg 1; whnf
             first
              | (with_reducible refine vc_side0 ?_; rfl)
              | (with_reducible first
                  | refine vc_true ?_ | refine vc_true2 ?_ | refine vc_side ?_ ?_ | refine vc_triv | refine vc_later ?_ | refine vc_caseT ?_ | refine vc_caseF ?_ | refine vc_cons ?_ | refine vc_nil ?_ ?_ | refine vc_seq ?_
                     | refine vc_region ?_ | refine vc_cond ?_ | refine vc_block ?_ | refine vc_retc ?_ | refine vc_exit ?_ | refine vc_skip ?_ | refine vc_scope ?_ | refine vc_label ?_ | refine vc_goto ?_ | refine vc_wkSl0
                     | refine vc_wkHp0 | refine vc_eqAVs0 | refine vc_preG0 | refine vc_wkSl ?_ ?_ | refine vc_wkHp ?_ ?_ | refine vc_eqAVs ?_ ?_ | refine vc_preG ?_ ?_ | refine vc_side0 ?_
                     | refine vc_call [] (c0 i (by omega) (by omega)) ?_
                     | refine vc_loopI 32 (fun (i : Nat) => [(2, .ptr 1000 []), (3, .ptr 1004 []), (7, .fn (.func 28) [.ptr 1000 [], .ptr 1004 []]), (17, .d (.int .i64 (min ((a.map tD).length : Int) ((b.map tD).length : Int)))), (18, .d (.int .i64 (i : Int)))]) (fun _ => [(1000, .var (.d (.sl (a.map tD)))), (1004, .var (.d (.sl (b.map tD))))]) (fun i => a.length - i) (fun i => i ≤ a.length ∧ i ≤ b.length ∧ ∀ j, j < i → pairB (a.getD j []) (b.getD j []) = false) 0 [] ?_ ?_ ?_ ?_ ?_ (fun i hI => ?_)
                     | refine vc_nextI (i + 1) [] ?_ ?_ ?_ ?_ ?_ ?_ | refine vc_weakf [] ?_ ?_ ?_ | refine vc_and ?_ ?_ | refine vc_ret [] [] ?_)
              | ((with_reducible first | refine vc_caseD (fun h => ?_) (fun h => ?_) | refine vc_caseN (fun h => ?_) (fun h => ?_)) <;> try (exfalso; omega))
              | ((with_reducible refine vc_case (fun h => ?_) (fun h => ?_)) <;> (try simp only [Bool.cond_true_left, Bool.cond_false_right, Bool.cond_true_right, Bool.cond_false_left, Bool.and_eq_true, Bool.or_eq_true, Bool.and_eq_false_iff, Bool.or_eq_false_iff, Bool.not_eq_true', Bool.not_eq_false', Bool.not_eq_true, Bool.not_eq_false, Bool.not_not, decide_eq_true_eq, decide_eq_false_iff_not, beq_iff_eq, beq_eq_false_iff_ne, bne_iff_ne, bne_eq_false_iff_eq, ne_eq, Classical.not_not, reduceCtorEq, false_or, or_false, true_and, and_true, Bool.false_eq_true, Bool.true_eq_false] at h) <;> try (exfalso; first | omega | (simp at h; done)))))
      all_goals first
        | with_reducible rfl
        | omega
        | exact ⟨trivial, trivial, trivial, trivial⟩
        | exact ⟨Nat.zero_le _, Nat.zero_le _, fun j hj => absurd hj (Nat.not_lt_zero j)⟩
        | exact ⟨by omega, by omega, no_more hI.2.2 (by first | assumption | simpa using h)⟩
        | (rw [wrap64_id (by omega) (by omega)]; rfl)
        | (exfalso; exact absurd (firstF_some (by omega) (by omega) hI.2.2 h) (by rw [hf]; simp))
        | (exfalso; exact absurd (firstF_none (by omega) hI.2.2) (by rw [hf]; simp))
        | rfl
        | trace_state
    have e : firA a b = [] ∧ firB a b = [] := by unfold firA firB; rw [hf]; exact ⟨rfl, rfl⟩
    rw [e.1, e.2]
    exact local_dn3 key
  | some k =>
    have e : firA a b = a.getD k [] ∧ firB a b = b.getD k [] := by unfold firA firB; rw [hf]; exact ⟨rfl, rfl⟩
    rw [e.1, e.2]
    refine vc_fn mixed Try.func8 rfl rfl [] (vc_chk rfl) ?_
    repeat' (first
        | ((with_reducible refine vc_chk ?_); first | decide +kernel | rfl)
        | (with_reducible refine vc_side0 ?_; rfl)
        | (with_reducible first
             | refine vc_true ?_ | refine vc_true2 ?_ | refine vc_side ?_ ?_ | refine vc_triv | refine vc_later ?_ | refine vc_caseT ?_ | refine vc_caseF ?_ | refine vc_cons ?_ | refine vc_nil ?_ ?_ | refine vc_seq ?_
                | refine vc_region ?_ | refine vc_cond ?_ | refine vc_block ?_ | refine vc_retc ?_ | refine vc_exit ?_ | refine vc_skip ?_ | refine vc_scope ?_ | refine vc_label ?_ | refine vc_goto ?_ | refine vc_wkSl0
                | refine vc_wkHp0 | refine vc_eqAVs0 | refine vc_preG0 | refine vc_wkSl ?_ ?_ | refine vc_wkHp ?_ ?_ | refine vc_eqAVs ?_ ?_ | refine vc_preG ?_ ?_ | refine vc_side0 ?_
                | refine vc_call [] (c0 i (by omega) (by omega)) ?_
                | refine vc_loopI 32 (fun (i : Nat) => [(2, .ptr 1000 []), (3, .ptr 1004 []), (7, .fn (.func 28) [.ptr 1000 [], .ptr 1004 []]), (17, .d (.int .i64 (min ((a.map tD).length : Int) ((b.map tD).length : Int)))), (18, .d (.int .i64 (i : Int)))]) (fun _ => [(1000, .var (.d (.sl (a.map tD)))), (1004, .var (.d (.sl (b.map tD))))]) (fun i => a.length - i) (fun i => i ≤ a.length ∧ i ≤ b.length ∧ ∀ j, j < i → pairB (a.getD j []) (b.getD j []) = false) 0 [] ?_ ?_ ?_ ?_ ?_ (fun i hI => ?_)
                | refine vc_nextI (i + 1) [] ?_ ?_ ?_ ?_ ?_ ?_ | refine vc_weakf [] ?_ ?_ ?_ | refine vc_and ?_ ?_ | refine vc_ret [] [] ?_)
        | ((with_reducible first | refine vc_caseD (fun h => ?_) (fun h => ?_) | refine vc_caseN (fun h => ?_) (fun h => ?_)) <;> try (exfalso; omega))
        | ((with_reducible refine vc_case (fun h => ?_) (fun h => ?_)) <;> (try simp only [Bool.cond_true_left, Bool.cond_false_right, Bool.cond_true_right, Bool.cond_false_left, Bool.and_eq_true, Bool.or_eq_true, Bool.and_eq_false_iff, Bool.or_eq_false_iff, Bool.not_eq_true', Bool.not_eq_false', Bool.not_eq_true, Bool.not_eq_false, Bool.not_not, decide_eq_true_eq, decide_eq_false_iff_not, beq_iff_eq, beq_eq_false_iff_ne, bne_iff_ne, bne_eq_false_iff_eq, ne_eq, Classical.not_not, reduceCtorEq, false_or, or_false, true_and, and_true, Bool.false_eq_true, Bool.true_eq_false] at h) <;> try (exfalso; first | omega | (simp at h; done)))
        | (conv in Vc _ => arg 1; whnf
           first
            | (with_reducible refine vc_side0 ?_; rfl)
            | (with_reducible first
                | refine vc_true ?_ | refine vc_true2 ?_ | refine vc_side ?_ ?_ | refine vc_triv | refine vc_later ?_ | refine vc_caseT ?_ | refine vc_caseF ?_ | refine vc_cons ?_ | refine vc_nil ?_ ?_ | refine vc_seq ?_
                   | refine vc_region ?_ | refine vc_cond ?_ | refine vc_block ?_ | refine vc_retc ?_ | refine vc_exit ?_ | refine vc_skip ?_ | refine vc_scope ?_ | refine vc_label ?_ | refine vc_goto ?_ | refine vc_wkSl0
                   | refine vc_wkHp0 | refine vc_eqAVs0 | refine vc_preG0 | refine vc_wkSl ?_ ?_ | refine vc_wkHp ?_ ?_ | refine vc_eqAVs ?_ ?_ | refine vc_preG ?_ ?_ | refine vc_side0 ?_
                   | refine vc_call [] (c0 i (by omega) (by omega)) ?_
                   | refine vc_loopI 32 (fun (i : Nat) => [(2, .ptr 1000 []), (3, .ptr 1004 []), (7, .fn (.func 28) [.ptr 1000 [], .ptr 1004 []]), (17, .d (.int .i64 (min ((a.map tD).length : Int) ((b.map tD).length : Int)))), (18, .d (.int .i64 (i : Int)))]) (fun _ => [(1000, .var (.d (.sl (a.map tD)))), (1004, .var (.d (.sl (b.map tD))))]) (fun i => a.length - i) (fun i => i ≤ a.length ∧ i ≤ b.length ∧ ∀ j, j < i → pairB (a.getD j []) (b.getD j []) = false) 0 [] ?_ ?_ ?_ ?_ ?_ (fun i hI => ?_)
                   | refine vc_nextI (i + 1) [] ?_ ?_ ?_ ?_ ?_ ?_ | refine vc_weakf [] ?_ ?_ ?_ | refine vc_and ?_ ?_ | refine vc_ret [] [] ?_)
            | ((with_reducible first | refine vc_caseD (fun h => ?_) (fun h => ?_) | refine vc_caseN (fun h => ?_) (fun h => ?_)) <;> try (exfalso; omega))
            | ((with_reducible refine vc_case (fun h => ?_) (fun h => ?_)) <;> (try simp only [Bool.cond_true_left, Bool.cond_false_right, Bool.cond_true_right, Bool.cond_false_left, Bool.and_eq_true, Bool.or_eq_true, Bool.and_eq_false_iff, Bool.or_eq_false_iff, Bool.not_eq_true', Bool.not_eq_false', Bool.not_eq_true, Bool.not_eq_false, Bool.not_not, decide_eq_true_eq, decide_eq_false_iff_not, beq_iff_eq, beq_eq_false_iff_ne, bne_iff_ne, bne_eq_false_iff_eq, ne_eq, Classical.not_not, reduceCtorEq, false_or, or_false, true_and, and_true, Bool.false_eq_true, Bool.true_eq_false] at h) <;> try (exfalso; first | omega | (simp at h; done)))))
    all_goals first
      | with_reducible rfl
      | omega
      | exact ⟨trivial, trivial, trivial, trivial⟩
      | exact ⟨Nat.zero_le _, Nat.zero_le _, fun j hj => absurd hj (Nat.not_lt_zero j)⟩
      | exact ⟨by omega, by omega, no_more hI.2.2 (by first | assumption | simpa using h)⟩
      | (rw [wrap64_id (by omega) (by omega)]; rfl)
      | (exfalso; exact absurd (firstF_none (by omega) hI.2.2) (by rw [hf]; simp))
      | (rw [some_eq hf (firstF_some (by omega) (by omega) hI.2.2 h)]; unfold tellA; rw [h]; rfl)
      | (rw [some_eq hf (firstF_some (by omega) (by omega) hI.2.2 h)]; unfold tellB; rw [h]; rfl)
      | rfl
      | trace_state

theorem rFirst_ok : LocalCall Try.prog 9 [.d (.sl (a.map tD)), .d (.sl (b.map tD))] [] [] (one [.d (.int .i64 (firI a b))]) [] := by
  have xa : (a.map tD).length = a.length := List.length_map _
  have xb : (b.map tD).length = b.length := List.length_map _
  have at' : ∀ i, i < a.length → (a.map tD).getD i .nilp = tD (a.getD i []) := fun i hi => (map_at (f := tD) (d := []) hi).1
  have bt : ∀ i, i < b.length → (b.map tD).getD i .nilp = tD (b.getD i []) := fun i hi => (map_at (f := tD) (d := []) hi).1
  have ma : ∀ i, i < a.length → (a.getD i []).length < 2 ^ 28 := fun i hi => ha _ (by rw [List.getD_eq_getElem?_getD, List.getElem?_eq_getElem hi]; simp)
  have mb : ∀ i, i < b.length → (b.getD i []).length < 2 ^ 28 := fun i hi => hb _ (by rw [List.getD_eq_getElem?_getD, List.getElem?_eq_getElem hi]; simp)
  have c0 : ∀ i, i < a.length → i < b.length → _ := fun i h1 h2 => rPair_ok (a.getD i []) (b.getD i []) (ma i h1) (mb i h2)
  refine vc_fn mixed Try.func9 rfl rfl [] (vc_chk rfl) ?_
  repeat' (first
      | ((with_reducible refine vc_chk ?_); first | decide +kernel | rfl)
      | (with_reducible refine vc_side0 ?_; rfl)
      | (with_reducible first
           | refine vc_true ?_ | refine vc_true2 ?_ | refine vc_side ?_ ?_ | refine vc_triv | refine vc_later ?_ | refine vc_caseT ?_ | refine vc_caseF ?_ | refine vc_cons ?_ | refine vc_nil ?_ ?_ | refine vc_seq ?_
              | refine vc_region ?_ | refine vc_cond ?_ | refine vc_block ?_ | refine vc_retc ?_ | refine vc_exit ?_ | refine vc_skip ?_ | refine vc_scope ?_ | refine vc_label ?_ | refine vc_goto ?_ | refine vc_wkSl0
              | refine vc_wkHp0 | refine vc_eqAVs0 | refine vc_preG0 | refine vc_wkSl ?_ ?_ | refine vc_wkHp ?_ ?_ | refine vc_eqAVs ?_ ?_ | refine vc_preG ?_ ?_ | refine vc_side0 ?_
              | refine vc_call [] (c0 i (by omega) (by omega)) ?_
              | refine vc_loopI 28 (fun (i : Nat) => [(0, .d (.sl (a.map tD))), (1, .d (.sl (b.map tD))), (5, .d (.int .i64 (i : Int)))]) (fun _ => []) (fun i => a.length - i) (fun i => i ≤ a.length ∧ ∀ j, j < i → pairB (a.getD j []) (b.getD j []) = false) 0 [] ?_ ?_ ?_ ?_ ?_ (fun i hI => ?_)
              | refine vc_nextI (i + 1) [] ?_ ?_ ?_ ?_ ?_ ?_ | refine vc_weakf [] ?_ ?_ ?_ | refine vc_and ?_ ?_ | refine vc_ret [] [] ?_)
      | ((with_reducible first | refine vc_caseD (fun h => ?_) (fun h => ?_) | refine vc_caseN (fun h => ?_) (fun h => ?_)) <;> try (exfalso; omega))
      | ((with_reducible refine vc_case (fun h => ?_) (fun h => ?_)) <;> (try simp only [Bool.cond_true_left, Bool.cond_false_right, Bool.cond_true_right, Bool.cond_false_left, Bool.and_eq_true, Bool.or_eq_true, Bool.and_eq_false_iff, Bool.or_eq_false_iff, Bool.not_eq_true', Bool.not_eq_false', Bool.not_eq_true, Bool.not_eq_false, Bool.not_not, decide_eq_true_eq, decide_eq_false_iff_not, beq_iff_eq, beq_eq_false_iff_ne, bne_iff_ne, bne_eq_false_iff_eq, ne_eq, Classical.not_not, reduceCtorEq, false_or, or_false, true_and, and_true, Bool.false_eq_true, Bool.true_eq_false] at h) <;> try (exfalso; first | omega | (simp at h; done)))
      | (conv in Vc _ => arg 1; whnf
         first
          | (with_reducible refine vc_side0 ?_; rfl)
          | (with_reducible first
              | refine vc_true ?_ | refine vc_true2 ?_ | refine vc_side ?_ ?_ | refine vc_triv | refine vc_later ?_ | refine vc_caseT ?_ | refine vc_caseF ?_ | refine vc_cons ?_ | refine vc_nil ?_ ?_ | refine vc_seq ?_
                 | refine vc_region ?_ | refine vc_cond ?_ | refine vc_block ?_ | refine vc_retc ?_ | refine vc_exit ?_ | refine vc_skip ?_ | refine vc_scope ?_ | refine vc_label ?_ | refine vc_goto ?_ | refine vc_wkSl0
                 | refine vc_wkHp0 | refine vc_eqAVs0 | refine vc_preG0 | refine vc_wkSl ?_ ?_ | refine vc_wkHp ?_ ?_ | refine vc_eqAVs ?_ ?_ | refine vc_preG ?_ ?_ | refine vc_side0 ?_
                 | refine vc_call [] (c0 i (by omega) (by omega)) ?_
                 | refine vc_loopI 28 (fun (i : Nat) => [(0, .d (.sl (a.map tD))), (1, .d (.sl (b.map tD))), (5, .d (.int .i64 (i : Int)))]) (fun _ => []) (fun i => a.length - i) (fun i => i ≤ a.length ∧ ∀ j, j < i → pairB (a.getD j []) (b.getD j []) = false) 0 [] ?_ ?_ ?_ ?_ ?_ (fun i hI => ?_)
                 | refine vc_nextI (i + 1) [] ?_ ?_ ?_ ?_ ?_ ?_ | refine vc_weakf [] ?_ ?_ ?_ | refine vc_and ?_ ?_ | refine vc_ret [] [] ?_)
          | ((with_reducible first | refine vc_caseD (fun h => ?_) (fun h => ?_) | refine vc_caseN (fun h => ?_) (fun h => ?_)) <;> try (exfalso; omega))
          | ((with_reducible refine vc_case (fun h => ?_) (fun h => ?_)) <;> (try simp only [Bool.cond_true_left, Bool.cond_false_right, Bool.cond_true_right, Bool.cond_false_left, Bool.and_eq_true, Bool.or_eq_true, Bool.and_eq_false_iff, Bool.or_eq_false_iff, Bool.not_eq_true', Bool.not_eq_false', Bool.not_eq_true, Bool.not_eq_false, Bool.not_not, decide_eq_true_eq, decide_eq_false_iff_not, beq_iff_eq, beq_eq_false_iff_ne, bne_iff_ne, bne_eq_false_iff_eq, ne_eq, Classical.not_not, reduceCtorEq, false_or, or_false, true_and, and_true, Bool.false_eq_true, Bool.true_eq_false] at h) <;> try (exfalso; first | omega | (simp at h; done)))))
  all_goals (try simp only [Int.toNat_natCast])
  all_goals (try simp only [at' i (by omega)])
  all_goals (try simp only [bt i (by omega)])
  all_goals first
    | with_reducible rfl
    | omega
    | exact ⟨Nat.zero_le _, fun j hj => absurd hj (Nat.not_lt_zero j)⟩
    | exact ⟨⟨by omega, by omega⟩, rfl⟩
    | exact ⟨by omega, no_more hI.2 h⟩
    | (rw [wrap64_id (by omega) (by omega)]; rfl)
    | (unfold firI; rw [firstF_some (by omega) (by omega) hI.2 h]; done)
    | (unfold firI; rw [firstF_none (by omega) hI.2]; done)
    | rfl
    | trace_state
end

end Go.Proofs.Ytdceegllpcepnaa
