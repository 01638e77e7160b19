import Derived.Test.YtlkibgkkmmoalaaJ1
import Derived.Test.YtlkibgkkmmoalaaJ2
import Derived.Test.YtlkibgkkmmoalaaJ3
import Derived.Test.YtlkibgkkmmoalaaJ4
import Derived.Test.YtlkibgkkmmoalaaJ5
set_option linter.unusedSimpArgs false
set_option linter.unusedVariables false
/-
The document's answer of what signs once.
-/
set_option linter.unusedSimpArgs false
set_option linter.unusedVariables false
namespace Go.Proofs.Ytlkibgkkmmoalaa
open Go.Sym
set_option maxRecDepth 10000
set_option maxHeartbeats 1000000

theorem rPart_ok (seed : List UInt8) (hs : seed.length = 32) (key : Nat) (hk : key < 2 ^ 64) (i : Nat) (hi : i < 256) (on : Bool) :
    LocalCall Try.prog 46 [.d (.arr 32 1 (seed.map byteD)), .d (.int .u64 (key : Int)), .d (.int .i64 (i : Int)), .d (.bool on)] [] [] (one [.d (.arr 32 1 ((keyH seed key i on).map byteD))]) [] := by
  have c0 := rKeyOf_ok seed hs key hk i hi 0 (.inl rfl)
  have c1 := rKeyOf_ok seed hs key hk i hi 1 (.inr rfl)
  rw [decide_eq_false (by decide)] at c0
  rw [decide_eq_true rfl] at c1
  refine vc_fn mixed Try.func46 rfl rfl [] (vc_chk rfl) ?_
  repeat' (first
      | ((with_reducible refine vc_chk ?_); first | decide +kernel | rfl)
      | (with_reducible refine vc_side0 ?_; rfl)
      | (with_reducible first
           | refine vc_true ?_ | refine vc_true2 ?_ | refine vc_side ?_ ?_ | refine vc_triv | refine vc_later ?_ | refine vc_caseT ?_ | refine vc_caseF ?_ | refine vc_cons ?_ | refine vc_nil ?_ ?_ | refine vc_seq ?_
              | refine vc_region ?_ | refine vc_cond ?_ | refine vc_block ?_ | refine vc_retc ?_ | refine vc_exit ?_ | refine vc_skip ?_ | refine vc_scope ?_ | refine vc_label ?_ | refine vc_goto ?_ | refine vc_wkSl0
              | refine vc_wkHp0 | refine vc_eqAVs0 | refine vc_preG0 | refine vc_wkSl ?_ ?_ | refine vc_wkHp ?_ ?_ | refine vc_eqAVs ?_ ?_ | refine vc_preG ?_ ?_ | refine vc_side0 ?_ | refine vc_pure c0 ?_ ?_ ?_
              | refine vc_pure c1 ?_ ?_ ?_ | refine vc_weakf [] ?_ ?_ ?_ | refine vc_and ?_ ?_ | refine vc_ret [] [] ?_)
      | ((with_reducible first | refine vc_caseD (fun h => ?_) (fun h => ?_) | refine vc_caseN (fun h => ?_) (fun h => ?_)) <;> try (exfalso; omega))
      | ((with_reducible refine vc_case (fun h => ?_) (fun h => ?_)) <;> (try simp only [Bool.cond_true_left, Bool.cond_false_right, Bool.cond_true_right, Bool.cond_false_left, Bool.and_eq_true, Bool.or_eq_true, Bool.and_eq_false_iff, Bool.or_eq_false_iff, Bool.not_eq_true', Bool.not_eq_false', Bool.not_eq_true, Bool.not_eq_false, Bool.not_not, decide_eq_true_eq, decide_eq_false_iff_not, beq_iff_eq, beq_eq_false_iff_ne, bne_iff_ne, bne_eq_false_iff_eq, ne_eq, Classical.not_not, reduceCtorEq, false_or, or_false, true_and, and_true, Bool.false_eq_true, Bool.true_eq_false] at h) <;> try (exfalso; first | omega | (simp at h; done)))
      | (conv in Vc _ => arg 1; whnf
         first
          | (with_reducible refine vc_side0 ?_; rfl)
          | (with_reducible first
              | refine vc_true ?_ | refine vc_true2 ?_ | refine vc_side ?_ ?_ | refine vc_triv | refine vc_later ?_ | refine vc_caseT ?_ | refine vc_caseF ?_ | refine vc_cons ?_ | refine vc_nil ?_ ?_ | refine vc_seq ?_
                 | refine vc_region ?_ | refine vc_cond ?_ | refine vc_block ?_ | refine vc_retc ?_ | refine vc_exit ?_ | refine vc_skip ?_ | refine vc_scope ?_ | refine vc_label ?_ | refine vc_goto ?_ | refine vc_wkSl0
                 | refine vc_wkHp0 | refine vc_eqAVs0 | refine vc_preG0 | refine vc_wkSl ?_ ?_ | refine vc_wkHp ?_ ?_ | refine vc_eqAVs ?_ ?_ | refine vc_preG ?_ ?_ | refine vc_side0 ?_ | refine vc_pure c0 ?_ ?_ ?_
                 | refine vc_pure c1 ?_ ?_ ?_ | refine vc_weakf [] ?_ ?_ ?_ | refine vc_and ?_ ?_ | refine vc_ret [] [] ?_)
          | ((with_reducible first | refine vc_caseD (fun h => ?_) (fun h => ?_) | refine vc_caseN (fun h => ?_) (fun h => ?_)) <;> try (exfalso; omega))
          | ((with_reducible refine vc_case (fun h => ?_) (fun h => ?_)) <;> (try simp only [Bool.cond_true_left, Bool.cond_false_right, Bool.cond_true_right, Bool.cond_false_left, Bool.and_eq_true, Bool.or_eq_true, Bool.and_eq_false_iff, Bool.or_eq_false_iff, Bool.not_eq_true', Bool.not_eq_false', Bool.not_eq_true, Bool.not_eq_false, Bool.not_not, decide_eq_true_eq, decide_eq_false_iff_not, beq_iff_eq, beq_eq_false_iff_ne, bne_iff_ne, bne_eq_false_iff_eq, ne_eq, Classical.not_not, reduceCtorEq, false_or, or_false, true_and, and_true, Bool.false_eq_true, Bool.true_eq_false] at h) <;> try (exfalso; first | omega | (simp at h; done)))))
  all_goals first
    | rfl
    | (subst h; rfl)
    | skip

theorem rHashed_ok (seed : List UInt8) (hs : seed.length = 32) (key : Nat) (hk : key < 2 ^ 64) (i : Nat) (hi : i < 256) (on : Bool) :
    LocalCall Try.prog 47 [.d (.arr 32 1 (seed.map byteD)), .d (.int .u64 (key : Int)), .d (.int .i64 (i : Int)), .d (.bool on)] [] [] (one [.d (.arr 32 1 ((shaB (keyH seed key i on)).map byteD))]) [] := by
  have c0 := rPart_ok seed hs key hk i hi on
  have c1 := rOf_ok (keyH seed key i on) (by rw [keyH_length]; decide)
  refine vc_fn mixed Try.func47 rfl rfl [] (vc_chk rfl) ?_
  repeat' (first
      | ((with_reducible refine vc_chk ?_); first | decide +kernel | rfl)
      | (with_reducible refine vc_side0 ?_; rfl)
      | (with_reducible first
           | refine vc_true ?_ | refine vc_true2 ?_ | refine vc_side ?_ ?_ | refine vc_triv | refine vc_later ?_ | refine vc_caseT ?_ | refine vc_caseF ?_ | refine vc_cons ?_ | refine vc_nil ?_ ?_ | refine vc_seq ?_
              | refine vc_region ?_ | refine vc_cond ?_ | refine vc_block ?_ | refine vc_retc ?_ | refine vc_exit ?_ | refine vc_skip ?_ | refine vc_scope ?_ | refine vc_label ?_ | refine vc_goto ?_ | refine vc_wkSl0
              | refine vc_wkHp0 | refine vc_eqAVs0 | refine vc_preG0 | refine vc_wkSl ?_ ?_ | refine vc_wkHp ?_ ?_ | refine vc_eqAVs ?_ ?_ | refine vc_preG ?_ ?_ | refine vc_side0 ?_ | refine vc_pure c0 ?_ ?_ ?_
              | refine vc_call [true] c1 ?_ | refine vc_weakf [] ?_ ?_ ?_ | refine vc_and ?_ ?_ | refine vc_ret [] [] ?_)
      | ((with_reducible first | refine vc_caseD (fun h => ?_) (fun h => ?_) | refine vc_caseN (fun h => ?_) (fun h => ?_)) <;> try (exfalso; omega))
      | ((with_reducible refine vc_case (fun h => ?_) (fun h => ?_)) <;> (try simp only [Bool.cond_true_left, Bool.cond_false_right, Bool.cond_true_right, Bool.cond_false_left, Bool.and_eq_true, Bool.or_eq_true, Bool.and_eq_false_iff, Bool.or_eq_false_iff, Bool.not_eq_true', Bool.not_eq_false', Bool.not_eq_true, Bool.not_eq_false, Bool.not_not, decide_eq_true_eq, decide_eq_false_iff_not, beq_iff_eq, beq_eq_false_iff_ne, bne_iff_ne, bne_eq_false_iff_eq, ne_eq, Classical.not_not, reduceCtorEq, false_or, or_false, true_and, and_true, Bool.false_eq_true, Bool.true_eq_false] at h) <;> try (exfalso; first | omega | (simp at h; done)))
      | (conv in Vc _ => arg 1; whnf
         first
          | (with_reducible refine vc_side0 ?_; rfl)
          | (with_reducible first
              | refine vc_true ?_ | refine vc_true2 ?_ | refine vc_side ?_ ?_ | refine vc_triv | refine vc_later ?_ | refine vc_caseT ?_ | refine vc_caseF ?_ | refine vc_cons ?_ | refine vc_nil ?_ ?_ | refine vc_seq ?_
                 | refine vc_region ?_ | refine vc_cond ?_ | refine vc_block ?_ | refine vc_retc ?_ | refine vc_exit ?_ | refine vc_skip ?_ | refine vc_scope ?_ | refine vc_label ?_ | refine vc_goto ?_ | refine vc_wkSl0
                 | refine vc_wkHp0 | refine vc_eqAVs0 | refine vc_preG0 | refine vc_wkSl ?_ ?_ | refine vc_wkHp ?_ ?_ | refine vc_eqAVs ?_ ?_ | refine vc_preG ?_ ?_ | refine vc_side0 ?_ | refine vc_pure c0 ?_ ?_ ?_
                 | refine vc_call [true] c1 ?_ | refine vc_weakf [] ?_ ?_ ?_ | refine vc_and ?_ ?_ | refine vc_ret [] [] ?_)
          | ((with_reducible first | refine vc_caseD (fun h => ?_) (fun h => ?_) | refine vc_caseN (fun h => ?_) (fun h => ?_)) <;> try (exfalso; omega))
          | ((with_reducible refine vc_case (fun h => ?_) (fun h => ?_)) <;> (try simp only [Bool.cond_true_left, Bool.cond_false_right, Bool.cond_true_right, Bool.cond_false_left, Bool.and_eq_true, Bool.or_eq_true, Bool.and_eq_false_iff, Bool.or_eq_false_iff, Bool.not_eq_true', Bool.not_eq_false', Bool.not_eq_true, Bool.not_eq_false, Bool.not_not, decide_eq_true_eq, decide_eq_false_iff_not, beq_iff_eq, beq_eq_false_iff_ne, bne_iff_ne, bne_eq_false_iff_eq, ne_eq, Classical.not_not, reduceCtorEq, false_or, or_false, true_and, and_true, Bool.false_eq_true, Bool.true_eq_false] at h) <;> try (exfalso; first | omega | (simp at h; done)))))
  all_goals (try simp only [take32d (keyH_length _ _ _ _)])
  all_goals first
    | rfl
    | exact ⟨⟨by decide, by decide, by decide⟩, trivial⟩
    | exact ⟨⟨trivial, len32 (keyH_length _ _ _ _)⟩, trivial⟩
    | exact ⟨trivial, trivial, trivial⟩
    | skip

theorem lrText_ok (seed : List UInt8) (hs : seed.length = 32) (key : Nat) (hk : key < 2 ^ 64) :
    LocalCall Try.prog 44 [.d (.arr 32 1 (seed.map byteD)), .d (.int .u64 (key : Int))] [] [] (one [.d (.sl ((textP (keyH seed key)).map byteD))]) [] := by
  have hc0 : ∀ i : Nat, i < 256 → _ := fun i hi => rHashed_ok seed hs key hk i hi false
  have hc1 : ∀ i : Nat, i < 256 → _ := fun i hi => rHashed_ok seed hs key hk i hi true
  refine vc_fn mixed Try.func44 rfl rfl [] (vc_chk rfl) ?_
  repeat' (first
      | ((with_reducible refine vc_chk ?_); first | decide +kernel | rfl)
      | (with_reducible refine vc_side0 ?_; rfl)
      | (with_reducible first
           | refine vc_true ?_ | refine vc_true2 ?_ | refine vc_side ?_ ?_ | refine vc_triv | refine vc_later ?_ | refine vc_caseT ?_ | refine vc_caseF ?_ | refine vc_cons ?_ | refine vc_nil ?_ ?_ | refine vc_seq ?_
              | refine vc_region ?_ | refine vc_cond ?_ | refine vc_block ?_ | refine vc_retc ?_ | refine vc_exit ?_ | refine vc_skip ?_ | refine vc_scope ?_ | refine vc_label ?_ | refine vc_goto ?_ | refine vc_wkSl0
              | refine vc_wkHp0 | refine vc_eqAVs0 | refine vc_preG0 | refine vc_wkSl ?_ ?_ | refine vc_wkHp ?_ ?_ | refine vc_eqAVs ?_ ?_ | refine vc_preG ?_ ?_ | refine vc_side0 ?_
              | refine vc_loopI 31 (fun (i : Nat) => [(1, .d (.int .u64 (key : Int))), (2, .ptr 1000 []), (5, .sl 7 [] 1 0 ((textN (keyH seed key) i).map byteD).length), (6, .d (.int .i64 (i : Int)))]) (fun i => [(1000, .var (.d (.arr 32 1 (seed.map byteD)))), (7, .row 1 ((textN (keyH seed key) i).map byteD))]) (fun i => 256 - i) (fun i => i ≤ 256) 0 [(7, 2000)] ?_ ?_ ?_ ?_ ?_ (fun i hI => ?_)
              | refine vc_pure (hc0 i (by omega)) ?_ ?_ ?_ | refine vc_pure (hc1 i (by omega)) ?_ ?_ ?_ | refine vc_nextI (i + 1) [(7, 10008)] ?_ ?_ ?_ ?_ ?_ ?_ | refine vc_ret [true] [] ?_ | refine vc_weakf [] ?_ ?_ ?_
              | refine vc_and ?_ ?_ | refine vc_ret [] [] ?_)
      | ((with_reducible first | refine vc_caseD (fun h => ?_) (fun h => ?_) | refine vc_caseN (fun h => ?_) (fun h => ?_)) <;> try (exfalso; omega))
      | ((with_reducible refine vc_case (fun h => ?_) (fun h => ?_)) <;> (try simp only [Bool.cond_true_left, Bool.cond_false_right, Bool.cond_true_right, Bool.cond_false_left, Bool.and_eq_true, Bool.or_eq_true, Bool.and_eq_false_iff, Bool.or_eq_false_iff, Bool.not_eq_true', Bool.not_eq_false', Bool.not_eq_true, Bool.not_eq_false, Bool.not_not, decide_eq_true_eq, decide_eq_false_iff_not, beq_iff_eq, beq_eq_false_iff_ne, bne_iff_ne, bne_eq_false_iff_eq, ne_eq, Classical.not_not, reduceCtorEq, false_or, or_false, true_and, and_true, Bool.false_eq_true, Bool.true_eq_false] at h) <;> try (exfalso; first | omega | (simp at h; done)))
      | (conv in Vc _ => arg 1; whnf
         first
          | (with_reducible refine vc_side0 ?_; rfl)
          | (with_reducible first
              | refine vc_true ?_ | refine vc_true2 ?_ | refine vc_side ?_ ?_ | refine vc_triv | refine vc_later ?_ | refine vc_caseT ?_ | refine vc_caseF ?_ | refine vc_cons ?_ | refine vc_nil ?_ ?_ | refine vc_seq ?_
                 | refine vc_region ?_ | refine vc_cond ?_ | refine vc_block ?_ | refine vc_retc ?_ | refine vc_exit ?_ | refine vc_skip ?_ | refine vc_scope ?_ | refine vc_label ?_ | refine vc_goto ?_ | refine vc_wkSl0
                 | refine vc_wkHp0 | refine vc_eqAVs0 | refine vc_preG0 | refine vc_wkSl ?_ ?_ | refine vc_wkHp ?_ ?_ | refine vc_eqAVs ?_ ?_ | refine vc_preG ?_ ?_ | refine vc_side0 ?_
                 | refine vc_loopI 31 (fun (i : Nat) => [(1, .d (.int .u64 (key : Int))), (2, .ptr 1000 []), (5, .sl 7 [] 1 0 ((textN (keyH seed key) i).map byteD).length), (6, .d (.int .i64 (i : Int)))]) (fun i => [(1000, .var (.d (.arr 32 1 (seed.map byteD)))), (7, .row 1 ((textN (keyH seed key) i).map byteD))]) (fun i => 256 - i) (fun i => i ≤ 256) 0 [(7, 2000)] ?_ ?_ ?_ ?_ ?_ (fun i hI => ?_)
                 | refine vc_pure (hc0 i (by omega)) ?_ ?_ ?_ | refine vc_pure (hc1 i (by omega)) ?_ ?_ ?_ | refine vc_nextI (i + 1) [(7, 10008)] ?_ ?_ ?_ ?_ ?_ ?_ | refine vc_ret [true] [] ?_ | refine vc_weakf [] ?_ ?_ ?_
                 | refine vc_and ?_ ?_ | refine vc_ret [] [] ?_)
          | ((with_reducible first | refine vc_caseD (fun h => ?_) (fun h => ?_) | refine vc_caseN (fun h => ?_) (fun h => ?_)) <;> try (exfalso; omega))
          | ((with_reducible refine vc_case (fun h => ?_) (fun h => ?_)) <;> (try simp only [Bool.cond_true_left, Bool.cond_false_right, Bool.cond_true_right, Bool.cond_false_left, Bool.and_eq_true, Bool.or_eq_true, Bool.and_eq_false_iff, Bool.or_eq_false_iff, Bool.not_eq_true', Bool.not_eq_false', Bool.not_eq_true, Bool.not_eq_false, Bool.not_not, decide_eq_true_eq, decide_eq_false_iff_not, beq_iff_eq, beq_eq_false_iff_ne, bne_iff_ne, bne_eq_false_iff_eq, ne_eq, Classical.not_not, reduceCtorEq, false_or, or_false, true_and, and_true, Bool.false_eq_true, Bool.true_eq_false] at h) <;> try (exfalso; first | omega | (simp at h; done)))))
  all_goals (try simp only [Int.toNat_natCast, t32k, t32s])
  all_goals first
    | with_reducible rfl
    | omega
    | exact ⟨trivial, trivial⟩
    | exact ⟨trivial, trivial, trivial⟩
    | exact ⟨trivial, trivial, trivial, trivial⟩
    | exact ⟨⟨by decide, by decide, by decide⟩, trivial⟩
    | exact ⟨Nat.le_of_eq (Nat.zero_add _), trivial⟩
    | exact ⟨Nat.le_refl _, trivial, trivial⟩
    | (rw [wrap64_id (by omega) (by omega)]; rfl)
    | exact ⟨by decide, by decide, by decide, by decide⟩
    | (decide; done)
    | exact ⟨⟨⟨trivial, len32 (shaB_length _)⟩, trivial, roomJ (by simp only [List.length_append, List.length_map, textN_length, shaB_length]; omega)⟩, fun y hy => size_bytes _ y hy⟩
    | (rw [← textN_succ]; done)
    | ((obtain rfl : i = 256 := (by omega)); rw [List.drop_zero, List.take_length]; rfl)
    | rfl
    | (exfalso; simp at h; done)
    | skip

theorem rPublic_ok (seed : List UInt8) (hs : seed.length = 32) (key : Nat) (hk : key < 2 ^ 64) :
    LocalCall Try.prog 32 [.d (.arr 32 1 (seed.map byteD)), .d (.int .u64 (key : Int))] [] [] (one [.d (.arr 32 1 ((shaB (textP (keyH seed key))).map byteD))]) [] := by
  have c1 := lrText_ok seed hs key hk
  have c2 := rOf_ok (textP (keyH seed key)) (by rw [textP_length]; decide)
  refine vc_fn mixed Try.func32 rfl rfl [] (vc_chk rfl) ?_
  repeat' (first
      | ((with_reducible refine vc_chk ?_); first | decide +kernel | rfl)
      | (with_reducible refine vc_side0 ?_; rfl)
      | (with_reducible first
           | refine vc_true ?_ | refine vc_true2 ?_ | refine vc_side ?_ ?_ | refine vc_triv | refine vc_later ?_ | refine vc_caseT ?_ | refine vc_caseF ?_ | refine vc_cons ?_ | refine vc_nil ?_ ?_ | refine vc_seq ?_
              | refine vc_region ?_ | refine vc_cond ?_ | refine vc_block ?_ | refine vc_retc ?_ | refine vc_exit ?_ | refine vc_skip ?_ | refine vc_scope ?_ | refine vc_label ?_ | refine vc_goto ?_ | refine vc_wkSl0
              | refine vc_wkHp0 | refine vc_eqAVs0 | refine vc_preG0 | refine vc_wkSl ?_ ?_ | refine vc_wkHp ?_ ?_ | refine vc_eqAVs ?_ ?_ | refine vc_preG ?_ ?_ | refine vc_side0 ?_ | refine vc_pure c1 ?_ ?_ ?_
              | refine vc_pure c2 ?_ ?_ ?_ | refine vc_weakf [] ?_ ?_ ?_ | refine vc_and ?_ ?_ | refine vc_ret [] [] ?_)
      | ((with_reducible first | refine vc_caseD (fun h => ?_) (fun h => ?_) | refine vc_caseN (fun h => ?_) (fun h => ?_)) <;> try (exfalso; omega))
      | ((with_reducible refine vc_case (fun h => ?_) (fun h => ?_)) <;> (try simp only [Bool.cond_true_left, Bool.cond_false_right, Bool.cond_true_right, Bool.cond_false_left, Bool.and_eq_true, Bool.or_eq_true, Bool.and_eq_false_iff, Bool.or_eq_false_iff, Bool.not_eq_true', Bool.not_eq_false', Bool.not_eq_true, Bool.not_eq_false, Bool.not_not, decide_eq_true_eq, decide_eq_false_iff_not, beq_iff_eq, beq_eq_false_iff_ne, bne_iff_ne, bne_eq_false_iff_eq, ne_eq, Classical.not_not, reduceCtorEq, false_or, or_false, true_and, and_true, Bool.false_eq_true, Bool.true_eq_false] at h) <;> try (exfalso; first | omega | (simp at h; done)))
      | (conv in Vc _ => arg 1; whnf
         first
          | (with_reducible refine vc_side0 ?_; rfl)
          | (with_reducible first
              | refine vc_true ?_ | refine vc_true2 ?_ | refine vc_side ?_ ?_ | refine vc_triv | refine vc_later ?_ | refine vc_caseT ?_ | refine vc_caseF ?_ | refine vc_cons ?_ | refine vc_nil ?_ ?_ | refine vc_seq ?_
                 | refine vc_region ?_ | refine vc_cond ?_ | refine vc_block ?_ | refine vc_retc ?_ | refine vc_exit ?_ | refine vc_skip ?_ | refine vc_scope ?_ | refine vc_label ?_ | refine vc_goto ?_ | refine vc_wkSl0
                 | refine vc_wkHp0 | refine vc_eqAVs0 | refine vc_preG0 | refine vc_wkSl ?_ ?_ | refine vc_wkHp ?_ ?_ | refine vc_eqAVs ?_ ?_ | refine vc_preG ?_ ?_ | refine vc_side0 ?_ | refine vc_pure c1 ?_ ?_ ?_
                 | refine vc_pure c2 ?_ ?_ ?_ | refine vc_weakf [] ?_ ?_ ?_ | refine vc_and ?_ ?_ | refine vc_ret [] [] ?_)
          | ((with_reducible first | refine vc_caseD (fun h => ?_) (fun h => ?_) | refine vc_caseN (fun h => ?_) (fun h => ?_)) <;> try (exfalso; omega))
          | ((with_reducible refine vc_case (fun h => ?_) (fun h => ?_)) <;> (try simp only [Bool.cond_true_left, Bool.cond_false_right, Bool.cond_true_right, Bool.cond_false_left, Bool.and_eq_true, Bool.or_eq_true, Bool.and_eq_false_iff, Bool.or_eq_false_iff, Bool.not_eq_true', Bool.not_eq_false', Bool.not_eq_true, Bool.not_eq_false, Bool.not_not, decide_eq_true_eq, decide_eq_false_iff_not, beq_iff_eq, beq_eq_false_iff_ne, bne_iff_ne, bne_eq_false_iff_eq, ne_eq, Classical.not_not, reduceCtorEq, false_or, or_false, true_and, and_true, Bool.false_eq_true, Bool.true_eq_false] at h) <;> try (exfalso; first | omega | (simp at h; done)))))
  all_goals first
    | rfl
    | skip

theorem rSign_ok (seed : List UInt8) (hs : seed.length = 32) (key : Nat) (hk : key < 2 ^ 64) (b : List UInt8) (hb : b.length < 2 ^ 28) :
    LocalCall Try.prog 33 [.d (.arr 32 1 (seed.map byteD)), .d (.int .u64 (key : Int)), .d (.sl (b.map byteD))] [] [] (one [.d (.sl ((signP (keyH seed key) (shaB b)).map byteD))]) [] := by
  have c1 := rOf_ok b hb
  generalize hd : shaB b = d at c1
  have ld : d.length = 32 := by rw [← hd]; exact shaB_length b
  have cb : ∀ i : Nat, i < 256 → LocalCall Try.prog 45 [.d (.arr 32 1 (d.map byteD)), .d (.int .i64 (i : Int))] [] [] (one [.d (.bool (bitB d i))]) [] := fun i hi => by
    have h := rBit_ok (d.map byteD) d rfl ld (i : Int)
    rwa [bitI_nat d hi] at h
  have cp : ∀ i : Nat, i < 256 → _ := fun i hi => rPart_ok seed hs key hk i hi (bitB d i)
  have ch : ∀ i : Nat, i < 256 → _ := fun i hi => rHashed_ok seed hs key hk i hi (!bitB d i)
  refine vc_fn mixed Try.func33 rfl rfl [] (vc_chk rfl) ?_
  repeat' (first
      | ((with_reducible refine vc_chk ?_); first | decide +kernel | rfl)
      | (with_reducible refine vc_side0 ?_; rfl)
      | (with_reducible first
           | refine vc_true ?_ | refine vc_true2 ?_ | refine vc_side ?_ ?_ | refine vc_triv | refine vc_later ?_ | refine vc_caseT ?_ | refine vc_caseF ?_ | refine vc_cons ?_ | refine vc_nil ?_ ?_ | refine vc_seq ?_
              | refine vc_region ?_ | refine vc_cond ?_ | refine vc_block ?_ | refine vc_retc ?_ | refine vc_exit ?_ | refine vc_skip ?_ | refine vc_scope ?_ | refine vc_label ?_ | refine vc_goto ?_ | refine vc_wkSl0
              | refine vc_wkHp0 | refine vc_eqAVs0 | refine vc_preG0 | refine vc_wkSl ?_ ?_ | refine vc_wkHp ?_ ?_ | refine vc_eqAVs ?_ ?_ | refine vc_preG ?_ ?_ | refine vc_side0 ?_
              | refine vc_loopI 41 (fun (i : Nat) => [(1, .d (.int .u64 (key : Int))), (3, .ptr 1000 []), (7, .ptr 2008 []), (8, .sl 9 [] 1 0 ((signN (keyH seed key) d i).map byteD).length), (9, .d (.int .i64 (i : Int)))]) (fun i => [(1000, .var (.d (.arr 32 1 (seed.map byteD)))), (2008, .var (.d (.arr 32 1 (d.map byteD)))), (9, .row 1 ((signN (keyH seed key) d i).map byteD))]) (fun i => 256 - i) (fun i => i ≤ 256) 0 [(9, 3000)] ?_ ?_ ?_ ?_ ?_ (fun i hI => ?_)
              | refine vc_pure c1 ?_ ?_ ?_ | refine vc_pure (cb i (by omega)) ?_ ?_ ?_ | refine vc_pure (cp i (by omega)) ?_ ?_ ?_ | refine vc_pure (ch i (by omega)) ?_ ?_ ?_
              | refine vc_nextI (i + 1) [(9, 11008)] ?_ ?_ ?_ ?_ ?_ ?_ | refine vc_ret [true] [] ?_ | refine vc_weakf [] ?_ ?_ ?_ | refine vc_and ?_ ?_ | refine vc_ret [] [] ?_)
      | ((with_reducible first | refine vc_caseD (fun h => ?_) (fun h => ?_) | refine vc_caseN (fun h => ?_) (fun h => ?_)) <;> try (exfalso; omega))
      | ((with_reducible refine vc_case (fun h => ?_) (fun h => ?_)) <;> (try simp only [Bool.cond_true_left, Bool.cond_false_right, Bool.cond_true_right, Bool.cond_false_left, Bool.and_eq_true, Bool.or_eq_true, Bool.and_eq_false_iff, Bool.or_eq_false_iff, Bool.not_eq_true', Bool.not_eq_false', Bool.not_eq_true, Bool.not_eq_false, Bool.not_not, decide_eq_true_eq, decide_eq_false_iff_not, beq_iff_eq, beq_eq_false_iff_ne, bne_iff_ne, bne_eq_false_iff_eq, ne_eq, Classical.not_not, reduceCtorEq, false_or, or_false, true_and, and_true, Bool.false_eq_true, Bool.true_eq_false] at h) <;> try (exfalso; first | omega | (simp at h; done)))
      | (conv in Vc _ => arg 1; whnf
         first
          | (with_reducible refine vc_side0 ?_; rfl)
          | (with_reducible first
              | refine vc_true ?_ | refine vc_true2 ?_ | refine vc_side ?_ ?_ | refine vc_triv | refine vc_later ?_ | refine vc_caseT ?_ | refine vc_caseF ?_ | refine vc_cons ?_ | refine vc_nil ?_ ?_ | refine vc_seq ?_
                 | refine vc_region ?_ | refine vc_cond ?_ | refine vc_block ?_ | refine vc_retc ?_ | refine vc_exit ?_ | refine vc_skip ?_ | refine vc_scope ?_ | refine vc_label ?_ | refine vc_goto ?_ | refine vc_wkSl0
                 | refine vc_wkHp0 | refine vc_eqAVs0 | refine vc_preG0 | refine vc_wkSl ?_ ?_ | refine vc_wkHp ?_ ?_ | refine vc_eqAVs ?_ ?_ | refine vc_preG ?_ ?_ | refine vc_side0 ?_
                 | refine vc_loopI 41 (fun (i : Nat) => [(1, .d (.int .u64 (key : Int))), (3, .ptr 1000 []), (7, .ptr 2008 []), (8, .sl 9 [] 1 0 ((signN (keyH seed key) d i).map byteD).length), (9, .d (.int .i64 (i : Int)))]) (fun i => [(1000, .var (.d (.arr 32 1 (seed.map byteD)))), (2008, .var (.d (.arr 32 1 (d.map byteD)))), (9, .row 1 ((signN (keyH seed key) d i).map byteD))]) (fun i => 256 - i) (fun i => i ≤ 256) 0 [(9, 3000)] ?_ ?_ ?_ ?_ ?_ (fun i hI => ?_)
                 | refine vc_pure c1 ?_ ?_ ?_ | refine vc_pure (cb i (by omega)) ?_ ?_ ?_ | refine vc_pure (cp i (by omega)) ?_ ?_ ?_ | refine vc_pure (ch i (by omega)) ?_ ?_ ?_
                 | refine vc_nextI (i + 1) [(9, 11008)] ?_ ?_ ?_ ?_ ?_ ?_ | refine vc_ret [true] [] ?_ | refine vc_weakf [] ?_ ?_ ?_ | refine vc_and ?_ ?_ | refine vc_ret [] [] ?_)
          | ((with_reducible first | refine vc_caseD (fun h => ?_) (fun h => ?_) | refine vc_caseN (fun h => ?_) (fun h => ?_)) <;> try (exfalso; omega))
          | ((with_reducible refine vc_case (fun h => ?_) (fun h => ?_)) <;> (try simp only [Bool.cond_true_left, Bool.cond_false_right, Bool.cond_true_right, Bool.cond_false_left, Bool.and_eq_true, Bool.or_eq_true, Bool.and_eq_false_iff, Bool.or_eq_false_iff, Bool.not_eq_true', Bool.not_eq_false', Bool.not_eq_true, Bool.not_eq_false, Bool.not_not, decide_eq_true_eq, decide_eq_false_iff_not, beq_iff_eq, beq_eq_false_iff_ne, bne_iff_ne, bne_eq_false_iff_eq, ne_eq, Classical.not_not, reduceCtorEq, false_or, or_false, true_and, and_true, Bool.false_eq_true, Bool.true_eq_false] at h) <;> try (exfalso; first | omega | (simp at h; done)))))
  all_goals (try simp only [Int.toNat_natCast, t32k, t32s])
  all_goals first
    | with_reducible rfl
    | omega
    | exact ⟨trivial, trivial⟩
    | exact ⟨trivial, trivial, trivial⟩
    | exact ⟨trivial, trivial, trivial, trivial⟩
    | exact ⟨⟨by decide, by decide, by decide⟩, trivial⟩
    | exact ⟨Nat.le_of_eq (Nat.zero_add _), trivial⟩
    | exact ⟨Nat.le_refl _, trivial, trivial⟩
    | (rw [wrap64_id (by omega) (by omega)]; rfl)
    | exact ⟨by decide, by decide, by decide, by decide⟩
    | (decide; done)
    | exact ⟨⟨⟨trivial, len32 (shaB_length _)⟩, trivial, roomJ (by simp only [List.length_append, List.length_map, signN_length (keyH_length _ _), shaB_length, keyH_length]; omega)⟩, fun y hy => size_bytes _ y hy⟩
    | (rw [← signN_succ]; done)
    | ((obtain rfl : i = 256 := (by omega)); rw [List.drop_zero, List.take_length]; exact congrArg (fun l => D.sl (List.map byteD l)) (signN_all _ _))
    | rfl
    | (exfalso; simp at h; done)
    | skip

theorem rsig_x {s : List UInt8} (hs : s.length = 16384) {i : Nat} (hi : i < 256) : cutD (s.map byteD) (IntKind.i64.wrap (64 * (i : Int))) (IntKind.i64.wrap (IntKind.i64.wrap (64 * (i : Int)) + 32)) = (sigX s i).map byteD := by
  rw [wrap64_id (n := 64 * (i : Int)) (by omega) (by omega), wrap64_id (by omega) (by omega)]
  unfold cutD sigX
  rw [show (64 * (i : Int) + 32).toNat = 64 * i + 32 by omega, show (64 * (i : Int)).toNat = 64 * i by omega, List.drop_take, ← List.map_drop, ← List.map_take, show 64 * i + 32 - 64 * i = 32 by omega]
theorem rsig_y {s : List UInt8} (hs : s.length = 16384) {i : Nat} (hi : i < 256) : cutD (s.map byteD) (IntKind.i64.wrap (IntKind.i64.wrap (64 * (i : Int)) + 32)) (IntKind.i64.wrap (IntKind.i64.wrap (64 * (i : Int)) + 64)) = (sigY s i).map byteD := by
  rw [wrap64_id (n := 64 * (i : Int)) (by omega) (by omega), wrap64_id (n := 64 * (i : Int) + 32) (by omega) (by omega), wrap64_id (by omega) (by omega)]
  unfold cutD sigY
  rw [show (64 * (i : Int) + 64).toNat = 64 * i + 64 by omega, show (64 * (i : Int) + 32).toNat = 64 * i + 32 by omega, List.drop_take, ← List.map_drop, ← List.map_take, show 64 * i + 64 - (64 * i + 32) = 32 by omega]
theorem rsig_r {s : List UInt8} (hs : s.length = 16384) {i : Nat} (hi : i < 256) : (0 ≤ IntKind.i64.wrap (64 * (i : Int)) ∧ IntKind.i64.wrap (64 * (i : Int)) ≤ IntKind.i64.wrap (IntKind.i64.wrap (64 * (i : Int)) + 32) ∧ IntKind.i64.wrap (IntKind.i64.wrap (64 * (i : Int)) + 32) ≤ ((s.map byteD).length : Int)) := by
  rw [wrap64_id (n := 64 * (i : Int)) (by omega) (by omega), wrap64_id (n := 64 * (i : Int) + 32) (by omega) (by omega), List.length_map]
  omega
theorem rsig_q {s : List UInt8} (hs : s.length = 16384) {i : Nat} (hi : i < 256) : (0 ≤ IntKind.i64.wrap (IntKind.i64.wrap (64 * (i : Int)) + 32) ∧ IntKind.i64.wrap (IntKind.i64.wrap (64 * (i : Int)) + 32) ≤ IntKind.i64.wrap (IntKind.i64.wrap (64 * (i : Int)) + 64) ∧ IntKind.i64.wrap (IntKind.i64.wrap (64 * (i : Int)) + 64) ≤ ((s.map byteD).length : Int)) := by
  rw [wrap64_id (n := 64 * (i : Int)) (by omega) (by omega), wrap64_id (n := 64 * (i : Int) + 32) (by omega) (by omega), wrap64_id (n := 64 * (i : Int) + 64) (by omega) (by omega), List.length_map]
  omega

theorem rOpened_ok (b sig : List UInt8) (hb : b.length < 2 ^ 28) :
    LocalCall Try.prog 38 [.d (.sl (b.map byteD)), .d (.sl (sig.map byteD))] [] [] (one [.d (.sl ((openT b sig).map byteD)), .d (.int .i64 (openE sig))]) [] := by
  by_cases hs : sig.length = 16384
  · have c1 := rOf_ok b hb
    unfold openT openE
    rw [decide_eq_true hs, cond_true, cond_true]
    generalize hd : shaB b = d at c1
    have ld : d.length = 32 := by rw [← hd]; exact shaB_length b
    have ls : ((sig.map byteD).length : Int) = 16384 := by rw [List.length_map, hs]; rfl
    have lo : ∀ i : Nat, i < 256 → (openN d sig i).length = 64 * i + 1 := fun i hi => openN_length d hs (by omega)
    have cb : ∀ i : Nat, i < 256 → LocalCall Try.prog 45 [.d (.arr 32 1 (d.map byteD)), .d (.int .i64 (i : Int))] [] [] (one [.d (.bool (bitB d i))]) [] := fun i hi => by
      have h := rBit_ok (d.map byteD) d rfl ld (i : Int)
      rwa [bitI_nat d hi] at h
    have co : ∀ i : Nat, i < 256 → LocalCall Try.prog 29 [.d (.sl (cutD (sig.map byteD) (IntKind.i64.wrap (64 * (i : Int))) (IntKind.i64.wrap (IntKind.i64.wrap (64 * (i : Int)) + 32))))] [] [] (one [.d (.arr 32 1 ((shaB (sigX sig i)).map byteD))]) [] := fun i hi => by
      rw [rsig_x hs hi]; exact rOf_ok _ (by rw [sigX_length hs hi]; decide)
    refine vc_fn mixed Try.func38 rfl rfl [] (vc_chk rfl) ?_
    repeat' (first
        | ((with_reducible refine vc_chk ?_); first | decide +kernel | rfl)
        | (with_reducible refine vc_side0 ?_; rfl)
        | (with_reducible first
             | refine vc_true ?_ | refine vc_true2 ?_ | refine vc_side ?_ ?_ | refine vc_triv | refine vc_later ?_ | refine vc_caseT ?_ | refine vc_caseF ?_ | refine vc_cons ?_ | refine vc_nil ?_ ?_ | refine vc_seq ?_
                | refine vc_region ?_ | refine vc_cond ?_ | refine vc_block ?_ | refine vc_retc ?_ | refine vc_exit ?_ | refine vc_skip ?_ | refine vc_scope ?_ | refine vc_label ?_ | refine vc_goto ?_ | refine vc_wkSl0
                | refine vc_wkHp0 | refine vc_eqAVs0 | refine vc_preG0 | refine vc_wkSl ?_ ?_ | refine vc_wkHp ?_ ?_ | refine vc_eqAVs ?_ ?_ | refine vc_preG ?_ ?_ | refine vc_side0 ?_ | refine vc_pure c1 ?_ ?_ ?_
                | refine vc_pure (co i (by omega)) ?_ ?_ ?_ | refine vc_pure (cb i (by omega)) ?_ ?_ ?_ | refine vc_pure c1 ?_ ?_ ?_ | refine vc_pure (cb i (by omega)) ?_ ?_ ?_
                | refine vc_loopI 55 (fun (i : Nat) => [(1, .d (.sl (sig.map byteD))), (6, .ptr 4008 []), (7, .sl 9 [] 1 0 ((openN d sig i).map byteD).length), (8, .d (.int .i64 (i : Int)))]) (fun i => [(4008, .var (.d (.arr 32 1 (d.map byteD)))), (9, .row 1 ((openN d sig i).map byteD))]) (fun i => 256 - i) (fun i => i ≤ 256) 0 [(9, 5000)] ?_ ?_ ?_ ?_ ?_ (fun i hI => ?_)
                | refine vc_nextAt (i + 1) [(9, 14008)] 14008 (by with_unfolding_all rfl) ?_ ?_ ?_ ?_ ?_ ?_ | refine vc_nextAt (i + 1) [(9, 16008)] 16008 (by with_unfolding_all rfl) ?_ ?_ ?_ ?_ ?_ ?_ | refine vc_ret [true] [] ?_
                | refine vc_weakf [] ?_ ?_ ?_ | refine vc_and ?_ ?_ | refine vc_ret [] [] ?_)
        | ((with_reducible first | refine vc_caseD (fun h => ?_) (fun h => ?_) | refine vc_caseN (fun h => ?_) (fun h => ?_)) <;> try (exfalso; omega))
        | ((with_reducible refine vc_case (fun h => ?_) (fun h => ?_)) <;> (try simp only [Bool.cond_true_left, Bool.cond_false_right, Bool.cond_true_right, Bool.cond_false_left, Bool.and_eq_true, Bool.or_eq_true, Bool.and_eq_false_iff, Bool.or_eq_false_iff, Bool.not_eq_true', Bool.not_eq_false', Bool.not_eq_true, Bool.not_eq_false, Bool.not_not, decide_eq_true_eq, decide_eq_false_iff_not, beq_iff_eq, beq_eq_false_iff_ne, bne_iff_ne, bne_eq_false_iff_eq, ne_eq, Classical.not_not, reduceCtorEq, false_or, or_false, true_and, and_true, Bool.false_eq_true, Bool.true_eq_false] at h) <;> try (exfalso; first | omega | (simp at h; done)))
        | (conv in Vc _ => arg 1; whnf
           first
            | (with_reducible refine vc_side0 ?_; rfl)
            | (with_reducible first
                | refine vc_true ?_ | refine vc_true2 ?_ | refine vc_side ?_ ?_ | refine vc_triv | refine vc_later ?_ | refine vc_caseT ?_ | refine vc_caseF ?_ | refine vc_cons ?_ | refine vc_nil ?_ ?_ | refine vc_seq ?_
                   | refine vc_region ?_ | refine vc_cond ?_ | refine vc_block ?_ | refine vc_retc ?_ | refine vc_exit ?_ | refine vc_skip ?_ | refine vc_scope ?_ | refine vc_label ?_ | refine vc_goto ?_ | refine vc_wkSl0
                   | refine vc_wkHp0 | refine vc_eqAVs0 | refine vc_preG0 | refine vc_wkSl ?_ ?_ | refine vc_wkHp ?_ ?_ | refine vc_eqAVs ?_ ?_ | refine vc_preG ?_ ?_ | refine vc_side0 ?_ | refine vc_pure c1 ?_ ?_ ?_
                   | refine vc_pure (co i (by omega)) ?_ ?_ ?_ | refine vc_pure (cb i (by omega)) ?_ ?_ ?_ | refine vc_pure c1 ?_ ?_ ?_ | refine vc_pure (cb i (by omega)) ?_ ?_ ?_
                   | refine vc_loopI 55 (fun (i : Nat) => [(1, .d (.sl (sig.map byteD))), (6, .ptr 4008 []), (7, .sl 9 [] 1 0 ((openN d sig i).map byteD).length), (8, .d (.int .i64 (i : Int)))]) (fun i => [(4008, .var (.d (.arr 32 1 (d.map byteD)))), (9, .row 1 ((openN d sig i).map byteD))]) (fun i => 256 - i) (fun i => i ≤ 256) 0 [(9, 5000)] ?_ ?_ ?_ ?_ ?_ (fun i hI => ?_)
                   | refine vc_nextAt (i + 1) [(9, 14008)] 14008 (by with_unfolding_all rfl) ?_ ?_ ?_ ?_ ?_ ?_ | refine vc_nextAt (i + 1) [(9, 16008)] 16008 (by with_unfolding_all rfl) ?_ ?_ ?_ ?_ ?_ ?_
                   | refine vc_ret [true] [] ?_ | refine vc_weakf [] ?_ ?_ ?_ | refine vc_and ?_ ?_ | refine vc_ret [] [] ?_)
            | ((with_reducible first | refine vc_caseD (fun h => ?_) (fun h => ?_) | refine vc_caseN (fun h => ?_) (fun h => ?_)) <;> try (exfalso; omega))
            | ((with_reducible refine vc_case (fun h => ?_) (fun h => ?_)) <;> (try simp only [Bool.cond_true_left, Bool.cond_false_right, Bool.cond_true_right, Bool.cond_false_left, Bool.and_eq_true, Bool.or_eq_true, Bool.and_eq_false_iff, Bool.or_eq_false_iff, Bool.not_eq_true', Bool.not_eq_false', Bool.not_eq_true, Bool.not_eq_false, Bool.not_not, decide_eq_true_eq, decide_eq_false_iff_not, beq_iff_eq, beq_eq_false_iff_ne, bne_iff_ne, bne_eq_false_iff_eq, ne_eq, Classical.not_not, reduceCtorEq, false_or, or_false, true_and, and_true, Bool.false_eq_true, Bool.true_eq_false] at h) <;> try (exfalso; first | omega | (simp at h; done)))))
    all_goals (try simp only [Int.toNat_natCast, t32s])
    all_goals (try have hi : i < 256 := (by omega))
    all_goals (try simp only [rsig_y hs hi])
    all_goals first
      | with_reducible rfl
      | omega
      | exact ⟨trivial, trivial⟩
      | exact ⟨trivial, trivial, trivial⟩
      | exact ⟨trivial, trivial, trivial, trivial⟩
      | exact ⟨⟨by decide, by decide, by decide⟩, trivial⟩
      | exact ⟨Nat.le_of_eq (Nat.zero_add _), trivial⟩
      | exact ⟨Nat.le_refl _, trivial, trivial⟩
      | (rw [wrap64_id (by omega) (by omega)]; rfl)
      | exact ⟨by decide, by decide, by decide, by decide⟩
      | (decide; done)
      | exact ⟨rsig_r hs hi, size_bytes _⟩
      | exact ⟨rsig_q hs hi, size_bytes _⟩
      | (rw [← openN_succ i h]; done)
      | (rw [← openN_succ0 i h]; done)
      | exact ⟨⟨trivial, trivial, roomJ (by simp only [List.length_append, List.length_map, lo i hi, shaB_length, sigY_length hs hi]; omega)⟩, fun y hy => size_bytes _ y hy⟩
      | exact ⟨⟨⟨trivial, len32 (shaB_length _)⟩, trivial, roomJ (by simp only [List.length_append, List.length_map, lo i hi, shaB_length, sigY_length hs hi]; omega)⟩, fun y hy => size_bytes _ y hy⟩
      | ((obtain rfl : i = 256 := (by omega)); rw [List.drop_zero, List.take_length]; exact congrArg (fun l => D.sl (List.map byteD l)) (openN_all _ _))
      | rfl
      | (exfalso; simp at h; done)
      | skip
  · have hn : ¬ ((sig.map byteD).length : Int) = 16384 := by rw [List.length_map]; omega
    unfold openT openE
    rw [decide_eq_false hs, cond_false, cond_false]
    have key : LocalCall Try.prog 38 [.d (.sl (b.map byteD)), .d (.sl (sig.map byteD))] [] [] (one [.d .nils, .d (.int .i64 15)]) [] := by
      refine vc_fn mixed Try.func38 rfl rfl [] (vc_chk rfl) ?_
      repeat' (first
          | ((with_reducible refine vc_chk ?_); first | decide +kernel | rfl)
          | (with_reducible refine vc_side0 ?_; rfl)
          | (with_reducible first
               | refine vc_true ?_ | refine vc_true2 ?_ | refine vc_side ?_ ?_ | refine vc_triv | refine vc_later ?_ | refine vc_caseT ?_ | refine vc_caseF ?_ | refine vc_cons ?_ | refine vc_nil ?_ ?_ | refine vc_seq ?_
                  | refine vc_region ?_ | refine vc_cond ?_ | refine vc_block ?_ | refine vc_retc ?_ | refine vc_exit ?_ | refine vc_skip ?_ | refine vc_scope ?_ | refine vc_label ?_ | refine vc_goto ?_ | refine vc_wkSl0
                  | refine vc_wkHp0 | refine vc_eqAVs0 | refine vc_preG0 | refine vc_wkSl ?_ ?_ | refine vc_wkHp ?_ ?_ | refine vc_eqAVs ?_ ?_ | refine vc_preG ?_ ?_ | refine vc_side0 ?_ | refine vc_weakf [] ?_ ?_ ?_
                  | refine vc_and ?_ ?_ | refine vc_ret [] [] ?_)
          | ((with_reducible first | refine vc_caseD (fun h => ?_) (fun h => ?_) | refine vc_caseN (fun h => ?_) (fun h => ?_)) <;> try (exfalso; omega))
          | ((with_reducible refine vc_case (fun h => ?_) (fun h => ?_)) <;> (try simp only [Bool.cond_true_left, Bool.cond_false_right, Bool.cond_true_right, Bool.cond_false_left, Bool.and_eq_true, Bool.or_eq_true, Bool.and_eq_false_iff, Bool.or_eq_false_iff, Bool.not_eq_true', Bool.not_eq_false', Bool.not_eq_true, Bool.not_eq_false, Bool.not_not, decide_eq_true_eq, decide_eq_false_iff_not, beq_iff_eq, beq_eq_false_iff_ne, bne_iff_ne, bne_eq_false_iff_eq, ne_eq, Classical.not_not, reduceCtorEq, false_or, or_false, true_and, and_true, Bool.false_eq_true, Bool.true_eq_false] at h) <;> try (exfalso; first | omega | (simp at h; done)))
          | (conv in Vc _ => arg 1; whnf
             first
              | (with_reducible refine vc_side0 ?_; rfl)
              | (with_reducible first
                  | refine vc_true ?_ | refine vc_true2 ?_ | refine vc_side ?_ ?_ | refine vc_triv | refine vc_later ?_ | refine vc_caseT ?_ | refine vc_caseF ?_ | refine vc_cons ?_ | refine vc_nil ?_ ?_ | refine vc_seq ?_
                     | refine vc_region ?_ | refine vc_cond ?_ | refine vc_block ?_ | refine vc_retc ?_ | refine vc_exit ?_ | refine vc_skip ?_ | refine vc_scope ?_ | refine vc_label ?_ | refine vc_goto ?_ | refine vc_wkSl0
                     | refine vc_wkHp0 | refine vc_eqAVs0 | refine vc_preG0 | refine vc_wkSl ?_ ?_ | refine vc_wkHp ?_ ?_ | refine vc_eqAVs ?_ ?_ | refine vc_preG ?_ ?_ | refine vc_side0 ?_ | refine vc_weakf [] ?_ ?_ ?_
                     | refine vc_and ?_ ?_ | refine vc_ret [] [] ?_)
              | ((with_reducible first | refine vc_caseD (fun h => ?_) (fun h => ?_) | refine vc_caseN (fun h => ?_) (fun h => ?_)) <;> try (exfalso; omega))
              | ((with_reducible refine vc_case (fun h => ?_) (fun h => ?_)) <;> (try simp only [Bool.cond_true_left, Bool.cond_false_right, Bool.cond_true_right, Bool.cond_false_left, Bool.and_eq_true, Bool.or_eq_true, Bool.and_eq_false_iff, Bool.or_eq_false_iff, Bool.not_eq_true', Bool.not_eq_false', Bool.not_eq_true, Bool.not_eq_false, Bool.not_not, decide_eq_true_eq, decide_eq_false_iff_not, beq_iff_eq, beq_eq_false_iff_ne, bne_iff_ne, bne_eq_false_iff_eq, ne_eq, Classical.not_not, reduceCtorEq, false_or, or_false, true_and, and_true, Bool.false_eq_true, Bool.true_eq_false] at h) <;> try (exfalso; first | omega | (simp at h; done)))))
      all_goals first | rfl | exact ⟨trivial, trivial, trivial⟩
    exact local_dn key

theorem lrCheck_ok (pub b sig : List UInt8) (hp : pub.length = 32) (hb : b.length < 2 ^ 28) :
    LocalCall Try.prog 26 [.d (.arr 32 1 (pub.map byteD)), .d (.sl (b.map byteD)), .d (.sl (sig.map byteD))] [] [] (one [.d (.int .i64 (checkE pub b sig))]) [] := by
  have c1 := rOpened_ok b sig hb
  have c2 := rOf_ok (openT b sig) (Nat.lt_of_le_of_lt (openT_length _ _) (by decide))
  refine vc_fn mixed Try.func26 rfl rfl [] (vc_chk rfl) ?_
  repeat' (first
      | ((with_reducible refine vc_chk ?_); first | decide +kernel | rfl)
      | (with_reducible refine vc_side0 ?_; rfl)
      | (with_reducible first
           | refine vc_true ?_ | refine vc_true2 ?_ | refine vc_side ?_ ?_ | refine vc_triv | refine vc_later ?_ | refine vc_caseT ?_ | refine vc_caseF ?_ | refine vc_cons ?_ | refine vc_nil ?_ ?_ | refine vc_seq ?_
              | refine vc_region ?_ | refine vc_cond ?_ | refine vc_block ?_ | refine vc_retc ?_ | refine vc_exit ?_ | refine vc_skip ?_ | refine vc_scope ?_ | refine vc_label ?_ | refine vc_goto ?_ | refine vc_wkSl0
              | refine vc_wkHp0 | refine vc_eqAVs0 | refine vc_preG0 | refine vc_wkSl ?_ ?_ | refine vc_wkHp ?_ ?_ | refine vc_eqAVs ?_ ?_ | refine vc_preG ?_ ?_ | refine vc_side0 ?_ | refine vc_pure c1 ?_ ?_ ?_
              | refine vc_pure c2 ?_ ?_ ?_ | refine vc_weakf [] ?_ ?_ ?_ | refine vc_and ?_ ?_ | refine vc_ret [] [] ?_)
      | ((with_reducible first | refine vc_caseD (fun h => ?_) (fun h => ?_) | refine vc_caseN (fun h => ?_) (fun h => ?_)) <;> try (exfalso; omega))
      | ((with_reducible refine vc_case (fun h => ?_) (fun h => ?_)) <;> (try simp only [Bool.cond_true_left, Bool.cond_false_right, Bool.cond_true_right, Bool.cond_false_left, Bool.and_eq_true, Bool.or_eq_true, Bool.and_eq_false_iff, Bool.or_eq_false_iff, Bool.not_eq_true', Bool.not_eq_false', Bool.not_eq_true, Bool.not_eq_false, Bool.not_not, decide_eq_true_eq, decide_eq_false_iff_not, beq_iff_eq, beq_eq_false_iff_ne, bne_iff_ne, bne_eq_false_iff_eq, ne_eq, Classical.not_not, reduceCtorEq, false_or, or_false, true_and, and_true, Bool.false_eq_true, Bool.true_eq_false] at h) <;> try (exfalso; first | omega | (simp at h; done)))
      | (conv in Vc _ => arg 1; whnf
         first
          | (with_reducible refine vc_side0 ?_; rfl)
          | (with_reducible first
              | refine vc_true ?_ | refine vc_true2 ?_ | refine vc_side ?_ ?_ | refine vc_triv | refine vc_later ?_ | refine vc_caseT ?_ | refine vc_caseF ?_ | refine vc_cons ?_ | refine vc_nil ?_ ?_ | refine vc_seq ?_
                 | refine vc_region ?_ | refine vc_cond ?_ | refine vc_block ?_ | refine vc_retc ?_ | refine vc_exit ?_ | refine vc_skip ?_ | refine vc_scope ?_ | refine vc_label ?_ | refine vc_goto ?_ | refine vc_wkSl0
                 | refine vc_wkHp0 | refine vc_eqAVs0 | refine vc_preG0 | refine vc_wkSl ?_ ?_ | refine vc_wkHp ?_ ?_ | refine vc_eqAVs ?_ ?_ | refine vc_preG ?_ ?_ | refine vc_side0 ?_ | refine vc_pure c1 ?_ ?_ ?_
                 | refine vc_pure c2 ?_ ?_ ?_ | refine vc_weakf [] ?_ ?_ ?_ | refine vc_and ?_ ?_ | refine vc_ret [] [] ?_)
          | ((with_reducible first | refine vc_caseD (fun h => ?_) (fun h => ?_) | refine vc_caseN (fun h => ?_) (fun h => ?_)) <;> try (exfalso; omega))
          | ((with_reducible refine vc_case (fun h => ?_) (fun h => ?_)) <;> (try simp only [Bool.cond_true_left, Bool.cond_false_right, Bool.cond_true_right, Bool.cond_false_left, Bool.and_eq_true, Bool.or_eq_true, Bool.and_eq_false_iff, Bool.or_eq_false_iff, Bool.not_eq_true', Bool.not_eq_false', Bool.not_eq_true, Bool.not_eq_false, Bool.not_not, decide_eq_true_eq, decide_eq_false_iff_not, beq_iff_eq, beq_eq_false_iff_ne, bne_iff_ne, bne_eq_false_iff_eq, ne_eq, Classical.not_not, reduceCtorEq, false_or, or_false, true_and, and_true, Bool.false_eq_true, Bool.true_eq_false] at h) <;> try (exfalso; first | omega | (simp at h; done)))))
  all_goals (try simp only [beq_dig, cond_true, cond_false, Bool.not_eq_true', Bool.not_eq_false', decide_eq_true_eq, decide_eq_false_iff_not] at *)
  all_goals first
    | exact ⟨fits_dig 6 _, fits_dig 6 _⟩
    | (rw [(checkE_no (b := b) pub h).1]; done)
    | (rw [(checkE_no (b := b) pub (by assumption)).1]; done)
    | (rw [checkE_yes pub (by assumption)]; simp_all; done)

end Go.Proofs.Ytlkibgkkmmoalaa
