import Derived.Test.YtjofajjhhjpkiaaJ1
import Derived.Test.YtjofajjhhjpkiaaJ2
import Derived.Test.YtjofajjhhjpkiaaJ3
import Derived.Test.YtjofajjhhjpkiaaJ4
import Derived.Test.YtjofajjhhjpkiaaJ5
import Derived.Test.YtjofajjhhjpkiaaJ6
set_option linter.unusedSimpArgs false
set_option linter.unusedVariables false
/-
What the laws of what signs once return.
-/
set_option linter.unusedSimpArgs false
set_option linter.unusedVariables false
namespace Go.Proofs.Ytjofajjhhjpkiaa
open Go.Sym
set_option maxRecDepth 10000
set_option maxHeartbeats 4000000

theorem long_ok (b : List UInt8) : LocalCall Try.prog 8 [.d (.sl (b.map byteD))] [] [] (one [.d (.bool (decide ((b.length : Int) > 32768)))]) [] := by
  refine vc_fn mixed Try.func8 rfl rfl [] (vc_chk rfl) ?_
  repeat' (first
      | ((with_reducible refine vc_chk ?_); first | decide +kernel | rfl)
      | (with_reducible refine vc_side0 ?_; rfl)
      | (with_reducible first
           | refine vc_true ?_ | refine vc_true2 ?_ | refine vc_side ?_ ?_ | refine vc_triv | refine vc_later ?_ | refine vc_caseT ?_ | refine vc_caseF ?_ | refine vc_cons ?_ | refine vc_nil ?_ ?_ | refine vc_seq ?_
              | refine vc_region ?_ | refine vc_cond ?_ | refine vc_block ?_ | refine vc_retc ?_ | refine vc_exit ?_ | refine vc_skip ?_ | refine vc_scope ?_ | refine vc_label ?_ | refine vc_goto ?_ | refine vc_wkSl0
              | refine vc_wkHp0 | refine vc_eqAVs0 | refine vc_preG0 | refine vc_wkSl ?_ ?_ | refine vc_wkHp ?_ ?_ | refine vc_eqAVs ?_ ?_ | refine vc_preG ?_ ?_ | refine vc_side0 ?_ | refine vc_weakf [] ?_ ?_ ?_
              | refine vc_and ?_ ?_ | refine vc_ret [] [] ?_)
      | ((with_reducible first | refine vc_caseD (fun h => ?_) (fun h => ?_) | refine vc_caseN (fun h => ?_) (fun h => ?_)) <;> try (exfalso; omega))
      | ((with_reducible refine vc_case (fun h => ?_) (fun h => ?_)) <;> (try simp only [Bool.cond_true_left, Bool.cond_false_right, Bool.cond_true_right, Bool.cond_false_left, Bool.and_eq_true, Bool.or_eq_true, Bool.and_eq_false_iff, Bool.or_eq_false_iff, Bool.not_eq_true', Bool.not_eq_false', Bool.not_eq_true, Bool.not_eq_false, Bool.not_not, decide_eq_true_eq, decide_eq_false_iff_not, beq_iff_eq, beq_eq_false_iff_ne, bne_iff_ne, bne_eq_false_iff_eq, ne_eq, Classical.not_not, reduceCtorEq, false_or, or_false, true_and, and_true, Bool.false_eq_true, Bool.true_eq_false] at h) <;> try (exfalso; first | omega | (simp at h; done)))
      | (conv in Vc _ => arg 1; whnf
         first
          | (with_reducible refine vc_side0 ?_; rfl)
          | (with_reducible first
              | refine vc_true ?_ | refine vc_true2 ?_ | refine vc_side ?_ ?_ | refine vc_triv | refine vc_later ?_ | refine vc_caseT ?_ | refine vc_caseF ?_ | refine vc_cons ?_ | refine vc_nil ?_ ?_ | refine vc_seq ?_
                 | refine vc_region ?_ | refine vc_cond ?_ | refine vc_block ?_ | refine vc_retc ?_ | refine vc_exit ?_ | refine vc_skip ?_ | refine vc_scope ?_ | refine vc_label ?_ | refine vc_goto ?_ | refine vc_wkSl0
                 | refine vc_wkHp0 | refine vc_eqAVs0 | refine vc_preG0 | refine vc_wkSl ?_ ?_ | refine vc_wkHp ?_ ?_ | refine vc_eqAVs ?_ ?_ | refine vc_preG ?_ ?_ | refine vc_side0 ?_ | refine vc_weakf [] ?_ ?_ ?_
                 | refine vc_and ?_ ?_ | refine vc_ret [] [] ?_)
          | ((with_reducible first | refine vc_caseD (fun h => ?_) (fun h => ?_) | refine vc_caseN (fun h => ?_) (fun h => ?_)) <;> try (exfalso; omega))
          | ((with_reducible refine vc_case (fun h => ?_) (fun h => ?_)) <;> (try simp only [Bool.cond_true_left, Bool.cond_false_right, Bool.cond_true_right, Bool.cond_false_left, Bool.and_eq_true, Bool.or_eq_true, Bool.and_eq_false_iff, Bool.or_eq_false_iff, Bool.not_eq_true', Bool.not_eq_false', Bool.not_eq_true, Bool.not_eq_false, Bool.not_not, decide_eq_true_eq, decide_eq_false_iff_not, beq_iff_eq, beq_eq_false_iff_ne, bne_iff_ne, bne_eq_false_iff_eq, ne_eq, Classical.not_not, reduceCtorEq, false_or, or_false, true_and, and_true, Bool.false_eq_true, Bool.true_eq_false] at h) <;> try (exfalso; first | omega | (simp at h; done)))))
  all_goals first | rfl | (rw [List.length_map])

theorem open_zero : ∃ t : List UInt8, t.length = 16385 ∧ t.getD 0 0 = 80 ∧ LocalCall Try.prog 10 [.d .nils, .d (.sl (List.replicate (Int.toNat 16384) (D.zero Try.prog 8 5)))] [] [] (one [.d (.sl (t.map byteD)), .d (.int .i64 0)]) [] := by
  have hz : (List.replicate 16384 (0 : UInt8)).map byteD = List.replicate (Int.toNat 16384) (D.zero Try.prog 8 5) := by
    rw [List.map_replicate]; rfl
  have hl : (List.replicate 16384 (0 : UInt8)).length = 16384 := List.length_replicate
  generalize List.replicate 16384 (0 : UInt8) = z at hz hl
  refine ⟨openP (shaB []) z, openP_length _ hl, rfl, local_dna ?_⟩
  have c := opened_ok [] z (by decide)
  unfold openT openE at c
  rw [decide_eq_true hl, hz] at c
  exact c

theorem works_ok : LocalCall Try.prog 9 [] [] [] (one [.d (.bool true)]) [] := by
  obtain ⟨t, ht, h0, c1⟩ := open_zero
  have c2 : LocalCall Try.prog 10 [.d .nils, .d .nils] [] [] (one [.d (.sl []), .d (.int .i64 15)]) [] := local_dna (opened_ok [] [] (by decide))
  have g0 : (t.map byteD).getD 0 .nilp = byteD 80 := by rw [getD_byte (by omega), h0]
  refine vc_fn mixed Try.func9 rfl rfl [] (vc_chk rfl) ?_
  repeat' (first
      | ((with_reducible refine vc_chk ?_); first | decide +kernel | rfl)
      | (with_reducible refine vc_side0 ?_; rfl)
      | (with_reducible first
           | refine vc_true ?_ | refine vc_true2 ?_ | refine vc_side ?_ ?_ | refine vc_triv | refine vc_later ?_ | refine vc_caseT ?_ | refine vc_caseF ?_ | refine vc_cons ?_ | refine vc_nil ?_ ?_ | refine vc_seq ?_
              | refine vc_region ?_ | refine vc_cond ?_ | refine vc_block ?_ | refine vc_retc ?_ | refine vc_exit ?_ | refine vc_skip ?_ | refine vc_scope ?_ | refine vc_label ?_ | refine vc_goto ?_ | refine vc_wkSl0
              | refine vc_wkHp0 | refine vc_eqAVs0 | refine vc_preG0 | refine vc_wkSl ?_ ?_ | refine vc_wkHp ?_ ?_ | refine vc_eqAVs ?_ ?_ | refine vc_preG ?_ ?_ | refine vc_side0 ?_ | refine vc_pure c2 ?_ ?_ ?_
              | refine vc_call [false, true] c1 ?_ | refine vc_weakf [] ?_ ?_ ?_ | refine vc_and ?_ ?_ | refine vc_ret [] [] ?_)
      | ((with_reducible first | refine vc_caseD (fun h => ?_) (fun h => ?_) | refine vc_caseN (fun h => ?_) (fun h => ?_)) <;> try (exfalso; omega))
      | ((with_reducible refine vc_case (fun h => ?_) (fun h => ?_)) <;> (try simp only [Bool.cond_true_left, Bool.cond_false_right, Bool.cond_true_right, Bool.cond_false_left, Bool.and_eq_true, Bool.or_eq_true, Bool.and_eq_false_iff, Bool.or_eq_false_iff, Bool.not_eq_true', Bool.not_eq_false', Bool.not_eq_true, Bool.not_eq_false, Bool.not_not, decide_eq_true_eq, decide_eq_false_iff_not, beq_iff_eq, beq_eq_false_iff_ne, bne_iff_ne, bne_eq_false_iff_eq, ne_eq, Classical.not_not, reduceCtorEq, false_or, or_false, true_and, and_true, Bool.false_eq_true, Bool.true_eq_false] at h) <;> try (exfalso; first | omega | (simp at h; done)))
      | (conv in Vc _ => arg 1; whnf
         first
          | (with_reducible refine vc_side0 ?_; rfl)
          | (with_reducible first
              | refine vc_true ?_ | refine vc_true2 ?_ | refine vc_side ?_ ?_ | refine vc_triv | refine vc_later ?_ | refine vc_caseT ?_ | refine vc_caseF ?_ | refine vc_cons ?_ | refine vc_nil ?_ ?_ | refine vc_seq ?_
                 | refine vc_region ?_ | refine vc_cond ?_ | refine vc_block ?_ | refine vc_retc ?_ | refine vc_exit ?_ | refine vc_skip ?_ | refine vc_scope ?_ | refine vc_label ?_ | refine vc_goto ?_ | refine vc_wkSl0
                 | refine vc_wkHp0 | refine vc_eqAVs0 | refine vc_preG0 | refine vc_wkSl ?_ ?_ | refine vc_wkHp ?_ ?_ | refine vc_eqAVs ?_ ?_ | refine vc_preG ?_ ?_ | refine vc_side0 ?_ | refine vc_pure c2 ?_ ?_ ?_
                 | refine vc_call [false, true] c1 ?_ | refine vc_weakf [] ?_ ?_ ?_ | refine vc_and ?_ ?_ | refine vc_ret [] [] ?_)
          | ((with_reducible first | refine vc_caseD (fun h => ?_) (fun h => ?_) | refine vc_caseN (fun h => ?_) (fun h => ?_)) <;> try (exfalso; omega))
          | ((with_reducible refine vc_case (fun h => ?_) (fun h => ?_)) <;> (try simp only [Bool.cond_true_left, Bool.cond_false_right, Bool.cond_true_right, Bool.cond_false_left, Bool.and_eq_true, Bool.or_eq_true, Bool.and_eq_false_iff, Bool.or_eq_false_iff, Bool.not_eq_true', Bool.not_eq_false', Bool.not_eq_true, Bool.not_eq_false, Bool.not_not, decide_eq_true_eq, decide_eq_false_iff_not, beq_iff_eq, beq_eq_false_iff_ne, bne_iff_ne, bne_eq_false_iff_eq, ne_eq, Classical.not_not, reduceCtorEq, false_or, or_false, true_and, and_true, Bool.false_eq_true, Bool.true_eq_false] at h) <;> try (exfalso; first | omega | (simp at h; done)))))
  all_goals (try simp only [List.length_map, ht] at h ⊢)
  all_goals first
    | with_reducible rfl
    | omega
    | exact ⟨trivial, trivial⟩
    | exact ⟨trivial, trivial, trivial⟩
    | exact ⟨trivial, trivial, trivial, trivial⟩
    | exact ⟨⟨by decide, by decide, by decide⟩, trivial⟩
    | exact ⟨Nat.le_of_eq (Nat.zero_add _), trivial⟩
    | exact ⟨Nat.le_refl _, trivial, trivial⟩
    | (rw [wrap64_id (by omega) (by omega)]; rfl)
    | exact ⟨by decide, by decide, by decide, by decide⟩
    | (rw [List.drop_zero, List.take_length]; done)
    | exact ⟨⟨by decide, by decide⟩, by rw [show Int.toNat 0 = 0 from rfl, g0]; rfl⟩
    | exact absurd (by rw [show Int.toNat 0 = 0 from rfl, g0]; rfl) h
    | rfl
    | (exfalso; simp at h; done)
    | skip

theorem lamportKeys_main (seed : List UInt8) (hs : seed.length = 32) (key : Nat) (hk : key < 2 ^ 64) :
    LocalCall Try.prog 5 [.d (.arr 32 1 (seed.map byteD)), .d (.int .u64 (key : Int))] [] [] (one [.d (.bool true)]) [] := by
  have c1 := text_ok seed hs key hk
  have c2 := rText_ok seed hs key hk
  have c3 := same_yes (textP (keyH seed key))
  have c4 := public_ok seed hs key hk
  have c5 := rOf_ok (textP (keyH seed key)) (by rw [textP_length]; decide)
  refine vc_fn mixed Try.func5 rfl rfl [] (vc_chk rfl) ?_
  repeat' (first
      | ((with_reducible refine vc_chk ?_); first | decide +kernel | rfl)
      | (with_reducible refine vc_side0 ?_; rfl)
      | (with_reducible first
           | refine vc_true ?_ | refine vc_true2 ?_ | refine vc_side ?_ ?_ | refine vc_triv | refine vc_later ?_ | refine vc_caseT ?_ | refine vc_caseF ?_ | refine vc_cons ?_ | refine vc_nil ?_ ?_ | refine vc_seq ?_
              | refine vc_region ?_ | refine vc_cond ?_ | refine vc_block ?_ | refine vc_retc ?_ | refine vc_exit ?_ | refine vc_skip ?_ | refine vc_scope ?_ | refine vc_label ?_ | refine vc_goto ?_ | refine vc_wkSl0
              | refine vc_wkHp0 | refine vc_eqAVs0 | refine vc_preG0 | refine vc_wkSl ?_ ?_ | refine vc_wkHp ?_ ?_ | refine vc_eqAVs ?_ ?_ | refine vc_preG ?_ ?_ | refine vc_side0 ?_ | refine vc_pure c1 ?_ ?_ ?_
              | refine vc_pure c2 ?_ ?_ ?_ | refine vc_pure c3 ?_ ?_ ?_ | refine vc_pure c4 ?_ ?_ ?_ | refine vc_pure c5 ?_ ?_ ?_ | refine vc_pure works_ok ?_ ?_ ?_ | refine vc_weakf [] ?_ ?_ ?_ | refine vc_and ?_ ?_
              | refine vc_ret [] [] ?_)
      | ((with_reducible first | refine vc_caseD (fun h => ?_) (fun h => ?_) | refine vc_caseN (fun h => ?_) (fun h => ?_)) <;> try (exfalso; omega))
      | ((with_reducible refine vc_case (fun h => ?_) (fun h => ?_)) <;> (try simp only [Bool.cond_true_left, Bool.cond_false_right, Bool.cond_true_right, Bool.cond_false_left, Bool.and_eq_true, Bool.or_eq_true, Bool.and_eq_false_iff, Bool.or_eq_false_iff, Bool.not_eq_true', Bool.not_eq_false', Bool.not_eq_true, Bool.not_eq_false, Bool.not_not, decide_eq_true_eq, decide_eq_false_iff_not, beq_iff_eq, beq_eq_false_iff_ne, bne_iff_ne, bne_eq_false_iff_eq, ne_eq, Classical.not_not, reduceCtorEq, false_or, or_false, true_and, and_true, Bool.false_eq_true, Bool.true_eq_false] at h) <;> try (exfalso; first | omega | (simp at h; done)))
      | (conv in Vc _ => arg 1; whnf
         first
          | (with_reducible refine vc_side0 ?_; rfl)
          | (with_reducible first
              | refine vc_true ?_ | refine vc_true2 ?_ | refine vc_side ?_ ?_ | refine vc_triv | refine vc_later ?_ | refine vc_caseT ?_ | refine vc_caseF ?_ | refine vc_cons ?_ | refine vc_nil ?_ ?_ | refine vc_seq ?_
                 | refine vc_region ?_ | refine vc_cond ?_ | refine vc_block ?_ | refine vc_retc ?_ | refine vc_exit ?_ | refine vc_skip ?_ | refine vc_scope ?_ | refine vc_label ?_ | refine vc_goto ?_ | refine vc_wkSl0
                 | refine vc_wkHp0 | refine vc_eqAVs0 | refine vc_preG0 | refine vc_wkSl ?_ ?_ | refine vc_wkHp ?_ ?_ | refine vc_eqAVs ?_ ?_ | refine vc_preG ?_ ?_ | refine vc_side0 ?_ | refine vc_pure c1 ?_ ?_ ?_
                 | refine vc_pure c2 ?_ ?_ ?_ | refine vc_pure c3 ?_ ?_ ?_ | refine vc_pure c4 ?_ ?_ ?_ | refine vc_pure c5 ?_ ?_ ?_ | refine vc_pure works_ok ?_ ?_ ?_ | refine vc_weakf [] ?_ ?_ ?_ | refine vc_and ?_ ?_
                 | refine vc_ret [] [] ?_)
          | ((with_reducible first | refine vc_caseD (fun h => ?_) (fun h => ?_) | refine vc_caseN (fun h => ?_) (fun h => ?_)) <;> try (exfalso; omega))
          | ((with_reducible refine vc_case (fun h => ?_) (fun h => ?_)) <;> (try simp only [Bool.cond_true_left, Bool.cond_false_right, Bool.cond_true_right, Bool.cond_false_left, Bool.and_eq_true, Bool.or_eq_true, Bool.and_eq_false_iff, Bool.or_eq_false_iff, Bool.not_eq_true', Bool.not_eq_false', Bool.not_eq_true, Bool.not_eq_false, Bool.not_not, decide_eq_true_eq, decide_eq_false_iff_not, beq_iff_eq, beq_eq_false_iff_ne, bne_iff_ne, bne_eq_false_iff_eq, ne_eq, Classical.not_not, reduceCtorEq, false_or, or_false, true_and, and_true, Bool.false_eq_true, Bool.true_eq_false] at h) <;> try (exfalso; first | omega | (simp at h; done)))))
  all_goals (try simp only [beq_dig, cond_true, cond_false, decide_true, Bool.false_eq_true] at *)
  all_goals first
    | with_reducible rfl
    | omega
    | exact ⟨trivial, trivial⟩
    | exact ⟨trivial, trivial, trivial⟩
    | exact ⟨trivial, trivial, trivial, trivial⟩
    | exact ⟨⟨by decide, by decide, by decide⟩, trivial⟩
    | exact ⟨Nat.le_of_eq (Nat.zero_add _), trivial⟩
    | exact ⟨Nat.le_refl _, trivial, trivial⟩
    | (rw [wrap64_id (by omega) (by omega)]; rfl)
    | exact ⟨fits_dig 6 _, fits_dig 6 _⟩
    | rfl
    | (exfalso; simp at h; done)
    | skip

theorem arrNe {a b : List UInt8} (h : (bif false then !(D.arr (31 + 1) (0 + 1) (a.map byteD)).beq (D.arr (31 + 1) (0 + 1) (b.map byteD)) else (D.arr (31 + 1) (0 + 1) (a.map byteD)).beq (D.arr (31 + 1) (0 + 1) (b.map byteD))) = false) : ¬ a = b := by
  have h2 : (D.arr 32 1 (a.map byteD)).beq (D.arr 32 1 (b.map byteD)) = false := h
  rw [beq_dig] at h2
  exact of_decide_eq_false h2

theorem arrEq {a b : List UInt8} (h : (bif true then !(D.arr (31 + 1) (0 + 1) (a.map byteD)).beq (D.arr (31 + 1) (0 + 1) (b.map byteD)) else (D.arr (31 + 1) (0 + 1) (a.map byteD)).beq (D.arr (31 + 1) (0 + 1) (b.map byteD))) = true) : ¬ a = b := by
  have h2 : (!(D.arr 32 1 (a.map byteD)).beq (D.arr 32 1 (b.map byteD))) = true := h
  rw [beq_dig, Bool.not_eq_true'] at h2
  exact of_decide_eq_false h2
theorem check_own (P : Nat → Bool → List UInt8) (hP : ∀ i on, (P i on).length = 32) (b : List UInt8) : checkE (shaB (textP P)) b (signP P (shaB b)) = 0 := by
  unfold checkE
  rw [open_sign hP, decide_eq_true (signP_length hP _), decide_eq_true rfl]; rfl

theorem lamportSigns_main (seed : List UInt8) (hs : seed.length = 32) (key : Nat) (hk : key < 2 ^ 64) (b : List UInt8) :
    LocalCall Try.prog 6 [.d (.arr 32 1 (seed.map byteD)), .d (.int .u64 (key : Int)), .d (.sl (b.map byteD))] [] [] (one [.d (.bool true)]) [] := by
  have l0 := long_ok b
  have lS : ((signP (keyH seed key) (shaB b)).length : Int) = 16384 := by rw [signP_length (keyH_length _ _)]; rfl
  have c3 := same_yes (signP (keyH seed key) (shaB b))
  have c4 := rPublic_ok seed hs key hk
  have ck := check_own (keyH seed key) (keyH_length _ _) b
  have lb : b.length < 2 ^ 58 → _ := fun h => lcheck_ok (shaB (textP (keyH seed key))) b (signP (keyH seed key) (shaB b)) (shaB_length _) h
  rw [ck] at lb
  refine vc_fn mixed Try.func6 rfl rfl [] (vc_chk rfl) ?_
  repeat' (first
      | ((with_reducible refine vc_chk ?_); first | decide +kernel | rfl)
      | (with_reducible refine vc_side0 ?_; rfl)
      | (with_reducible first
           | refine vc_true ?_ | refine vc_true2 ?_ | refine vc_side ?_ ?_ | refine vc_triv | refine vc_later ?_ | refine vc_caseT ?_ | refine vc_caseF ?_ | refine vc_cons ?_ | refine vc_nil ?_ ?_ | refine vc_seq ?_
              | refine vc_region ?_ | refine vc_cond ?_ | refine vc_block ?_ | refine vc_retc ?_ | refine vc_exit ?_ | refine vc_skip ?_ | refine vc_scope ?_ | refine vc_label ?_ | refine vc_goto ?_ | refine vc_wkSl0
              | refine vc_wkHp0 | refine vc_eqAVs0 | refine vc_preG0 | refine vc_wkSl ?_ ?_ | refine vc_wkHp ?_ ?_ | refine vc_eqAVs ?_ ?_ | refine vc_preG ?_ ?_ | refine vc_side0 ?_ | refine vc_pure l0 ?_ ?_ ?_
              | refine vc_pure (lsign_ok seed hs key hk b (by omega)) ?_ ?_ ?_ | refine vc_pure (rSign_ok seed hs key hk b (by omega)) ?_ ?_ ?_ | refine vc_pure c3 ?_ ?_ ?_ | refine vc_pure c4 ?_ ?_ ?_
              | refine vc_pure (lb (by omega)) ?_ ?_ ?_ | refine vc_pure works_ok ?_ ?_ ?_ | refine vc_weakf [] ?_ ?_ ?_ | refine vc_and ?_ ?_ | refine vc_ret [] [] ?_)
      | ((with_reducible first | refine vc_caseD (fun h => ?_) (fun h => ?_) | refine vc_caseN (fun h => ?_) (fun h => ?_)) <;> try (exfalso; omega))
      | ((with_reducible refine vc_case (fun h => ?_) (fun h => ?_)) <;> (try simp only [Bool.cond_true_left, Bool.cond_false_right, Bool.cond_true_right, Bool.cond_false_left, Bool.and_eq_true, Bool.or_eq_true, Bool.and_eq_false_iff, Bool.or_eq_false_iff, Bool.not_eq_true', Bool.not_eq_false', Bool.not_eq_true, Bool.not_eq_false, Bool.not_not, decide_eq_true_eq, decide_eq_false_iff_not, beq_iff_eq, beq_eq_false_iff_ne, bne_iff_ne, bne_eq_false_iff_eq, ne_eq, Classical.not_not, reduceCtorEq, false_or, or_false, true_and, and_true, Bool.false_eq_true, Bool.true_eq_false] at h) <;> try (exfalso; first | omega | (simp at h; done)))
      | (conv in Vc _ => arg 1; whnf
         first
          | (with_reducible refine vc_side0 ?_; rfl)
          | (with_reducible first
              | refine vc_true ?_ | refine vc_true2 ?_ | refine vc_side ?_ ?_ | refine vc_triv | refine vc_later ?_ | refine vc_caseT ?_ | refine vc_caseF ?_ | refine vc_cons ?_ | refine vc_nil ?_ ?_ | refine vc_seq ?_
                 | refine vc_region ?_ | refine vc_cond ?_ | refine vc_block ?_ | refine vc_retc ?_ | refine vc_exit ?_ | refine vc_skip ?_ | refine vc_scope ?_ | refine vc_label ?_ | refine vc_goto ?_ | refine vc_wkSl0
                 | refine vc_wkHp0 | refine vc_eqAVs0 | refine vc_preG0 | refine vc_wkSl ?_ ?_ | refine vc_wkHp ?_ ?_ | refine vc_eqAVs ?_ ?_ | refine vc_preG ?_ ?_ | refine vc_side0 ?_ | refine vc_pure l0 ?_ ?_ ?_
                 | refine vc_pure (lsign_ok seed hs key hk b (by omega)) ?_ ?_ ?_ | refine vc_pure (rSign_ok seed hs key hk b (by omega)) ?_ ?_ ?_ | refine vc_pure c3 ?_ ?_ ?_ | refine vc_pure c4 ?_ ?_ ?_
                 | refine vc_pure (lb (by omega)) ?_ ?_ ?_ | refine vc_pure works_ok ?_ ?_ ?_ | refine vc_weakf [] ?_ ?_ ?_ | refine vc_and ?_ ?_ | refine vc_ret [] [] ?_)
          | ((with_reducible first | refine vc_caseD (fun h => ?_) (fun h => ?_) | refine vc_caseN (fun h => ?_) (fun h => ?_)) <;> try (exfalso; omega))
          | ((with_reducible refine vc_case (fun h => ?_) (fun h => ?_)) <;> (try simp only [Bool.cond_true_left, Bool.cond_false_right, Bool.cond_true_right, Bool.cond_false_left, Bool.and_eq_true, Bool.or_eq_true, Bool.and_eq_false_iff, Bool.or_eq_false_iff, Bool.not_eq_true', Bool.not_eq_false', Bool.not_eq_true, Bool.not_eq_false, Bool.not_not, decide_eq_true_eq, decide_eq_false_iff_not, beq_iff_eq, beq_eq_false_iff_ne, bne_iff_ne, bne_eq_false_iff_eq, ne_eq, Classical.not_not, reduceCtorEq, false_or, or_false, true_and, and_true, Bool.false_eq_true, Bool.true_eq_false] at h) <;> try (exfalso; first | omega | (simp at h; done)))))
  all_goals (try simp only [List.length_map, lS] at h ⊢)
  all_goals first
    | with_reducible rfl
    | omega
    | exact ⟨trivial, trivial⟩
    | exact ⟨trivial, trivial, trivial⟩
    | exact ⟨trivial, trivial, trivial, trivial⟩
    | exact ⟨⟨by decide, by decide, by decide⟩, trivial⟩
    | exact ⟨Nat.le_of_eq (Nat.zero_add _), trivial⟩
    | exact ⟨Nat.le_refl _, trivial, trivial⟩
    | (rw [wrap64_id (by omega) (by omega)]; rfl)
    | exact absurd rfl h
    | rfl
    | (exfalso; simp at h; done)
    | skip

theorem lamportOpens_main (pub : List UInt8) (hp : pub.length = 32) (b sig : List UInt8) :
    LocalCall Try.prog 3 [.d (.arr 32 1 (pub.map byteD)), .d (.sl (b.map byteD)), .d (.sl (sig.map byteD))] [] [] (one [.d (.bool true)]) [] := by
  have l0 := long_ok b
  have l1 := long_ok sig
  have c3 := same_yes (openT b sig)
  have c4 := rOf_ok (openT b sig) (Nat.lt_of_le_of_lt (openT_length _ _) (by decide))
  have ck : checkE (shaB (openT b sig)) b sig = openE sig := by
    unfold checkE openT openE
    by_cases hs : sig.length = 16384
    · rw [decide_eq_true hs, cond_true, cond_true, decide_eq_true rfl]; rfl
    · rw [decide_eq_false hs]; rfl
  have lb : b.length < 2 ^ 58 → _ := fun h => lcheck_ok (shaB (openT b sig)) b sig (shaB_length _) h
  rw [ck] at lb
  refine vc_fn mixed Try.func3 rfl rfl [] (vc_chk rfl) ?_
  repeat' (first
      | ((with_reducible refine vc_chk ?_); first | decide +kernel | rfl)
      | (with_reducible refine vc_side0 ?_; rfl)
      | (with_reducible first
           | refine vc_true ?_ | refine vc_true2 ?_ | refine vc_side ?_ ?_ | refine vc_triv | refine vc_later ?_ | refine vc_caseT ?_ | refine vc_caseF ?_ | refine vc_cons ?_ | refine vc_nil ?_ ?_ | refine vc_seq ?_
              | refine vc_region ?_ | refine vc_cond ?_ | refine vc_block ?_ | refine vc_retc ?_ | refine vc_exit ?_ | refine vc_skip ?_ | refine vc_scope ?_ | refine vc_label ?_ | refine vc_goto ?_ | refine vc_wkSl0
              | refine vc_wkHp0 | refine vc_eqAVs0 | refine vc_preG0 | refine vc_wkSl ?_ ?_ | refine vc_wkHp ?_ ?_ | refine vc_eqAVs ?_ ?_ | refine vc_preG ?_ ?_ | refine vc_side0 ?_ | refine vc_pure l0 ?_ ?_ ?_
              | refine vc_pure l1 ?_ ?_ ?_ | refine vc_pure (opened_ok b sig (by omega)) ?_ ?_ ?_ | refine vc_pure (rOpened_ok b sig (by omega)) ?_ ?_ ?_ | refine vc_pure (lcheck_ok pub b sig hp (by omega)) ?_ ?_ ?_
              | refine vc_pure (rCheck_ok pub b sig hp (by omega)) ?_ ?_ ?_ | refine vc_pure c3 ?_ ?_ ?_ | refine vc_pure c4 ?_ ?_ ?_ | refine vc_pure (lb (by omega)) ?_ ?_ ?_ | refine vc_pure works_ok ?_ ?_ ?_
              | refine vc_weakf [] ?_ ?_ ?_ | refine vc_and ?_ ?_ | refine vc_ret [] [] ?_)
      | ((with_reducible first | refine vc_caseD (fun h => ?_) (fun h => ?_) | refine vc_caseN (fun h => ?_) (fun h => ?_)) <;> try (exfalso; omega))
      | ((with_reducible refine vc_case (fun h => ?_) (fun h => ?_)) <;> (try simp only [Bool.cond_true_left, Bool.cond_false_right, Bool.cond_true_right, Bool.cond_false_left, Bool.and_eq_true, Bool.or_eq_true, Bool.and_eq_false_iff, Bool.or_eq_false_iff, Bool.not_eq_true', Bool.not_eq_false', Bool.not_eq_true, Bool.not_eq_false, Bool.not_not, decide_eq_true_eq, decide_eq_false_iff_not, beq_iff_eq, beq_eq_false_iff_ne, bne_iff_ne, bne_eq_false_iff_eq, ne_eq, Classical.not_not, reduceCtorEq, false_or, or_false, true_and, and_true, Bool.false_eq_true, Bool.true_eq_false] at h) <;> try (exfalso; first | omega | (simp at h; done)))
      | (conv in Vc _ => arg 1; whnf
         first
          | (with_reducible refine vc_side0 ?_; rfl)
          | (with_reducible first
              | refine vc_true ?_ | refine vc_true2 ?_ | refine vc_side ?_ ?_ | refine vc_triv | refine vc_later ?_ | refine vc_caseT ?_ | refine vc_caseF ?_ | refine vc_cons ?_ | refine vc_nil ?_ ?_ | refine vc_seq ?_
                 | refine vc_region ?_ | refine vc_cond ?_ | refine vc_block ?_ | refine vc_retc ?_ | refine vc_exit ?_ | refine vc_skip ?_ | refine vc_scope ?_ | refine vc_label ?_ | refine vc_goto ?_ | refine vc_wkSl0
                 | refine vc_wkHp0 | refine vc_eqAVs0 | refine vc_preG0 | refine vc_wkSl ?_ ?_ | refine vc_wkHp ?_ ?_ | refine vc_eqAVs ?_ ?_ | refine vc_preG ?_ ?_ | refine vc_side0 ?_ | refine vc_pure l0 ?_ ?_ ?_
                 | refine vc_pure l1 ?_ ?_ ?_ | refine vc_pure (opened_ok b sig (by omega)) ?_ ?_ ?_ | refine vc_pure (rOpened_ok b sig (by omega)) ?_ ?_ ?_ | refine vc_pure (lcheck_ok pub b sig hp (by omega)) ?_ ?_ ?_
                 | refine vc_pure (rCheck_ok pub b sig hp (by omega)) ?_ ?_ ?_ | refine vc_pure c3 ?_ ?_ ?_ | refine vc_pure c4 ?_ ?_ ?_ | refine vc_pure (lb (by omega)) ?_ ?_ ?_ | refine vc_pure works_ok ?_ ?_ ?_
                 | refine vc_weakf [] ?_ ?_ ?_ | refine vc_and ?_ ?_ | refine vc_ret [] [] ?_)
          | ((with_reducible first | refine vc_caseD (fun h => ?_) (fun h => ?_) | refine vc_caseN (fun h => ?_) (fun h => ?_)) <;> try (exfalso; omega))
          | ((with_reducible refine vc_case (fun h => ?_) (fun h => ?_)) <;> (try simp only [Bool.cond_true_left, Bool.cond_false_right, Bool.cond_true_right, Bool.cond_false_left, Bool.and_eq_true, Bool.or_eq_true, Bool.and_eq_false_iff, Bool.or_eq_false_iff, Bool.not_eq_true', Bool.not_eq_false', Bool.not_eq_true, Bool.not_eq_false, Bool.not_not, decide_eq_true_eq, decide_eq_false_iff_not, beq_iff_eq, beq_eq_false_iff_ne, bne_iff_ne, bne_eq_false_iff_eq, ne_eq, Classical.not_not, reduceCtorEq, false_or, or_false, true_and, and_true, Bool.false_eq_true, Bool.true_eq_false] at h) <;> try (exfalso; first | omega | (simp at h; done)))))
  all_goals (try simp only [List.length_map] at h ⊢)
  all_goals first
    | with_reducible rfl
    | omega
    | exact ⟨trivial, trivial⟩
    | exact ⟨trivial, trivial, trivial⟩
    | exact ⟨trivial, trivial, trivial, trivial⟩
    | exact ⟨⟨by decide, by decide, by decide⟩, trivial⟩
    | exact ⟨Nat.le_of_eq (Nat.zero_add _), trivial⟩
    | exact ⟨Nat.le_refl _, trivial, trivial⟩
    | (rw [wrap64_id (by omega) (by omega)]; rfl)
    | exact absurd rfl h
    | rfl
    | (exfalso; simp at h; done)
    | skip

theorem xor_eq (a c : UInt8) : aBits .xor .u8 (a.toNat : Int) (c.toNat : Int) = ((a ^^^ c).toNat : Int) := by
  have key : ∀ n m : Fin 256, aBits .xor .u8 (n.val : Int) (m.val : Int) = ((n.val ^^^ m.val : Nat) : Int) := by decide +kernel
  have h := key ⟨a.toNat, a.toNat_lt⟩ ⟨c.toNat, c.toNat_lt⟩
  rw [h, UInt8.toNat_xor]
theorem xor_ne {a c : UInt8} (h : c ≠ 0) : a ^^^ c ≠ a := fun e => h (by
  have := congrArg (fun x => a ^^^ x) e
  simpa [← UInt8.xor_assoc] using this)

/-- A text of which a byte is turned. -/
def turnB (s : List UInt8) (i : Nat) (c : UInt8) : List UInt8 := s.set i (s.getD i 0 ^^^ c)
theorem turnB_data {s : List UInt8} {i : Nat} (hi : i < s.length) (c : UInt8) : (s.map byteD).set i (.int .u8 (aBits .xor .u8 ((s.map byteD).getD i .nilp).toInt (c.toNat : Int))) = (turnB s i c).map byteD := by
  rw [getD_byte hi]
  show (s.map byteD).set i (.int .u8 (aBits .xor .u8 ((s.getD i 0).toNat : Int) (c.toNat : Int))) = _
  rw [xor_eq, turnB, List.map_set]; rfl
theorem turnB_length (s : List UInt8) (i : Nat) (c : UInt8) : (turnB s i c).length = s.length := by simp [turnB]

end Go.Proofs.Ytjofajjhhjpkiaa
