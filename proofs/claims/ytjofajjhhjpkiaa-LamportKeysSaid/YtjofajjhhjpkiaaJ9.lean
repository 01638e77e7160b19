import Derived.Test.YtjofajjhhjpkiaaJ1
import Derived.Test.YtjofajjhhjpkiaaJ2
import Derived.Test.YtjofajjhhjpkiaaJ3
import Derived.Test.YtjofajjhhjpkiaaJ4
import Derived.Test.YtjofajjhhjpkiaaJ5
import Derived.Test.YtjofajjhhjpkiaaJ6
import Derived.Test.YtjofajjhhjpkiaaJ7
import Derived.Test.YtjofajjhhjpkiaaJ8
set_option linter.unusedSimpArgs false
set_option linter.unusedVariables false
/-
What the law of forged signatures returns.
-/
set_option linter.unusedSimpArgs false
set_option linter.unusedVariables false
namespace Go.Proofs.Ytjofajjhhjpkiaa
open Go.Sym
set_option maxRecDepth 10000
set_option maxHeartbeats 4000000

theorem forged_main (seed : List UInt8) (hs : seed.length = 32) (key : Nat) (hk : key < 2 ^ 64) (b sig : List UInt8) (own : Bool) :
    LocalCall Try.prog 4 [.d (.arr 32 1 (seed.map byteD)), .d (.int .u64 (key : Int)), .d (.sl (b.map byteD)), .d (.sl (sig.map byteD)), .d (.bool own)] [] [] (one [.d (.bool true)]) [] := by
  have l0 := long_ok b
  have l1 := long_ok sig
  have lS : (signP (keyH seed key) (shaB b)).length = 16384 := signP_length (keyH_length _ _) _
  have c4 := rPublic_ok seed hs key hk
  have c5 := rText_ok seed hs key hk
  have own0 : checkE (shaB (textP (keyH seed key))) b (signP (keyH seed key) (shaB b)) = 0 := check_own (keyH seed key) (keyH_length _ _) b
  have lT := textP_length (keyH seed key)
  have hO : ∀ (d s : List UInt8), s.length = 16384 → openP d s = textP (keyH seed key) → ∀ i, i < 256 → shaB (sigX s i) = shaB (keyH seed key i (bitB d i)) := fun d s hs h i hi => open_text hs h hi
  have cS : b.length < 2 ^ 28 → _ := fun h => rSign_ok seed hs key hk b h
  generalize signP (keyH seed key) (shaB b) = S at *
  generalize textP (keyH seed key) = T at *
  have cT := rOf_ok T (by rw [lT]; decide)
  have cb : ∀ i : Nat, i < 256 → LocalCall Try.prog 19 [.d (.arr 32 1 ((shaB b).map byteD)), .d (.int .i64 (i : Int))] [] [] (one [.d (.bool (bitB (shaB b) i))]) [] := fun i hi => by
    have h := rBit_ok ((shaB b).map byteD) (shaB b) rfl (shaB_length b) (i : Int)
    rwa [bitI_nat (shaB b) hi] at h
  have p1 : ∀ i : Nat, i < 256 → bitB (shaB b) i = true → LocalCall Try.prog 20 [.d (.arr 32 1 (seed.map byteD)), .d (.int .u64 (key : Int)), .d (.int .i64 (i : Int)), .d (.int .i64 1)] [] [] (one [.d (.arr 32 1 ((keyH seed key i (bitB (shaB b) i)).map byteD))]) [] := fun i hi h => by
    rw [h]; exact rKeyOf_ok seed hs key hk i hi 1 (.inr rfl)
  have p0 : ∀ i : Nat, i < 256 → bitB (shaB b) i = false → LocalCall Try.prog 20 [.d (.arr 32 1 (seed.map byteD)), .d (.int .u64 (key : Int)), .d (.int .i64 (i : Int)), .d (.int .i64 0)] [] [] (one [.d (.arr 32 1 ((keyH seed key i (bitB (shaB b) i)).map byteD))]) [] := fun i hi h => by
    rw [h]; exact rKeyOf_ok seed hs key hk i hi 0 (.inl rfl)
  have ch : ∀ i : Nat, _ := fun i => rOf_ok (keyH seed key i (bitB (shaB b) i)) (by rw [keyH_length]; decide)
  have cx : ∀ (s : List UInt8) (i : Nat), s.length = 16384 → i < 256 → LocalCall Try.prog 15 [.d (.sl (cutD (s.map byteD) (IntKind.i64.wrap (64 * (i : Int))) (IntKind.i64.wrap (IntKind.i64.wrap (64 * (i : Int)) + 32))))] [] [] (one [.d (.arr 32 1 ((shaB (sigX s i)).map byteD))]) [] := fun s i hs hi => by
    rw [rsig_x hs hi]; exact rOf_ok _ (by rw [sigX_length hs hi]; decide)
  -- what is known of a signature that is taken, or not
  have kn : ∀ s : List UInt8, (checkE (shaB T) b s = 0 ∧ s.length = 16384 ∧ shaB (openT b s) = shaB T ∧ openE s = 0 ∧ openT b s = openP (shaB b) s) ∨ checkE (shaB T) b s = 15 := fun s => by
    by_cases h1 : s.length = 16384
    · by_cases h2 : shaB (openP (shaB b) s) = shaB T
      · refine .inl ⟨?_, h1, ?_, ?_, ?_⟩
        · unfold checkE; rw [decide_eq_true h1, decide_eq_true h2]; rfl
        · unfold openT; rw [decide_eq_true h1, cond_true]; exact h2
        · unfold openE; rw [decide_eq_true h1]; rfl
        · unfold openT; rw [decide_eq_true h1]; rfl
      · refine .inr ?_
        unfold checkE; rw [decide_eq_true h1, decide_eq_false h2]; rfl
    · refine .inr ?_
      unfold checkE; rw [decide_eq_false h1]; rfl
  -- behind a signature that is taken
  have aft : ∀ s : List UInt8, checkE (shaB T) b s = 0 → b.length < 2 ^ 58 →
      s.length = 16384 ∧ ∃ Y : List UInt8, shaB Y = shaB T ∧ (Y = T → ∀ i, i < 256 → shaB (sigX s i) = shaB (keyH seed key i (bitB (shaB b) i))) ∧
      LocalCall Try.prog 10 [.d (.sl (b.map byteD)), .d (.sl (s.map byteD))] [] [] (one [.d (.sl (Y.map byteD)), .d (.int .i64 0)]) [] ∧ Y.length < 2 ^ 28 := fun s h hb => by
    rcases kn s with ⟨_, h1, h2, h3, h4⟩ | h5
    · refine ⟨h1, openT b s, h2, fun hY => ?_, ?_, Nat.lt_of_le_of_lt (openT_length _ _) (by decide)⟩
      · rw [h4] at hY; exact hO _ s h1 hY
      · have k := opened_ok b s hb
        rwa [h3] at k
    · rw [h] at h5; cases h5
  refine vc_fn mixed Try.func4 rfl rfl [] (vc_chk rfl) ?_
  by_cases hb : (b.length : Int) > 32768
  · rw [decide_eq_true hb] at l0
    repeat' (first
        | ((with_reducible refine vc_chk ?_); first | decide +kernel | rfl)
        | (with_reducible refine vc_side0 ?_; rfl)
        | (with_reducible first
             | refine vc_true ?_ | refine vc_true2 ?_ | refine vc_side ?_ ?_ | refine vc_triv | refine vc_later ?_ | refine vc_caseT ?_ | refine vc_caseF ?_ | refine vc_cons ?_ | refine vc_nil ?_ ?_ | refine vc_seq ?_
                | refine vc_region ?_ | refine vc_cond ?_ | refine vc_block ?_ | refine vc_retc ?_ | refine vc_exit ?_ | refine vc_skip ?_ | refine vc_scope ?_ | refine vc_label ?_ | refine vc_goto ?_ | refine vc_wkSl0
                | refine vc_wkHp0 | refine vc_eqAVs0 | refine vc_preG0 | refine vc_wkSl ?_ ?_ | refine vc_wkHp ?_ ?_ | refine vc_eqAVs ?_ ?_ | refine vc_preG ?_ ?_ | refine vc_side0 ?_ | refine vc_pure l0 ?_ ?_ ?_
                | refine vc_pure works_ok ?_ ?_ ?_ | refine vc_weakf [] ?_ ?_ ?_ | refine vc_and ?_ ?_ | refine vc_ret [] [] ?_)
        | ((with_reducible first | refine vc_caseD (fun h => ?_) (fun h => ?_) | refine vc_caseN (fun h => ?_) (fun h => ?_)) <;> try (exfalso; omega))
        | ((with_reducible refine vc_case (fun h => ?_) (fun h => ?_)) <;> (try simp only [Bool.cond_true_left, Bool.cond_false_right, Bool.cond_true_right, Bool.cond_false_left, Bool.and_eq_true, Bool.or_eq_true, Bool.and_eq_false_iff, Bool.or_eq_false_iff, Bool.not_eq_true', Bool.not_eq_false', Bool.not_eq_true, Bool.not_eq_false, Bool.not_not, decide_eq_true_eq, decide_eq_false_iff_not, beq_iff_eq, beq_eq_false_iff_ne, bne_iff_ne, bne_eq_false_iff_eq, ne_eq, Classical.not_not, reduceCtorEq, false_or, or_false, true_and, and_true, Bool.false_eq_true, Bool.true_eq_false] at h) <;> try (exfalso; first | omega | (simp at h; done)))
        | (conv in Vc _ => arg 1; whnf
           first
            | (with_reducible refine vc_side0 ?_; rfl)
            | (with_reducible first
                | refine vc_true ?_ | refine vc_true2 ?_ | refine vc_side ?_ ?_ | refine vc_triv | refine vc_later ?_ | refine vc_caseT ?_ | refine vc_caseF ?_ | refine vc_cons ?_ | refine vc_nil ?_ ?_ | refine vc_seq ?_
                   | refine vc_region ?_ | refine vc_cond ?_ | refine vc_block ?_ | refine vc_retc ?_ | refine vc_exit ?_ | refine vc_skip ?_ | refine vc_scope ?_ | refine vc_label ?_ | refine vc_goto ?_ | refine vc_wkSl0
                   | refine vc_wkHp0 | refine vc_eqAVs0 | refine vc_preG0 | refine vc_wkSl ?_ ?_ | refine vc_wkHp ?_ ?_ | refine vc_eqAVs ?_ ?_ | refine vc_preG ?_ ?_ | refine vc_side0 ?_ | refine vc_pure l0 ?_ ?_ ?_
                   | refine vc_pure works_ok ?_ ?_ ?_ | refine vc_weakf [] ?_ ?_ ?_ | refine vc_and ?_ ?_ | refine vc_ret [] [] ?_)
            | ((with_reducible first | refine vc_caseD (fun h => ?_) (fun h => ?_) | refine vc_caseN (fun h => ?_) (fun h => ?_)) <;> try (exfalso; omega))
            | ((with_reducible refine vc_case (fun h => ?_) (fun h => ?_)) <;> (try simp only [Bool.cond_true_left, Bool.cond_false_right, Bool.cond_true_right, Bool.cond_false_left, Bool.and_eq_true, Bool.or_eq_true, Bool.and_eq_false_iff, Bool.or_eq_false_iff, Bool.not_eq_true', Bool.not_eq_false', Bool.not_eq_true, Bool.not_eq_false, Bool.not_not, decide_eq_true_eq, decide_eq_false_iff_not, beq_iff_eq, beq_eq_false_iff_ne, bne_iff_ne, bne_eq_false_iff_eq, ne_eq, Classical.not_not, reduceCtorEq, false_or, or_false, true_and, and_true, Bool.false_eq_true, Bool.true_eq_false] at h) <;> try (exfalso; first | omega | (simp at h; done)))))
    all_goals rfl
  rw [decide_eq_false hb] at l0
  by_cases hg : (sig.length : Int) > 32768
  · rw [decide_eq_true hg] at l1
    repeat' (first
        | ((with_reducible refine vc_chk ?_); first | decide +kernel | rfl)
        | (with_reducible refine vc_side0 ?_; rfl)
        | (with_reducible first
             | refine vc_true ?_ | refine vc_true2 ?_ | refine vc_side ?_ ?_ | refine vc_triv | refine vc_later ?_ | refine vc_caseT ?_ | refine vc_caseF ?_ | refine vc_cons ?_ | refine vc_nil ?_ ?_ | refine vc_seq ?_
                | refine vc_region ?_ | refine vc_cond ?_ | refine vc_block ?_ | refine vc_retc ?_ | refine vc_exit ?_ | refine vc_skip ?_ | refine vc_scope ?_ | refine vc_label ?_ | refine vc_goto ?_ | refine vc_wkSl0
                | refine vc_wkHp0 | refine vc_eqAVs0 | refine vc_preG0 | refine vc_wkSl ?_ ?_ | refine vc_wkHp ?_ ?_ | refine vc_eqAVs ?_ ?_ | refine vc_preG ?_ ?_ | refine vc_side0 ?_ | refine vc_pure l0 ?_ ?_ ?_
                | refine vc_pure l1 ?_ ?_ ?_ | refine vc_pure works_ok ?_ ?_ ?_ | refine vc_weakf [] ?_ ?_ ?_ | refine vc_and ?_ ?_ | refine vc_ret [] [] ?_)
        | ((with_reducible first | refine vc_caseD (fun h => ?_) (fun h => ?_) | refine vc_caseN (fun h => ?_) (fun h => ?_)) <;> try (exfalso; omega))
        | ((with_reducible refine vc_case (fun h => ?_) (fun h => ?_)) <;> (try simp only [Bool.cond_true_left, Bool.cond_false_right, Bool.cond_true_right, Bool.cond_false_left, Bool.and_eq_true, Bool.or_eq_true, Bool.and_eq_false_iff, Bool.or_eq_false_iff, Bool.not_eq_true', Bool.not_eq_false', Bool.not_eq_true, Bool.not_eq_false, Bool.not_not, decide_eq_true_eq, decide_eq_false_iff_not, beq_iff_eq, beq_eq_false_iff_ne, bne_iff_ne, bne_eq_false_iff_eq, ne_eq, Classical.not_not, reduceCtorEq, false_or, or_false, true_and, and_true, Bool.false_eq_true, Bool.true_eq_false] at h) <;> try (exfalso; first | omega | (simp at h; done)))
        | (conv in Vc _ => arg 1; whnf
           first
            | (with_reducible refine vc_side0 ?_; rfl)
            | (with_reducible first
                | refine vc_true ?_ | refine vc_true2 ?_ | refine vc_side ?_ ?_ | refine vc_triv | refine vc_later ?_ | refine vc_caseT ?_ | refine vc_caseF ?_ | refine vc_cons ?_ | refine vc_nil ?_ ?_ | refine vc_seq ?_
                   | refine vc_region ?_ | refine vc_cond ?_ | refine vc_block ?_ | refine vc_retc ?_ | refine vc_exit ?_ | refine vc_skip ?_ | refine vc_scope ?_ | refine vc_label ?_ | refine vc_goto ?_ | refine vc_wkSl0
                   | refine vc_wkHp0 | refine vc_eqAVs0 | refine vc_preG0 | refine vc_wkSl ?_ ?_ | refine vc_wkHp ?_ ?_ | refine vc_eqAVs ?_ ?_ | refine vc_preG ?_ ?_ | refine vc_side0 ?_ | refine vc_pure l0 ?_ ?_ ?_
                   | refine vc_pure l1 ?_ ?_ ?_ | refine vc_pure works_ok ?_ ?_ ?_ | refine vc_weakf [] ?_ ?_ ?_ | refine vc_and ?_ ?_ | refine vc_ret [] [] ?_)
            | ((with_reducible first | refine vc_caseD (fun h => ?_) (fun h => ?_) | refine vc_caseN (fun h => ?_) (fun h => ?_)) <;> try (exfalso; omega))
            | ((with_reducible refine vc_case (fun h => ?_) (fun h => ?_)) <;> (try simp only [Bool.cond_true_left, Bool.cond_false_right, Bool.cond_true_right, Bool.cond_false_left, Bool.and_eq_true, Bool.or_eq_true, Bool.and_eq_false_iff, Bool.or_eq_false_iff, Bool.not_eq_true', Bool.not_eq_false', Bool.not_eq_true, Bool.not_eq_false, Bool.not_not, decide_eq_true_eq, decide_eq_false_iff_not, beq_iff_eq, beq_eq_false_iff_ne, bne_iff_ne, bne_eq_false_iff_eq, ne_eq, Classical.not_not, reduceCtorEq, false_or, or_false, true_and, and_true, Bool.false_eq_true, Bool.true_eq_false] at h) <;> try (exfalso; first | omega | (simp at h; done)))))
    all_goals rfl
  rw [decide_eq_false hg] at l1
  have cS := cS (by omega)
  have walk : ∀ (s : List UInt8), checkE (shaB T) b s = 0 → s.length = 16384 := fun s h => by
    rcases kn s with ⟨_, h1, _⟩ | h5
    · exact h1
    · rw [h] at h5; cases h5
  cases own with
  | true =>
    have ck := lcheck_ok (shaB T) b S (shaB_length _) (by omega)
    rw [own0] at ck
    obtain ⟨lS, Y, y1, y2, y3, y4⟩ := aft S own0 (by omega)
    have cY := rOf_ok Y y4
    have sm := same_b Y T
    have cB := rOf_ok b (by omega)
    repeat' (first
        | ((with_reducible refine vc_chk ?_); first | decide +kernel | rfl)
        | (with_reducible refine vc_side0 ?_; rfl)
        | (with_reducible first
             | refine vc_true ?_ | refine vc_true2 ?_ | refine vc_side ?_ ?_ | refine vc_triv | refine vc_later ?_ | refine vc_caseT ?_ | refine vc_caseF ?_ | refine vc_cons ?_ | refine vc_nil ?_ ?_ | refine vc_seq ?_
                | refine vc_region ?_ | refine vc_cond ?_ | refine vc_block ?_ | refine vc_retc ?_ | refine vc_exit ?_ | refine vc_skip ?_ | refine vc_scope ?_ | refine vc_label ?_ | refine vc_goto ?_ | refine vc_wkSl0
                | refine vc_wkHp0 | refine vc_eqAVs0 | refine vc_preG0 | refine vc_wkSl ?_ ?_ | refine vc_wkHp ?_ ?_ | refine vc_eqAVs ?_ ?_ | refine vc_preG ?_ ?_ | refine vc_side0 ?_ | refine vc_pure l0 ?_ ?_ ?_
                | refine vc_pure l1 ?_ ?_ ?_ | refine vc_pure cS ?_ ?_ ?_ | refine vc_pure c4 ?_ ?_ ?_ | refine vc_pure ck ?_ ?_ ?_ | refine vc_pure y3 ?_ ?_ ?_ | refine vc_pure c5 ?_ ?_ ?_ | refine vc_pure sm ?_ ?_ ?_
                | refine vc_pure cY ?_ ?_ ?_ | refine vc_pure cT ?_ ?_ ?_ | refine vc_pure cB ?_ ?_ ?_ | refine vc_pure works_ok ?_ ?_ ?_ | refine vc_pure (cb i (by omega)) ?_ ?_ ?_ | refine vc_pure (p1 i (by omega) h) ?_ ?_ ?_
                | refine vc_pure (p0 i (by omega) h) ?_ ?_ ?_ | refine vc_pure (cx S i lS (by omega)) ?_ ?_ ?_ | refine vc_call [true] (ch i) ?_
                | refine vc_loopI 96 (fun (i : Nat) => [(1, .d (.int .u64 (key : Int))), (3, .d (.sl (S.map byteD))), (5, .ptr 1000 []), (14, .ptr 14008 []), (15, .d (.int .i64 (i : Int)))]) (fun _ => [(1000, .var (.d (.arr 32 1 (seed.map byteD)))), (14008, .var (.d (.arr 32 1 ((shaB b).map byteD))))]) (fun i => 256 - i) (fun i => i ≤ 256) 0 [] ?_ ?_ ?_ ?_ ?_ (fun i hI => ?_)
                | refine vc_nextI (i + 1) [] ?_ ?_ ?_ ?_ ?_ ?_ | refine vc_weakf [] ?_ ?_ ?_ | refine vc_and ?_ ?_ | refine vc_ret [] [] ?_)
        | ((with_reducible first | refine vc_caseD (fun h => ?_) (fun h => ?_) | refine vc_caseN (fun h => ?_) (fun h => ?_)) <;> try (exfalso; omega))
        | ((with_reducible refine vc_case (fun h => ?_) (fun h => ?_)) <;> (try simp only [Bool.cond_true_left, Bool.cond_false_right, Bool.cond_true_right, Bool.cond_false_left, Bool.and_eq_true, Bool.or_eq_true, Bool.and_eq_false_iff, Bool.or_eq_false_iff, Bool.not_eq_true', Bool.not_eq_false', Bool.not_eq_true, Bool.not_eq_false, Bool.not_not, decide_eq_true_eq, decide_eq_false_iff_not, beq_iff_eq, beq_eq_false_iff_ne, bne_iff_ne, bne_eq_false_iff_eq, ne_eq, Classical.not_not, reduceCtorEq, false_or, or_false, true_and, and_true, Bool.false_eq_true, Bool.true_eq_false] at h) <;> try (exfalso; first | omega | (simp at h; done)))
        | (conv in Vc _ => arg 1; whnf
           first
            | (with_reducible refine vc_side0 ?_; rfl)
            | (with_reducible first
                | refine vc_true ?_ | refine vc_true2 ?_ | refine vc_side ?_ ?_ | refine vc_triv | refine vc_later ?_ | refine vc_caseT ?_ | refine vc_caseF ?_ | refine vc_cons ?_ | refine vc_nil ?_ ?_ | refine vc_seq ?_
                   | refine vc_region ?_ | refine vc_cond ?_ | refine vc_block ?_ | refine vc_retc ?_ | refine vc_exit ?_ | refine vc_skip ?_ | refine vc_scope ?_ | refine vc_label ?_ | refine vc_goto ?_ | refine vc_wkSl0
                   | refine vc_wkHp0 | refine vc_eqAVs0 | refine vc_preG0 | refine vc_wkSl ?_ ?_ | refine vc_wkHp ?_ ?_ | refine vc_eqAVs ?_ ?_ | refine vc_preG ?_ ?_ | refine vc_side0 ?_ | refine vc_pure l0 ?_ ?_ ?_
                   | refine vc_pure l1 ?_ ?_ ?_ | refine vc_pure cS ?_ ?_ ?_ | refine vc_pure c4 ?_ ?_ ?_ | refine vc_pure ck ?_ ?_ ?_ | refine vc_pure y3 ?_ ?_ ?_ | refine vc_pure c5 ?_ ?_ ?_ | refine vc_pure sm ?_ ?_ ?_
                   | refine vc_pure cY ?_ ?_ ?_ | refine vc_pure cT ?_ ?_ ?_ | refine vc_pure cB ?_ ?_ ?_ | refine vc_pure works_ok ?_ ?_ ?_ | refine vc_pure (cb i (by omega)) ?_ ?_ ?_ | refine vc_pure (p1 i (by omega) h) ?_ ?_ ?_
                   | refine vc_pure (p0 i (by omega) h) ?_ ?_ ?_ | refine vc_pure (cx S i lS (by omega)) ?_ ?_ ?_ | refine vc_call [true] (ch i) ?_
                   | refine vc_loopI 96 (fun (i : Nat) => [(1, .d (.int .u64 (key : Int))), (3, .d (.sl (S.map byteD))), (5, .ptr 1000 []), (14, .ptr 14008 []), (15, .d (.int .i64 (i : Int)))]) (fun _ => [(1000, .var (.d (.arr 32 1 (seed.map byteD)))), (14008, .var (.d (.arr 32 1 ((shaB b).map byteD))))]) (fun i => 256 - i) (fun i => i ≤ 256) 0 [] ?_ ?_ ?_ ?_ ?_ (fun i hI => ?_)
                   | refine vc_nextI (i + 1) [] ?_ ?_ ?_ ?_ ?_ ?_ | refine vc_weakf [] ?_ ?_ ?_ | refine vc_and ?_ ?_ | refine vc_ret [] [] ?_)
            | ((with_reducible first | refine vc_caseD (fun h => ?_) (fun h => ?_) | refine vc_caseN (fun h => ?_) (fun h => ?_)) <;> try (exfalso; omega))
            | ((with_reducible refine vc_case (fun h => ?_) (fun h => ?_)) <;> (try simp only [Bool.cond_true_left, Bool.cond_false_right, Bool.cond_true_right, Bool.cond_false_left, Bool.and_eq_true, Bool.or_eq_true, Bool.and_eq_false_iff, Bool.or_eq_false_iff, Bool.not_eq_true', Bool.not_eq_false', Bool.not_eq_true, Bool.not_eq_false, Bool.not_not, decide_eq_true_eq, decide_eq_false_iff_not, beq_iff_eq, beq_eq_false_iff_ne, bne_iff_ne, bne_eq_false_iff_eq, ne_eq, Classical.not_not, reduceCtorEq, false_or, or_false, true_and, and_true, Bool.false_eq_true, Bool.true_eq_false] at h) <;> try (exfalso; first | omega | (simp at h; done)))))
    all_goals (try (exfalso; exact arrNe h y1))
    all_goals (try (have hi : i < 256 := by omega))
    all_goals (try (exfalso; exact arrEq h (y2 (by assumption) i hi)))
    all_goals (try (exfalso; exact h (by rw [List.length_map, lS]; rfl)))
    all_goals (try simp only [t32k, take32d (keyH_length _ _ _ _)])
    all_goals first
      | with_reducible rfl
      | omega
      | exact ⟨fits_dig 6 _, fits_dig 6 _⟩
      | exact ⟨rsig_r lS hi, size_bytes _⟩
      | exact ⟨⟨by decide, by decide, by decide⟩, trivial⟩
      | exact ⟨⟨trivial, len32 (keyH_length _ _ _ _)⟩, trivial⟩
      | exact ⟨trivial, trivial, trivial⟩
      | (rw [wrap64_id (by omega) (by omega)]; rfl)
      | rfl
      | trace_state
  | false =>
    have ck := lcheck_ok (shaB T) b sig (shaB_length _) (by omega)
    rcases kn sig with ⟨h0, _⟩ | h0
    · rw [h0] at ck
      clear lS
      obtain ⟨lS, Y, y1, y2, y3, y4⟩ := aft sig h0 (by omega)
      have cY := rOf_ok Y y4
      have sm := same_b Y T
      have cB := rOf_ok b (by omega)
      repeat' (first
          | ((with_reducible refine vc_chk ?_); first | decide +kernel | rfl)
          | (with_reducible refine vc_side0 ?_; rfl)
          | (with_reducible first
               | refine vc_true ?_ | refine vc_true2 ?_ | refine vc_side ?_ ?_ | refine vc_triv | refine vc_later ?_ | refine vc_caseT ?_ | refine vc_caseF ?_ | refine vc_cons ?_ | refine vc_nil ?_ ?_ | refine vc_seq ?_
                  | refine vc_region ?_ | refine vc_cond ?_ | refine vc_block ?_ | refine vc_retc ?_ | refine vc_exit ?_ | refine vc_skip ?_ | refine vc_scope ?_ | refine vc_label ?_ | refine vc_goto ?_ | refine vc_wkSl0
                  | refine vc_wkHp0 | refine vc_eqAVs0 | refine vc_preG0 | refine vc_wkSl ?_ ?_ | refine vc_wkHp ?_ ?_ | refine vc_eqAVs ?_ ?_ | refine vc_preG ?_ ?_ | refine vc_side0 ?_ | refine vc_pure l0 ?_ ?_ ?_
                  | refine vc_pure l1 ?_ ?_ ?_ | refine vc_pure cS ?_ ?_ ?_ | refine vc_pure c4 ?_ ?_ ?_ | refine vc_pure ck ?_ ?_ ?_ | refine vc_pure y3 ?_ ?_ ?_ | refine vc_pure c5 ?_ ?_ ?_ | refine vc_pure sm ?_ ?_ ?_
                  | refine vc_pure cY ?_ ?_ ?_ | refine vc_pure cT ?_ ?_ ?_ | refine vc_pure cB ?_ ?_ ?_ | refine vc_pure works_ok ?_ ?_ ?_ | refine vc_pure (cb i (by omega)) ?_ ?_ ?_ | refine vc_pure (p1 i (by omega) h) ?_ ?_ ?_
                  | refine vc_pure (p0 i (by omega) h) ?_ ?_ ?_ | refine vc_pure (cx sig i lS (by omega)) ?_ ?_ ?_ | refine vc_call [true] (ch i) ?_
                  | refine vc_loopI 96 (fun (i : Nat) => [(1, .d (.int .u64 (key : Int))), (3, .d (.sl (sig.map byteD))), (5, .ptr 1000 []), (14, .ptr 14008 []), (15, .d (.int .i64 (i : Int)))]) (fun _ => [(1000, .var (.d (.arr 32 1 (seed.map byteD)))), (14008, .var (.d (.arr 32 1 ((shaB b).map byteD))))]) (fun i => 256 - i) (fun i => i ≤ 256) 0 [] ?_ ?_ ?_ ?_ ?_ (fun i hI => ?_)
                  | refine vc_nextI (i + 1) [] ?_ ?_ ?_ ?_ ?_ ?_ | refine vc_weakf [] ?_ ?_ ?_ | refine vc_and ?_ ?_ | refine vc_ret [] [] ?_)
          | ((with_reducible first | refine vc_caseD (fun h => ?_) (fun h => ?_) | refine vc_caseN (fun h => ?_) (fun h => ?_)) <;> try (exfalso; omega))
          | ((with_reducible refine vc_case (fun h => ?_) (fun h => ?_)) <;> (try simp only [Bool.cond_true_left, Bool.cond_false_right, Bool.cond_true_right, Bool.cond_false_left, Bool.and_eq_true, Bool.or_eq_true, Bool.and_eq_false_iff, Bool.or_eq_false_iff, Bool.not_eq_true', Bool.not_eq_false', Bool.not_eq_true, Bool.not_eq_false, Bool.not_not, decide_eq_true_eq, decide_eq_false_iff_not, beq_iff_eq, beq_eq_false_iff_ne, bne_iff_ne, bne_eq_false_iff_eq, ne_eq, Classical.not_not, reduceCtorEq, false_or, or_false, true_and, and_true, Bool.false_eq_true, Bool.true_eq_false] at h) <;> try (exfalso; first | omega | (simp at h; done)))
          | (conv in Vc _ => arg 1; whnf
             first
              | (with_reducible refine vc_side0 ?_; rfl)
              | (with_reducible first
                  | refine vc_true ?_ | refine vc_true2 ?_ | refine vc_side ?_ ?_ | refine vc_triv | refine vc_later ?_ | refine vc_caseT ?_ | refine vc_caseF ?_ | refine vc_cons ?_ | refine vc_nil ?_ ?_ | refine vc_seq ?_
                     | refine vc_region ?_ | refine vc_cond ?_ | refine vc_block ?_ | refine vc_retc ?_ | refine vc_exit ?_ | refine vc_skip ?_ | refine vc_scope ?_ | refine vc_label ?_ | refine vc_goto ?_ | refine vc_wkSl0
                     | refine vc_wkHp0 | refine vc_eqAVs0 | refine vc_preG0 | refine vc_wkSl ?_ ?_ | refine vc_wkHp ?_ ?_ | refine vc_eqAVs ?_ ?_ | refine vc_preG ?_ ?_ | refine vc_side0 ?_ | refine vc_pure l0 ?_ ?_ ?_
                     | refine vc_pure l1 ?_ ?_ ?_ | refine vc_pure cS ?_ ?_ ?_ | refine vc_pure c4 ?_ ?_ ?_ | refine vc_pure ck ?_ ?_ ?_ | refine vc_pure y3 ?_ ?_ ?_ | refine vc_pure c5 ?_ ?_ ?_ | refine vc_pure sm ?_ ?_ ?_
                     | refine vc_pure cY ?_ ?_ ?_ | refine vc_pure cT ?_ ?_ ?_ | refine vc_pure cB ?_ ?_ ?_ | refine vc_pure works_ok ?_ ?_ ?_ | refine vc_pure (cb i (by omega)) ?_ ?_ ?_
                     | refine vc_pure (p1 i (by omega) h) ?_ ?_ ?_ | refine vc_pure (p0 i (by omega) h) ?_ ?_ ?_ | refine vc_pure (cx sig i lS (by omega)) ?_ ?_ ?_ | refine vc_call [true] (ch i) ?_
                     | refine vc_loopI 96 (fun (i : Nat) => [(1, .d (.int .u64 (key : Int))), (3, .d (.sl (sig.map byteD))), (5, .ptr 1000 []), (14, .ptr 14008 []), (15, .d (.int .i64 (i : Int)))]) (fun _ => [(1000, .var (.d (.arr 32 1 (seed.map byteD)))), (14008, .var (.d (.arr 32 1 ((shaB b).map byteD))))]) (fun i => 256 - i) (fun i => i ≤ 256) 0 [] ?_ ?_ ?_ ?_ ?_ (fun i hI => ?_)
                     | refine vc_nextI (i + 1) [] ?_ ?_ ?_ ?_ ?_ ?_ | refine vc_weakf [] ?_ ?_ ?_ | refine vc_and ?_ ?_ | refine vc_ret [] [] ?_)
              | ((with_reducible first | refine vc_caseD (fun h => ?_) (fun h => ?_) | refine vc_caseN (fun h => ?_) (fun h => ?_)) <;> try (exfalso; omega))
              | ((with_reducible refine vc_case (fun h => ?_) (fun h => ?_)) <;> (try simp only [Bool.cond_true_left, Bool.cond_false_right, Bool.cond_true_right, Bool.cond_false_left, Bool.and_eq_true, Bool.or_eq_true, Bool.and_eq_false_iff, Bool.or_eq_false_iff, Bool.not_eq_true', Bool.not_eq_false', Bool.not_eq_true, Bool.not_eq_false, Bool.not_not, decide_eq_true_eq, decide_eq_false_iff_not, beq_iff_eq, beq_eq_false_iff_ne, bne_iff_ne, bne_eq_false_iff_eq, ne_eq, Classical.not_not, reduceCtorEq, false_or, or_false, true_and, and_true, Bool.false_eq_true, Bool.true_eq_false] at h) <;> try (exfalso; first | omega | (simp at h; done)))))
      all_goals (try (exfalso; exact arrNe h y1))
      all_goals (try (have hi : i < 256 := by omega))
      all_goals (try (exfalso; exact arrEq h (y2 (by assumption) i hi)))
      all_goals (try (exfalso; exact h (by rw [List.length_map, lS]; rfl)))
      all_goals (try simp only [t32k, take32d (keyH_length _ _ _ _)])
      all_goals first
        | with_reducible rfl
        | omega
        | exact ⟨fits_dig 6 _, fits_dig 6 _⟩
        | exact ⟨rsig_r lS hi, size_bytes _⟩
        | exact ⟨⟨by decide, by decide, by decide⟩, trivial⟩
        | exact ⟨⟨trivial, len32 (keyH_length _ _ _ _)⟩, trivial⟩
        | exact ⟨trivial, trivial, trivial⟩
        | (rw [wrap64_id (by omega) (by omega)]; rfl)
        | rfl
        | trace_state
    · rw [h0] at ck
      repeat' (first
          | ((with_reducible refine vc_chk ?_); first | decide +kernel | rfl)
          | (with_reducible refine vc_side0 ?_; rfl)
          | (with_reducible first
               | refine vc_true ?_ | refine vc_true2 ?_ | refine vc_side ?_ ?_ | refine vc_triv | refine vc_later ?_ | refine vc_caseT ?_ | refine vc_caseF ?_ | refine vc_cons ?_ | refine vc_nil ?_ ?_ | refine vc_seq ?_
                  | refine vc_region ?_ | refine vc_cond ?_ | refine vc_block ?_ | refine vc_retc ?_ | refine vc_exit ?_ | refine vc_skip ?_ | refine vc_scope ?_ | refine vc_label ?_ | refine vc_goto ?_ | refine vc_wkSl0
                  | refine vc_wkHp0 | refine vc_eqAVs0 | refine vc_preG0 | refine vc_wkSl ?_ ?_ | refine vc_wkHp ?_ ?_ | refine vc_eqAVs ?_ ?_ | refine vc_preG ?_ ?_ | refine vc_side0 ?_ | refine vc_pure l0 ?_ ?_ ?_
                  | refine vc_pure l1 ?_ ?_ ?_ | refine vc_pure c4 ?_ ?_ ?_ | refine vc_pure ck ?_ ?_ ?_ | refine vc_pure works_ok ?_ ?_ ?_ | refine vc_weakf [] ?_ ?_ ?_ | refine vc_and ?_ ?_ | refine vc_ret [] [] ?_)
          | ((with_reducible first | refine vc_caseD (fun h => ?_) (fun h => ?_) | refine vc_caseN (fun h => ?_) (fun h => ?_)) <;> try (exfalso; omega))
          | ((with_reducible refine vc_case (fun h => ?_) (fun h => ?_)) <;> (try simp only [Bool.cond_true_left, Bool.cond_false_right, Bool.cond_true_right, Bool.cond_false_left, Bool.and_eq_true, Bool.or_eq_true, Bool.and_eq_false_iff, Bool.or_eq_false_iff, Bool.not_eq_true', Bool.not_eq_false', Bool.not_eq_true, Bool.not_eq_false, Bool.not_not, decide_eq_true_eq, decide_eq_false_iff_not, beq_iff_eq, beq_eq_false_iff_ne, bne_iff_ne, bne_eq_false_iff_eq, ne_eq, Classical.not_not, reduceCtorEq, false_or, or_false, true_and, and_true, Bool.false_eq_true, Bool.true_eq_false] at h) <;> try (exfalso; first | omega | (simp at h; done)))
          | (conv in Vc _ => arg 1; whnf
             first
              | (with_reducible refine vc_side0 ?_; rfl)
              | (with_reducible first
                  | refine vc_true ?_ | refine vc_true2 ?_ | refine vc_side ?_ ?_ | refine vc_triv | refine vc_later ?_ | refine vc_caseT ?_ | refine vc_caseF ?_ | refine vc_cons ?_ | refine vc_nil ?_ ?_ | refine vc_seq ?_
                     | refine vc_region ?_ | refine vc_cond ?_ | refine vc_block ?_ | refine vc_retc ?_ | refine vc_exit ?_ | refine vc_skip ?_ | refine vc_scope ?_ | refine vc_label ?_ | refine vc_goto ?_ | refine vc_wkSl0
                     | refine vc_wkHp0 | refine vc_eqAVs0 | refine vc_preG0 | refine vc_wkSl ?_ ?_ | refine vc_wkHp ?_ ?_ | refine vc_eqAVs ?_ ?_ | refine vc_preG ?_ ?_ | refine vc_side0 ?_ | refine vc_pure l0 ?_ ?_ ?_
                     | refine vc_pure l1 ?_ ?_ ?_ | refine vc_pure c4 ?_ ?_ ?_ | refine vc_pure ck ?_ ?_ ?_ | refine vc_pure works_ok ?_ ?_ ?_ | refine vc_weakf [] ?_ ?_ ?_ | refine vc_and ?_ ?_ | refine vc_ret [] [] ?_)
              | ((with_reducible first | refine vc_caseD (fun h => ?_) (fun h => ?_) | refine vc_caseN (fun h => ?_) (fun h => ?_)) <;> try (exfalso; omega))
              | ((with_reducible refine vc_case (fun h => ?_) (fun h => ?_)) <;> (try simp only [Bool.cond_true_left, Bool.cond_false_right, Bool.cond_true_right, Bool.cond_false_left, Bool.and_eq_true, Bool.or_eq_true, Bool.and_eq_false_iff, Bool.or_eq_false_iff, Bool.not_eq_true', Bool.not_eq_false', Bool.not_eq_true, Bool.not_eq_false, Bool.not_not, decide_eq_true_eq, decide_eq_false_iff_not, beq_iff_eq, beq_eq_false_iff_ne, bne_iff_ne, bne_eq_false_iff_eq, ne_eq, Classical.not_not, reduceCtorEq, false_or, or_false, true_and, and_true, Bool.false_eq_true, Bool.true_eq_false] at h) <;> try (exfalso; first | omega | (simp at h; done)))))
      all_goals first | rfl | trace_state

end Go.Proofs.Ytjofajjhhjpkiaa
