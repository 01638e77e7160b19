import Derived.Test.YtogncghpngmjpaaJ1
import Derived.Test.YtogncghpngmjpaaJ2
import Derived.Test.YtogncghpngmjpaaJ3
import Derived.Test.YtogncghpngmjpaaJ4
import Derived.Test.YtogncghpngmjpaaJ5
import Derived.Test.YtogncghpngmjpaaJ6
import Derived.Test.YtogncghpngmjpaaJ7
import Derived.Test.YtogncghpngmjpaaJ8
import Derived.Test.YtogncghpngmjpaaJ9
import Derived.Test.YtogncghpngmjpaaJ10
import Derived.Test.YtogncghpngmjpaaJ11
set_option linter.unusedSimpArgs false
set_option linter.unusedVariables false
/-
What the law RecordBack returns.
-/
set_option linter.unusedSimpArgs false
set_option linter.unusedVariables false
namespace Go.Proofs.Ytogncghpngmjpaa
open Go.Sym
set_option maxRecDepth 10000
set_option maxHeartbeats 16000000

theorem recordBack_main (b : Bnd) (q : Req) (s : Sgn) (p : Prf) (hs : b.serial < 2 ^ 64) (ha : q.auth.length = 32) (hw : wfS s) (hp : wfP p) (l1 : b.name.length < 2 ^ 63) (l2 : q.name.length < 2 ^ 63) (l4 : p.sides.length < 2 ^ 63) :
    LocalCall Try.prog 7 [.d (bD b), .d (qD q), .d (sD s), .d (pD p)] [] [] (one [.d (.bool true)]) [] := by
  have e1 := rCheck_ok b.name b.key (by omega)
  have e2 := rCheck_ok q.name q.key (by omega)
  have e4 := rRight_ok p
  have r1 : checkI b.name b.key = 0 → (bndB b).length ≤ 2 ^ 22 := fun h => by
    obtain ⟨h1, h2⟩ := check_len h
    exact bndB_len b hs (by omega)
  have r2 : checkI q.name q.key = 0 → (reqB q).length ≤ 2 ^ 22 := fun h => by
    obtain ⟨h1, h2⟩ := check_len h
    exact reqB_len q ha (by omega)
  have r3 : (s.sig.length : Int) ≤ 1048576 → (sgnB s).length ≤ 2 ^ 22 := fun h => sgnB_len s hw (by omega)
  have r4 : rightP p → (prfB p).length ≤ 2 ^ 22 := fun h => by
    have h1 := flat_32 p.sides hp.sides
    have h2 := h.1
    exact prfB_len p hp (by omega)
  have c1 := fun h => bndW b hs (Nat.le_trans (r1 h) (by omega))
  have c2 := fun h => reqW q ha (Nat.le_trans (r2 h) (by omega))
  have c3 := fun h => sgnW s hw.epoch hw.prev hw.tree hw.next (Nat.le_trans (r3 h) (by omega))
  have c4 := fun h => prfW p hp.sides hp.index hp.value (Nat.le_trans (r4 h) (by omega))
  have d1 : checkI b.name b.key = 0 → LocalCall Try.prog 28 [.d (.sl ((bndB b).map byteD))] [] [] (one [.d (bD b), .d (.int .i64 0)]) [] := fun h => by
    obtain ⟨h1, h2⟩ := check_len h
    have := r1 h
    exact bind_ok _ (bndB b) rfl (by omega) (some b) (bnd_back hs h (by omega) (by omega))
  have d2 : checkI q.name q.key = 0 → (q.kind = 2 ∨ (q.kind = 1 ∧ q.auth = zero32)) → LocalCall Try.prog 30 [.d (.sl ((reqB q).map byteD))] [] [] (one [.d (qD q), .d (.int .i64 0)]) [] := fun h hm => by
    obtain ⟨h1, h2⟩ := check_len h
    have := r2 h
    exact req_ok _ (reqB q) rfl (by omega) (some q) (req_back ha ⟨h, hm⟩ (by omega) (by omega))
  have d3 : (s.sig.length : Int) ≤ 1048576 → LocalCall Try.prog 32 [.d (.sl ((sgnB s).map byteD))] [] [] (one [.d (sD s), .d (.int .i64 0)]) [] := fun h => by
    have := r3 h
    exact sgn_ok _ (sgnB s) rfl (by omega) (some s) (sgn_back hw (by omega))
  have d4 : rightP p → LocalCall Try.prog 34 [.d (.sl ((prfB p).map byteD))] [] [] (one [.d (pD p), .d (.int .i64 0)]) [] := fun h => by
    have := r4 h
    exact prf_ok _ (prfB p) rfl (by omega) (some p) (prf_back hp h)
  have s1 := sameBnd_ok b b
  have s2 := sameReq_ok q q
  have s3 := sameSgn_ok s s
  have s4 := samePrf_ok p p l4
  have lm : (s.sig.map byteD).length = s.sig.length := List.length_map _
  rw [decide_eq_true rfl] at s1 s2 s3 s4
  have bz : ∀ a : List UInt8, (bif false then !(D.arr 32 1 (a.map byteD)).beq (D.arr 32 1 (List.replicate 32 (D.zero Try.prog 7 5))) else (D.arr 32 1 (a.map byteD)).beq (D.arr 32 1 (List.replicate 32 (D.zero Try.prog 7 5)))) = true → a = zero32 := fun a h => by
    rw [cond_false, z7, beq_dig, decide_eq_true_eq] at h; exact h
  refine vc_fn mixed Try.func7 rfl rfl [] (vc_chk rfl) ?_
  repeat' (first
      | ((with_reducible refine vc_chk ?_); first | decide +kernel | rfl)
      | (with_reducible refine vc_side0 ?_; rfl)
      | (with_reducible first
           | refine vc_true ?_ | refine vc_true2 ?_ | refine vc_side ?_ ?_ | refine vc_triv | refine vc_later ?_ | refine vc_caseT ?_ | refine vc_caseF ?_ | refine vc_cons ?_ | refine vc_nil ?_ ?_ | refine vc_seq ?_
              | refine vc_region ?_ | refine vc_cond ?_ | refine vc_block ?_ | refine vc_retc ?_ | refine vc_exit ?_ | refine vc_skip ?_ | refine vc_scope ?_ | refine vc_label ?_ | refine vc_goto ?_ | refine vc_wkSl0
              | refine vc_wkHp0 | refine vc_eqAVs0 | refine vc_preG0 | refine vc_wkSl ?_ ?_ | refine vc_wkHp ?_ ?_ | refine vc_eqAVs ?_ ?_ | refine vc_preG ?_ ?_ | refine vc_side0 ?_ | refine vc_pure e1 ?_ ?_ ?_
              | refine vc_pure e2 ?_ ?_ ?_ | refine vc_pure e4 ?_ ?_ ?_ | refine vc_pure (c1 (by assumption)) ?_ ?_ ?_ | refine vc_pure (c2 (by assumption)) ?_ ?_ ?_ | refine vc_pure (c3 (by omega)) ?_ ?_ ?_
              | refine vc_pure (c4 (by assumption)) ?_ ?_ ?_ | refine vc_pure (d1 (by assumption)) ?_ ?_ ?_ | refine vc_pure (d2 (by assumption) (.inl (by assumption))) ?_ ?_ ?_
              | refine vc_pure (d2 (by assumption) (.inr ⟨by assumption, bz _ (by assumption)⟩)) ?_ ?_ ?_ | refine vc_pure (d3 (by omega)) ?_ ?_ ?_ | refine vc_pure (d4 (by assumption)) ?_ ?_ ?_ | refine vc_pure s1 ?_ ?_ ?_
              | refine vc_pure s2 ?_ ?_ ?_ | refine vc_pure s3 ?_ ?_ ?_ | refine vc_pure s4 ?_ ?_ ?_ | refine vc_pure works_ok ?_ ?_ ?_ | refine vc_weakf [] ?_ ?_ ?_ | refine vc_and ?_ ?_ | refine vc_ret [] [] ?_)
      | ((with_reducible first | refine vc_caseD (fun h => ?_) (fun h => ?_) | refine vc_caseN (fun h => ?_) (fun h => ?_)) <;> try (exfalso; omega))
      | ((with_reducible refine vc_case (fun h => ?_) (fun h => ?_)) <;> (try simp only [Bool.cond_true_left, Bool.cond_false_right, Bool.cond_true_right, Bool.cond_false_left, Bool.and_eq_true, Bool.or_eq_true, Bool.and_eq_false_iff, Bool.or_eq_false_iff, Bool.not_eq_true', Bool.not_eq_false', Bool.not_eq_true, Bool.not_eq_false, Bool.not_not, decide_eq_true_eq, decide_eq_false_iff_not, beq_iff_eq, beq_eq_false_iff_ne, bne_iff_ne, bne_eq_false_iff_eq, ne_eq, Classical.not_not, reduceCtorEq, false_or, or_false, true_and, and_true, Bool.false_eq_true, Bool.true_eq_false] at h) <;> try (exfalso; first | omega | (simp at h; done)))
      | (conv in Vc _ => arg 1; whnf
         first
          | (with_reducible refine vc_side0 ?_; rfl)
          | (with_reducible first
              | refine vc_true ?_ | refine vc_true2 ?_ | refine vc_side ?_ ?_ | refine vc_triv | refine vc_later ?_ | refine vc_caseT ?_ | refine vc_caseF ?_ | refine vc_cons ?_ | refine vc_nil ?_ ?_ | refine vc_seq ?_
                 | refine vc_region ?_ | refine vc_cond ?_ | refine vc_block ?_ | refine vc_retc ?_ | refine vc_exit ?_ | refine vc_skip ?_ | refine vc_scope ?_ | refine vc_label ?_ | refine vc_goto ?_ | refine vc_wkSl0
                 | refine vc_wkHp0 | refine vc_eqAVs0 | refine vc_preG0 | refine vc_wkSl ?_ ?_ | refine vc_wkHp ?_ ?_ | refine vc_eqAVs ?_ ?_ | refine vc_preG ?_ ?_ | refine vc_side0 ?_ | refine vc_pure e1 ?_ ?_ ?_
                 | refine vc_pure e2 ?_ ?_ ?_ | refine vc_pure e4 ?_ ?_ ?_ | refine vc_pure (c1 (by assumption)) ?_ ?_ ?_ | refine vc_pure (c2 (by assumption)) ?_ ?_ ?_ | refine vc_pure (c3 (by omega)) ?_ ?_ ?_
                 | refine vc_pure (c4 (by assumption)) ?_ ?_ ?_ | refine vc_pure (d1 (by assumption)) ?_ ?_ ?_ | refine vc_pure (d2 (by assumption) (.inl (by assumption))) ?_ ?_ ?_
                 | refine vc_pure (d2 (by assumption) (.inr ⟨by assumption, bz _ (by assumption)⟩)) ?_ ?_ ?_ | refine vc_pure (d3 (by omega)) ?_ ?_ ?_ | refine vc_pure (d4 (by assumption)) ?_ ?_ ?_ | refine vc_pure s1 ?_ ?_ ?_
                 | refine vc_pure s2 ?_ ?_ ?_ | refine vc_pure s3 ?_ ?_ ?_ | refine vc_pure s4 ?_ ?_ ?_ | refine vc_pure works_ok ?_ ?_ ?_ | refine vc_weakf [] ?_ ?_ ?_ | refine vc_and ?_ ?_ | refine vc_ret [] [] ?_)
          | ((with_reducible first | refine vc_caseD (fun h => ?_) (fun h => ?_) | refine vc_caseN (fun h => ?_) (fun h => ?_)) <;> try (exfalso; omega))
          | ((with_reducible refine vc_case (fun h => ?_) (fun h => ?_)) <;> (try simp only [Bool.cond_true_left, Bool.cond_false_right, Bool.cond_true_right, Bool.cond_false_left, Bool.and_eq_true, Bool.or_eq_true, Bool.and_eq_false_iff, Bool.or_eq_false_iff, Bool.not_eq_true', Bool.not_eq_false', Bool.not_eq_true, Bool.not_eq_false, Bool.not_not, decide_eq_true_eq, decide_eq_false_iff_not, beq_iff_eq, beq_eq_false_iff_ne, bne_iff_ne, bne_eq_false_iff_eq, ne_eq, Classical.not_not, reduceCtorEq, false_or, or_false, true_and, and_true, Bool.false_eq_true, Bool.true_eq_false] at h) <;> try (exfalso; first | omega | (simp at h; done)))))
  all_goals first
    | rfl
    | exact ⟨trivial, trivial, trivial⟩
    | exact ⟨fits_dig 6 _, fits_dig 6 zero32⟩
    | (exfalso; simp at h; done)
    | skip

end Go.Proofs.Ytogncghpngmjpaa
