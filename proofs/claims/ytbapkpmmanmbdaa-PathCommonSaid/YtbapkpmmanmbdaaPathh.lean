/-
The law PathCommon.
-/
import Derived.Test.YtbapkpmmanmbdaaPathf
namespace Go.Proofs.Ytbapkpmmanmbdaa
open Go.Sym
set_option maxRecDepth 10000
set_option maxHeartbeats 1000000

theorem pathCommon_main (a b : List UInt8) (ha : a.length = 32) (hb : b.length = 32) (n : Int) : LocalCall Try.prog 6 [.d (.arr 32 1 (a.map byteD)), .d (.arr 32 1 (b.map byteD)), .d (.int .i64 n)] [] [] (one [.d (.bool true)]) [] := by
  refine vc_fn mixed Try.func6 rfl rfl [] (vc_chk rfl) ?_
  repeat' (first
      | ((with_reducible refine vc_chk ?_); first | decide +kernel | rfl)
      | (with_reducible refine vc_side0 ?_; rfl)
      | (with_reducible first
           | refine vc_pure (common_ok _ _ a b rfl rfl ha hb) ?_ ?_ ?_ | refine vc_pure (common_ok _ _ b a rfl rfl hb ha) ?_ ?_ ?_ | refine vc_pure (rCommon_ok _ _ a b rfl rfl ha hb) ?_ ?_ ?_
              | refine vc_pure (cut_ok _ a rfl ha _) ?_ ?_ ?_ | refine vc_pure (rCut_ok _ a rfl ha _) ?_ ?_ ?_ | refine vc_pure (under_ok _ _ a b rfl rfl ha hb _) ?_ ?_ ?_
              | refine vc_pure (rUnder_ok _ _ a b rfl rfl ha hb _) ?_ ?_ ?_ | refine vc_pure (less_ok _ _ a b rfl rfl ha hb) ?_ ?_ ?_ | refine vc_pure (rLess_ok _ _ a b rfl rfl ha hb) ?_ ?_ ?_ | refine vc_pure works_ok ?_ ?_ ?_
              | refine vc_true ?_ | refine vc_true2 ?_ | refine vc_side ?_ ?_ | refine vc_triv | refine vc_later ?_ | refine vc_caseT ?_ | refine vc_caseF ?_ | refine vc_cons ?_ | refine vc_nil ?_ ?_ | refine vc_seq ?_
              | refine vc_region ?_ | refine vc_cond ?_ | refine vc_block ?_ | refine vc_retc ?_ | refine vc_exit ?_ | refine vc_skip ?_ | refine vc_scope ?_ | refine vc_label ?_ | refine vc_goto ?_ | refine vc_wkSl0
              | refine vc_wkHp0 | refine vc_eqAVs0 | refine vc_preG0 | refine vc_wkSl ?_ ?_ | refine vc_wkHp ?_ ?_ | refine vc_eqAVs ?_ ?_ | refine vc_preG ?_ ?_ | refine vc_ret [] [] ?_ | refine vc_weakf [] ?_ ?_ ?_
              | refine vc_side0 ?_ | refine vc_and ?_ ?_)
      | ((with_reducible first | refine vc_caseD (fun h => ?_) (fun h => ?_) | refine vc_caseN (fun h => ?_) (fun h => ?_)) <;> try (exfalso; omega))
      | ((with_reducible refine vc_case (fun h => ?_) (fun h => ?_)) <;> (try simp at h) <;> try (exfalso; omega))
      | (conv in Vc _ => arg 1; whnf
         first
          | (with_reducible refine vc_side0 ?_; rfl)
          | (with_reducible first
              | refine vc_pure (common_ok _ _ a b rfl rfl ha hb) ?_ ?_ ?_ | refine vc_pure (common_ok _ _ b a rfl rfl hb ha) ?_ ?_ ?_ | refine vc_pure (rCommon_ok _ _ a b rfl rfl ha hb) ?_ ?_ ?_
                 | refine vc_pure (cut_ok _ a rfl ha _) ?_ ?_ ?_ | refine vc_pure (rCut_ok _ a rfl ha _) ?_ ?_ ?_ | refine vc_pure (under_ok _ _ a b rfl rfl ha hb _) ?_ ?_ ?_
                 | refine vc_pure (rUnder_ok _ _ a b rfl rfl ha hb _) ?_ ?_ ?_ | refine vc_pure (less_ok _ _ a b rfl rfl ha hb) ?_ ?_ ?_ | refine vc_pure (rLess_ok _ _ a b rfl rfl ha hb) ?_ ?_ ?_ | refine vc_pure works_ok ?_ ?_ ?_
                 | refine vc_true ?_ | refine vc_true2 ?_ | refine vc_side ?_ ?_ | refine vc_triv | refine vc_later ?_ | refine vc_caseT ?_ | refine vc_caseF ?_ | refine vc_cons ?_ | refine vc_nil ?_ ?_ | refine vc_seq ?_
                 | refine vc_region ?_ | refine vc_cond ?_ | refine vc_block ?_ | refine vc_retc ?_ | refine vc_exit ?_ | refine vc_skip ?_ | refine vc_scope ?_ | refine vc_label ?_ | refine vc_goto ?_ | refine vc_wkSl0
                 | refine vc_wkHp0 | refine vc_eqAVs0 | refine vc_preG0 | refine vc_wkSl ?_ ?_ | refine vc_wkHp ?_ ?_ | refine vc_eqAVs ?_ ?_ | refine vc_preG ?_ ?_ | refine vc_ret [] [] ?_ | refine vc_weakf [] ?_ ?_ ?_
                 | refine vc_side0 ?_ | refine vc_and ?_ ?_)
          | ((with_reducible first | refine vc_caseD (fun h => ?_) (fun h => ?_) | refine vc_caseN (fun h => ?_) (fun h => ?_)) <;> try (exfalso; omega))
          | ((with_reducible refine vc_case (fun h => ?_) (fun h => ?_)) <;> (try simp at h) <;> try (exfalso; omega))))
  all_goals first
    | exact ⟨fits_dig 6 _, fits_dig 6 _⟩
    | rfl
    | (exfalso; simp only [beq_dig, decide_true] at h; cases h)
    | (exfalso; exact h rfl)
    | (exfalso; apply h; rw [common_comm])

end Go.Proofs.Ytbapkpmmanmbdaa
