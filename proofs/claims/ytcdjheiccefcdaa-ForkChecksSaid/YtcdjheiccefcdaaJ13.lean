import Derived.Test.YtcdjheiccefcdaaJ12
set_option linter.unusedSimpArgs false
set_option linter.unusedVariables false
/-
The guards of the laws of evidence, and what the laws of checks, turns and ways back return.
-/
set_option linter.unusedSimpArgs false
set_option linter.unusedVariables false
namespace Go.Proofs.Ytcdjheiccefcdaa
open Go.Sym
set_option maxRecDepth 10000
set_option maxHeartbeats 4000000

theorem few12_ok (l : List Sgn) : LocalCall Try.prog 24 [.d (.sl (l.map sD))] [] [] (one [.d (.bool (fewB l))]) [] := by
  have lm : (l.map sD).length = l.length := List.length_map _
  refine vc_fn mixed Try.func24 rfl rfl [] (vc_chk rfl) ?_
  repeat' (first
      | ((with_reducible refine vc_chk ?_); first | decide +kernel | rfl)
      | (with_reducible refine vc_side0 ?_; rfl)
      | (with_reducible first
           | refine vc_true ?_ | refine vc_true2 ?_ | refine vc_side ?_ ?_ | refine vc_triv | refine vc_later ?_ | refine vc_caseT ?_ | refine vc_caseF ?_ | refine vc_cons ?_ | refine vc_nil ?_ ?_ | refine vc_seq ?_
              | refine vc_region ?_ | refine vc_cond ?_ | refine vc_block ?_ | refine vc_retc ?_ | refine vc_exit ?_ | refine vc_skip ?_ | refine vc_scope ?_ | refine vc_label ?_ | refine vc_goto ?_ | refine vc_wkSl0
              | refine vc_wkHp0 | refine vc_eqAVs0 | refine vc_preG0 | refine vc_wkSl ?_ ?_ | refine vc_wkHp ?_ ?_ | refine vc_eqAVs ?_ ?_ | refine vc_preG ?_ ?_ | refine vc_side0 ?_
              | refine vc_loopI 28 (fun (x : Int × Nat) => [(0, .d (.sl (l.map sD))), (3, .d (.int .i64 x.1)), (4, .d (.int .i64 (x.2 : Int)))]) (fun _ => []) (fun x => l.length - x.2) (fun x => x.2 ≤ l.length ∧ sumW l 0 = sumW (l.drop x.2) x.1) (0, 0) [] ?_ ?_ ?_ ?_ ?_ (fun x hI => ?_)
              | refine vc_nextI (IntKind.i64.wrap (x.1 + ((l.getD x.2 s0).sig.length : Int)), x.2 + 1) [] ?_ ?_ ?_ ?_ ?_ ?_ | refine vc_weakf [] ?_ ?_ ?_ | refine vc_and ?_ ?_ | refine vc_ret [] [] ?_)
      | ((with_reducible first | refine vc_caseD (fun h => ?_) (fun h => ?_) | refine vc_caseN (fun h => ?_) (fun h => ?_)) <;> try (exfalso; omega))
      | ((with_reducible refine vc_case (fun h => ?_) (fun h => ?_)) <;> (try simp only [Go.Sym.vs1, reduceCtorEq] at h) <;> try (exfalso; first | omega | (simp at h; done)))
      | (conv in Vc _ => arg 1; whnf
         first
          | (with_reducible refine vc_side0 ?_; rfl)
          | (with_reducible first
              | refine vc_true ?_ | refine vc_true2 ?_ | refine vc_side ?_ ?_ | refine vc_triv | refine vc_later ?_ | refine vc_caseT ?_ | refine vc_caseF ?_ | refine vc_cons ?_ | refine vc_nil ?_ ?_ | refine vc_seq ?_
                 | refine vc_region ?_ | refine vc_cond ?_ | refine vc_block ?_ | refine vc_retc ?_ | refine vc_exit ?_ | refine vc_skip ?_ | refine vc_scope ?_ | refine vc_label ?_ | refine vc_goto ?_ | refine vc_wkSl0
                 | refine vc_wkHp0 | refine vc_eqAVs0 | refine vc_preG0 | refine vc_wkSl ?_ ?_ | refine vc_wkHp ?_ ?_ | refine vc_eqAVs ?_ ?_ | refine vc_preG ?_ ?_ | refine vc_side0 ?_
                 | refine vc_loopI 28 (fun (x : Int × Nat) => [(0, .d (.sl (l.map sD))), (3, .d (.int .i64 x.1)), (4, .d (.int .i64 (x.2 : Int)))]) (fun _ => []) (fun x => l.length - x.2) (fun x => x.2 ≤ l.length ∧ sumW l 0 = sumW (l.drop x.2) x.1) (0, 0) [] ?_ ?_ ?_ ?_ ?_ (fun x hI => ?_)
                 | refine vc_nextI (IntKind.i64.wrap (x.1 + ((l.getD x.2 s0).sig.length : Int)), x.2 + 1) [] ?_ ?_ ?_ ?_ ?_ ?_ | refine vc_weakf [] ?_ ?_ ?_ | refine vc_and ?_ ?_ | refine vc_ret [] [] ?_)
          | ((with_reducible first | refine vc_caseD (fun h => ?_) (fun h => ?_) | refine vc_caseN (fun h => ?_) (fun h => ?_)) <;> try (exfalso; omega))
          | ((with_reducible refine vc_case (fun h => ?_) (fun h => ?_)) <;> (try simp only [Go.Sym.vs1, reduceCtorEq] at h) <;> try (exfalso; first | omega | (simp at h; done)))))
  all_goals first
    | with_reducible rfl
    | (unfold fewB; rw [decide_eq_true (show (l.length : Int) > 40 by omega)]; rfl)
    | exact ⟨Nat.zero_le _, rfl⟩
    | exact ⟨⟨by omega, by omega⟩, by rw [Int.toNat_natCast, sgn_at (by omega)]; rfl⟩
    | exact ⟨by show x.2 + 1 ≤ l.length; omega, hI.2.trans (sumW_step (by omega) h)⟩
    | (show l.length - (x.2 + 1) < l.length - x.2; omega)
    | (simp only [Int.toNat_natCast, sgn_at (show x.2 < l.length by omega)]; show D.int .i64 (IntKind.i64.wrap (x.1 + (((l.getD x.2 s0).sig.map byteD).length : Int))) = _; rw [List.length_map]; done)
    | (rw [wrap64_id (by omega) (by omega)]; rfl)
    | (unfold fewB; rw [decide_eq_false (show ¬ (l.length : Int) > 40 by omega), cond_false, hI.2, sumW_stop (.inl h)]; done)
    | (unfold fewB; rw [decide_eq_false (show ¬ (l.length : Int) > 40 by omega), cond_false, hI.2, sumW_stop (.inr (by omega))]; done)
    | rfl
    | trace_state

def lightB (e : Evd) : Bool := fewB e.trunk && fewB [e.a, e.b]
theorem light12_ok (e : Evd) : LocalCall Try.prog 9 [.d (eD e)] [] [] (one [.d (.bool (lightB e))]) [] := by
  have c1 := few12_ok e.trunk
  have c2 := few12_ok [e.a, e.b]
  unfold lightB
  refine vc_fn mixed Try.func9 rfl rfl [] (vc_chk rfl) ?_
  cases h1 : fewB e.trunk <;> rw [h1] at c1
  · skip
    repeat' (first
        | ((with_reducible refine vc_chk ?_); first | decide +kernel | rfl)
        | (with_reducible refine vc_side0 ?_; rfl)
        | (with_reducible first
             | refine vc_true ?_ | refine vc_true2 ?_ | refine vc_side ?_ ?_ | refine vc_triv | refine vc_later ?_ | refine vc_caseT ?_ | refine vc_caseF ?_ | refine vc_cons ?_ | refine vc_nil ?_ ?_ | refine vc_seq ?_
                | refine vc_region ?_ | refine vc_cond ?_ | refine vc_block ?_ | refine vc_retc ?_ | refine vc_exit ?_ | refine vc_skip ?_ | refine vc_scope ?_ | refine vc_label ?_ | refine vc_goto ?_ | refine vc_wkSl0
                | refine vc_wkHp0 | refine vc_eqAVs0 | refine vc_preG0 | refine vc_wkSl ?_ ?_ | refine vc_wkHp ?_ ?_ | refine vc_eqAVs ?_ ?_ | refine vc_preG ?_ ?_ | refine vc_side0 ?_ | refine vc_pure c1 ?_ ?_ ?_
                | refine vc_weakf [] ?_ ?_ ?_ | refine vc_and ?_ ?_ | refine vc_ret [] [] ?_)
        | ((with_reducible first | refine vc_caseD (fun h => ?_) (fun h => ?_) | refine vc_caseN (fun h => ?_) (fun h => ?_)) <;> try (exfalso; omega))
        | ((with_reducible refine vc_case (fun h => ?_) (fun h => ?_)) <;> (try simp only [Go.Sym.vs1, reduceCtorEq] at h) <;> try (exfalso; first | omega | (simp at h; done)))
        | (conv in Vc _ => arg 1; whnf
           first
            | (with_reducible refine vc_side0 ?_; rfl)
            | (with_reducible first
                | refine vc_true ?_ | refine vc_true2 ?_ | refine vc_side ?_ ?_ | refine vc_triv | refine vc_later ?_ | refine vc_caseT ?_ | refine vc_caseF ?_ | refine vc_cons ?_ | refine vc_nil ?_ ?_ | refine vc_seq ?_
                   | refine vc_region ?_ | refine vc_cond ?_ | refine vc_block ?_ | refine vc_retc ?_ | refine vc_exit ?_ | refine vc_skip ?_ | refine vc_scope ?_ | refine vc_label ?_ | refine vc_goto ?_ | refine vc_wkSl0
                   | refine vc_wkHp0 | refine vc_eqAVs0 | refine vc_preG0 | refine vc_wkSl ?_ ?_ | refine vc_wkHp ?_ ?_ | refine vc_eqAVs ?_ ?_ | refine vc_preG ?_ ?_ | refine vc_side0 ?_ | refine vc_pure c1 ?_ ?_ ?_
                   | refine vc_weakf [] ?_ ?_ ?_ | refine vc_and ?_ ?_ | refine vc_ret [] [] ?_)
            | ((with_reducible first | refine vc_caseD (fun h => ?_) (fun h => ?_) | refine vc_caseN (fun h => ?_) (fun h => ?_)) <;> try (exfalso; omega))
            | ((with_reducible refine vc_case (fun h => ?_) (fun h => ?_)) <;> (try simp only [Go.Sym.vs1, reduceCtorEq] at h) <;> try (exfalso; first | omega | (simp at h; done)))))
    all_goals first
      | with_reducible rfl
      | omega
      | exact ⟨trivial, trivial⟩
      | exact ⟨trivial, trivial, trivial⟩
      | exact ⟨trivial, trivial, trivial, trivial⟩
      | exact ⟨⟨by decide, by decide, by decide⟩, trivial⟩
      | exact ⟨Nat.le_of_eq (Nat.zero_add _), trivial⟩
      | exact ⟨Nat.le_refl _, trivial, trivial⟩
      | (rw [wrap64_id (by omega) (by omega)]; rfl)
      | rfl
      | (exfalso; simp at h; done)
      | skip
  · skip
    repeat' (first
        | ((with_reducible refine vc_chk ?_); first | decide +kernel | rfl)
        | (with_reducible refine vc_side0 ?_; rfl)
        | (with_reducible first
             | refine vc_true ?_ | refine vc_true2 ?_ | refine vc_side ?_ ?_ | refine vc_triv | refine vc_later ?_ | refine vc_caseT ?_ | refine vc_caseF ?_ | refine vc_cons ?_ | refine vc_nil ?_ ?_ | refine vc_seq ?_
                | refine vc_region ?_ | refine vc_cond ?_ | refine vc_block ?_ | refine vc_retc ?_ | refine vc_exit ?_ | refine vc_skip ?_ | refine vc_scope ?_ | refine vc_label ?_ | refine vc_goto ?_ | refine vc_wkSl0
                | refine vc_wkHp0 | refine vc_eqAVs0 | refine vc_preG0 | refine vc_wkSl ?_ ?_ | refine vc_wkHp ?_ ?_ | refine vc_eqAVs ?_ ?_ | refine vc_preG ?_ ?_ | refine vc_side0 ?_ | refine vc_pure c1 ?_ ?_ ?_
                | refine vc_call [true] c2 ?_ | refine vc_weakf [] ?_ ?_ ?_ | refine vc_and ?_ ?_ | refine vc_ret [] [] ?_)
        | ((with_reducible first | refine vc_caseD (fun h => ?_) (fun h => ?_) | refine vc_caseN (fun h => ?_) (fun h => ?_)) <;> try (exfalso; omega))
        | ((with_reducible refine vc_case (fun h => ?_) (fun h => ?_)) <;> (try simp only [Go.Sym.vs1, reduceCtorEq] at h) <;> try (exfalso; first | omega | (simp at h; done)))
        | (conv in Vc _ => arg 1; whnf
           first
            | (with_reducible refine vc_side0 ?_; rfl)
            | (with_reducible first
                | refine vc_true ?_ | refine vc_true2 ?_ | refine vc_side ?_ ?_ | refine vc_triv | refine vc_later ?_ | refine vc_caseT ?_ | refine vc_caseF ?_ | refine vc_cons ?_ | refine vc_nil ?_ ?_ | refine vc_seq ?_
                   | refine vc_region ?_ | refine vc_cond ?_ | refine vc_block ?_ | refine vc_retc ?_ | refine vc_exit ?_ | refine vc_skip ?_ | refine vc_scope ?_ | refine vc_label ?_ | refine vc_goto ?_ | refine vc_wkSl0
                   | refine vc_wkHp0 | refine vc_eqAVs0 | refine vc_preG0 | refine vc_wkSl ?_ ?_ | refine vc_wkHp ?_ ?_ | refine vc_eqAVs ?_ ?_ | refine vc_preG ?_ ?_ | refine vc_side0 ?_ | refine vc_pure c1 ?_ ?_ ?_
                   | refine vc_call [true] c2 ?_ | refine vc_weakf [] ?_ ?_ ?_ | refine vc_and ?_ ?_ | refine vc_ret [] [] ?_)
            | ((with_reducible first | refine vc_caseD (fun h => ?_) (fun h => ?_) | refine vc_caseN (fun h => ?_) (fun h => ?_)) <;> try (exfalso; omega))
            | ((with_reducible refine vc_case (fun h => ?_) (fun h => ?_)) <;> (try simp only [Go.Sym.vs1, reduceCtorEq] at h) <;> try (exfalso; first | omega | (simp at h; done)))))
    all_goals first
      | with_reducible rfl
      | omega
      | exact ⟨trivial, trivial⟩
      | exact ⟨trivial, trivial, trivial⟩
      | exact ⟨trivial, trivial, trivial, trivial⟩
      | exact ⟨⟨by decide, by decide, by decide⟩, trivial⟩
      | exact ⟨Nat.le_of_eq (Nat.zero_add _), trivial⟩
      | exact ⟨Nat.le_refl _, trivial, trivial⟩
      | (rw [wrap64_id (by omega) (by omega)]; rfl)
      | exact ⟨by decide, rfl⟩
      | exact ⟨Nat.le_of_eq (Nat.zero_add _), trivial⟩
      | rfl
      | (exfalso; simp at h; done)
      | skip
    all_goals trace_state
theorem light_len {e : Evd} (h : lightB e = true) : e.trunk.length ≤ 40 := by
  unfold lightB at h
  simp only [Bool.and_eq_true] at h
  exact fewB_le h.1

theorem read_nil : rdE [] = none := by decide +kernel
theorem chk_e0 : chkE zero32 e0 = 15 := chkE_no fun h => (okE_iff.1 h).2.2.2 rfl

theorem works12_ok : LocalCall Try.prog 10 [] [] [] (one [.d (.bool true)]) [] := by
  have w0 : fitL (evL e0) := fun s hs => by
    simp only [evL, e0, List.nil_append, List.mem_cons, List.not_mem_nil, or_false, or_self] at hs
    subst hs; exact ⟨wfS_0, by decide⟩
  have b0 : rdE (evB e0) = some e0 := rdE_back wf_e0 (by decide) (fun s hs => by
    simp only [evL, e0, List.nil_append, List.mem_cons, List.not_mem_nil, or_false, or_self] at hs
    subst hs; decide)
  have c0 : LocalCall Try.prog 14 [.d .nils] [] [] (one [.d (eD e0), .d (.int .i64 3)]) [] := local_dna (eread_out [] (by decide) read_nil)
  have c1 : LocalCall Try.prog 13 [.d evZ] [] [] (one [.d (.sl ((evB e0).map byteD))]) [] := local_dna (ebytes_ok e0 w0 (by decide))
  have c2 := eread_some (evB e0) (evB_len w0 (by decide)) e0 b0
  have c3 := echeck_ok zero32 rfl e0 wf_e0 (by decide)
  rw [chk_e0] at c3
  refine vc_fn mixed Try.func10 rfl rfl [] (vc_chk rfl) ?_
  repeat' (first
      | ((with_reducible refine vc_chk ?_); first | decide +kernel | rfl)
      | (with_reducible refine vc_side0 ?_; rfl)
      | (with_reducible first
           | refine vc_true ?_ | refine vc_true2 ?_ | refine vc_side ?_ ?_ | refine vc_triv | refine vc_later ?_ | refine vc_caseT ?_ | refine vc_caseF ?_ | refine vc_cons ?_ | refine vc_nil ?_ ?_ | refine vc_seq ?_
              | refine vc_region ?_ | refine vc_cond ?_ | refine vc_block ?_ | refine vc_retc ?_ | refine vc_exit ?_ | refine vc_skip ?_ | refine vc_scope ?_ | refine vc_label ?_ | refine vc_goto ?_ | refine vc_wkSl0
              | refine vc_wkHp0 | refine vc_eqAVs0 | refine vc_preG0 | refine vc_wkSl ?_ ?_ | refine vc_wkHp ?_ ?_ | refine vc_eqAVs ?_ ?_ | refine vc_preG ?_ ?_ | refine vc_side0 ?_ | refine vc_call [] c0 ?_
              | refine vc_weakf [] ?_ ?_ ?_ | refine vc_and ?_ ?_ | refine vc_ret [] [] ?_)
      | ((with_reducible first | refine vc_caseD (fun h => ?_) (fun h => ?_) | refine vc_caseN (fun h => ?_) (fun h => ?_)) <;> try (exfalso; omega))
      | ((with_reducible refine vc_case (fun h => ?_) (fun h => ?_)) <;> (try simp only [Go.Sym.vs1, reduceCtorEq] at h) <;> try (exfalso; first | omega | (simp at h; done)))
      | (conv in Vc _ => arg 1; whnf
         first
          | (with_reducible refine vc_side0 ?_; rfl)
          | (with_reducible first
              | refine vc_true ?_ | refine vc_true2 ?_ | refine vc_side ?_ ?_ | refine vc_triv | refine vc_later ?_ | refine vc_caseT ?_ | refine vc_caseF ?_ | refine vc_cons ?_ | refine vc_nil ?_ ?_ | refine vc_seq ?_
                 | refine vc_region ?_ | refine vc_cond ?_ | refine vc_block ?_ | refine vc_retc ?_ | refine vc_exit ?_ | refine vc_skip ?_ | refine vc_scope ?_ | refine vc_label ?_ | refine vc_goto ?_ | refine vc_wkSl0
                 | refine vc_wkHp0 | refine vc_eqAVs0 | refine vc_preG0 | refine vc_wkSl ?_ ?_ | refine vc_wkHp ?_ ?_ | refine vc_eqAVs ?_ ?_ | refine vc_preG ?_ ?_ | refine vc_side0 ?_ | refine vc_call [] c0 ?_
                 | refine vc_weakf [] ?_ ?_ ?_ | refine vc_and ?_ ?_ | refine vc_ret [] [] ?_)
          | ((with_reducible first | refine vc_caseD (fun h => ?_) (fun h => ?_) | refine vc_caseN (fun h => ?_) (fun h => ?_)) <;> try (exfalso; omega))
          | ((with_reducible refine vc_case (fun h => ?_) (fun h => ?_)) <;> (try simp only [Go.Sym.vs1, reduceCtorEq] at h) <;> try (exfalso; first | omega | (simp at h; done)))))
  any_goals (conv in Vc _ => arg 1; whnf)
  any_goals (refine vc_call [] c1 ?_)
  repeat' (first
      | ((with_reducible refine vc_chk ?_); first | decide +kernel | rfl)
      | (with_reducible refine vc_side0 ?_; rfl)
      | (with_reducible first
           | refine vc_true ?_ | refine vc_true2 ?_ | refine vc_side ?_ ?_ | refine vc_triv | refine vc_later ?_ | refine vc_caseT ?_ | refine vc_caseF ?_ | refine vc_cons ?_ | refine vc_nil ?_ ?_ | refine vc_seq ?_
              | refine vc_region ?_ | refine vc_cond ?_ | refine vc_block ?_ | refine vc_retc ?_ | refine vc_exit ?_ | refine vc_skip ?_ | refine vc_scope ?_ | refine vc_label ?_ | refine vc_goto ?_ | refine vc_wkSl0
              | refine vc_wkHp0 | refine vc_eqAVs0 | refine vc_preG0 | refine vc_wkSl ?_ ?_ | refine vc_wkHp ?_ ?_ | refine vc_eqAVs ?_ ?_ | refine vc_preG ?_ ?_ | refine vc_side0 ?_ | refine vc_weakf [] ?_ ?_ ?_
              | refine vc_and ?_ ?_ | refine vc_ret [] [] ?_)
      | ((with_reducible first | refine vc_caseD (fun h => ?_) (fun h => ?_) | refine vc_caseN (fun h => ?_) (fun h => ?_)) <;> try (exfalso; omega))
      | ((with_reducible refine vc_case (fun h => ?_) (fun h => ?_)) <;> (try simp only [Go.Sym.vs1, reduceCtorEq] at h) <;> try (exfalso; first | omega | (simp at h; done)))
      | (conv in Vc _ => arg 1; whnf
         first
          | (with_reducible refine vc_side0 ?_; rfl)
          | (with_reducible first
              | refine vc_true ?_ | refine vc_true2 ?_ | refine vc_side ?_ ?_ | refine vc_triv | refine vc_later ?_ | refine vc_caseT ?_ | refine vc_caseF ?_ | refine vc_cons ?_ | refine vc_nil ?_ ?_ | refine vc_seq ?_
                 | refine vc_region ?_ | refine vc_cond ?_ | refine vc_block ?_ | refine vc_retc ?_ | refine vc_exit ?_ | refine vc_skip ?_ | refine vc_scope ?_ | refine vc_label ?_ | refine vc_goto ?_ | refine vc_wkSl0
                 | refine vc_wkHp0 | refine vc_eqAVs0 | refine vc_preG0 | refine vc_wkSl ?_ ?_ | refine vc_wkHp ?_ ?_ | refine vc_eqAVs ?_ ?_ | refine vc_preG ?_ ?_ | refine vc_side0 ?_ | refine vc_weakf [] ?_ ?_ ?_
                 | refine vc_and ?_ ?_ | refine vc_ret [] [] ?_)
          | ((with_reducible first | refine vc_caseD (fun h => ?_) (fun h => ?_) | refine vc_caseN (fun h => ?_) (fun h => ?_)) <;> try (exfalso; omega))
          | ((with_reducible refine vc_case (fun h => ?_) (fun h => ?_)) <;> (try simp only [Go.Sym.vs1, reduceCtorEq] at h) <;> try (exfalso; first | omega | (simp at h; done)))))
  any_goals (conv in Vc _ => arg 1; whnf)
  any_goals (refine vc_call [] c2 ?_)
  repeat' (first
      | ((with_reducible refine vc_chk ?_); first | decide +kernel | rfl)
      | (with_reducible refine vc_side0 ?_; rfl)
      | (with_reducible first
           | refine vc_true ?_ | refine vc_true2 ?_ | refine vc_side ?_ ?_ | refine vc_triv | refine vc_later ?_ | refine vc_caseT ?_ | refine vc_caseF ?_ | refine vc_cons ?_ | refine vc_nil ?_ ?_ | refine vc_seq ?_
              | refine vc_region ?_ | refine vc_cond ?_ | refine vc_block ?_ | refine vc_retc ?_ | refine vc_exit ?_ | refine vc_skip ?_ | refine vc_scope ?_ | refine vc_label ?_ | refine vc_goto ?_ | refine vc_wkSl0
              | refine vc_wkHp0 | refine vc_eqAVs0 | refine vc_preG0 | refine vc_wkSl ?_ ?_ | refine vc_wkHp ?_ ?_ | refine vc_eqAVs ?_ ?_ | refine vc_preG ?_ ?_ | refine vc_side0 ?_ | refine vc_call [] c3 ?_
              | refine vc_weakf [] ?_ ?_ ?_ | refine vc_and ?_ ?_ | refine vc_ret [] [] ?_)
      | ((with_reducible first | refine vc_caseD (fun h => ?_) (fun h => ?_) | refine vc_caseN (fun h => ?_) (fun h => ?_)) <;> try (exfalso; omega))
      | ((with_reducible refine vc_case (fun h => ?_) (fun h => ?_)) <;> (try simp only [Go.Sym.vs1, reduceCtorEq] at h) <;> try (exfalso; first | omega | (simp at h; done)))
      | (conv in Vc _ => arg 1; whnf
         first
          | (with_reducible refine vc_side0 ?_; rfl)
          | (with_reducible first
              | refine vc_true ?_ | refine vc_true2 ?_ | refine vc_side ?_ ?_ | refine vc_triv | refine vc_later ?_ | refine vc_caseT ?_ | refine vc_caseF ?_ | refine vc_cons ?_ | refine vc_nil ?_ ?_ | refine vc_seq ?_
                 | refine vc_region ?_ | refine vc_cond ?_ | refine vc_block ?_ | refine vc_retc ?_ | refine vc_exit ?_ | refine vc_skip ?_ | refine vc_scope ?_ | refine vc_label ?_ | refine vc_goto ?_ | refine vc_wkSl0
                 | refine vc_wkHp0 | refine vc_eqAVs0 | refine vc_preG0 | refine vc_wkSl ?_ ?_ | refine vc_wkHp ?_ ?_ | refine vc_eqAVs ?_ ?_ | refine vc_preG ?_ ?_ | refine vc_side0 ?_ | refine vc_call [] c3 ?_
                 | refine vc_weakf [] ?_ ?_ ?_ | refine vc_and ?_ ?_ | refine vc_ret [] [] ?_)
          | ((with_reducible first | refine vc_caseD (fun h => ?_) (fun h => ?_) | refine vc_caseN (fun h => ?_) (fun h => ?_)) <;> try (exfalso; omega))
          | ((with_reducible refine vc_case (fun h => ?_) (fun h => ?_)) <;> (try simp only [Go.Sym.vs1, reduceCtorEq] at h) <;> try (exfalso; first | omega | (simp at h; done)))))
  all_goals first
    | with_reducible rfl
    | exact ⟨trivial, trivial, trivial⟩
    | exact absurd rfl h
    | rfl
    | trace_state

theorem cut1 (l : List Sgn) : cutD (l.map sD) 1 ((l.map sD).length : Int) = (l.drop 1).map sD := by
  show List.drop 1 (List.take ((l.map sD).length : Int).toNat _) = _
  rw [Int.toNat_natCast, List.take_length, List.map_drop]

section
variable (pin : List UInt8) (hp : pin.length = 32) (e : Evd) (hw : wfE e)
include hp hw
theorem forkChecks_main : LocalCall Try.prog 3 [.d (digD pin), .d (eD e)] [] [] (one [.d (.bool true)]) [] := by
  have c0 := light12_ok e
  have ll : lightB e = true → e.trunk.length < 2 ^ 63 := fun h => Nat.lt_of_le_of_lt (light_len h) (by decide)
  have c1 : lightB e = true → _ := fun h => echeck_ok pin hp e hw (ll h)
  have c2 : lightB e = true → _ := fun h => rEcheck_ok pin hp e hw (ll h)
  refine vc_fn mixed Try.func3 rfl rfl [] (vc_chk rfl) ?_
  repeat' (first
      | ((with_reducible refine vc_chk ?_); first | decide +kernel | rfl)
      | (with_reducible refine vc_side0 ?_; rfl)
      | (with_reducible first
           | refine vc_true ?_ | refine vc_true2 ?_ | refine vc_side ?_ ?_ | refine vc_triv | refine vc_later ?_ | refine vc_caseT ?_ | refine vc_caseF ?_ | refine vc_cons ?_ | refine vc_nil ?_ ?_ | refine vc_seq ?_
              | refine vc_region ?_ | refine vc_cond ?_ | refine vc_block ?_ | refine vc_retc ?_ | refine vc_exit ?_ | refine vc_skip ?_ | refine vc_scope ?_ | refine vc_label ?_ | refine vc_goto ?_ | refine vc_wkSl0
              | refine vc_wkHp0 | refine vc_eqAVs0 | refine vc_preG0 | refine vc_wkSl ?_ ?_ | refine vc_wkHp ?_ ?_ | refine vc_eqAVs ?_ ?_ | refine vc_preG ?_ ?_ | refine vc_side0 ?_ | refine vc_pure c0 ?_ ?_ ?_
              | refine vc_pure works12_ok ?_ ?_ ?_ | refine vc_pure (c1 (by assumption)) ?_ ?_ ?_ | refine vc_pure (c2 (by assumption)) ?_ ?_ ?_ | refine vc_weakf [] ?_ ?_ ?_ | refine vc_and ?_ ?_ | refine vc_ret [] [] ?_)
      | ((with_reducible first | refine vc_caseD (fun h => ?_) (fun h => ?_) | refine vc_caseN (fun h => ?_) (fun h => ?_)) <;> try (exfalso; omega))
      | ((with_reducible refine vc_case (fun h => ?_) (fun h => ?_)) <;> (try simp only [Go.Sym.vs1, reduceCtorEq] at h) <;> try (exfalso; first | omega | (simp at h; done)))
      | (conv in Vc _ => arg 1; whnf
         first
          | (with_reducible refine vc_side0 ?_; rfl)
          | (with_reducible first
              | refine vc_true ?_ | refine vc_true2 ?_ | refine vc_side ?_ ?_ | refine vc_triv | refine vc_later ?_ | refine vc_caseT ?_ | refine vc_caseF ?_ | refine vc_cons ?_ | refine vc_nil ?_ ?_ | refine vc_seq ?_
                 | refine vc_region ?_ | refine vc_cond ?_ | refine vc_block ?_ | refine vc_retc ?_ | refine vc_exit ?_ | refine vc_skip ?_ | refine vc_scope ?_ | refine vc_label ?_ | refine vc_goto ?_ | refine vc_wkSl0
                 | refine vc_wkHp0 | refine vc_eqAVs0 | refine vc_preG0 | refine vc_wkSl ?_ ?_ | refine vc_wkHp ?_ ?_ | refine vc_eqAVs ?_ ?_ | refine vc_preG ?_ ?_ | refine vc_side0 ?_ | refine vc_pure c0 ?_ ?_ ?_
                 | refine vc_pure works12_ok ?_ ?_ ?_ | refine vc_pure (c1 (by assumption)) ?_ ?_ ?_ | refine vc_pure (c2 (by assumption)) ?_ ?_ ?_ | refine vc_weakf [] ?_ ?_ ?_ | refine vc_and ?_ ?_ | refine vc_ret [] [] ?_)
          | ((with_reducible first | refine vc_caseD (fun h => ?_) (fun h => ?_) | refine vc_caseN (fun h => ?_) (fun h => ?_)) <;> try (exfalso; omega))
          | ((with_reducible refine vc_case (fun h => ?_) (fun h => ?_)) <;> (try simp only [Go.Sym.vs1, reduceCtorEq] at h) <;> try (exfalso; first | omega | (simp at h; done)))))
  all_goals first
    | with_reducible rfl
    | omega
    | exact ⟨trivial, trivial⟩
    | exact ⟨trivial, trivial, trivial⟩
    | exact ⟨trivial, trivial, trivial, trivial⟩
    | exact ⟨⟨by decide, by decide, by decide⟩, trivial⟩
    | exact ⟨Nat.le_of_eq (Nat.zero_add _), trivial⟩
    | exact ⟨Nat.le_refl _, trivial, trivial⟩
    | (rw [wrap64_id (by omega) (by omega)]; rfl)
    | exact absurd rfl h
    | rfl
    | (exfalso; simp at h; done)
    | skip
  all_goals trace_state

theorem forkTurned_main : LocalCall Try.prog 6 [.d (digD pin), .d (eD e)] [] [] (one [.d (.bool true)]) [] := by
  have c0 := light12_ok e
  have ll : lightB e = true → e.trunk.length < 2 ^ 63 := fun h => Nat.lt_of_le_of_lt (light_len h) (by decide)
  have c1 : lightB e = true → _ := fun h => echeck_ok pin hp e hw (ll h)
  have c2 : lightB e = true → _ := fun h => echeck_ok pin hp ⟨e.trunk, e.b, e.a⟩ ⟨hw.1, hw.3, hw.2⟩ (ll h)
  have c3 : lightB e = true → _ := fun h => echeck_ok pin hp ⟨e.trunk, e.a, e.a⟩ ⟨hw.1, hw.2, hw.2⟩ (ll h)
  have c4 : lightB e = true → _ := fun h => echeck_ok pin hp ⟨e.trunk.drop 1, e.a, e.b⟩ ⟨fun s hs => hw.1 s (List.mem_of_mem_drop hs), hw.2, hw.3⟩ (by show (e.trunk.drop 1).length < 2 ^ 63; rw [List.length_drop]; have := ll h; omega)
  have lm : (e.trunk.map sD).length = e.trunk.length := List.length_map _
  have e2 : chkE pin ⟨e.trunk, e.b, e.a⟩ = chkE pin e := by unfold chkE; rw [okE_turn]
  have e3 : chkE pin ⟨e.trunk, e.a, e.a⟩ = 15 := chkE_no (okE_twice _ _ _)
  have e4 : chkE pin e = 0 → ¬ e.trunk.length = 0 → chkE pin ⟨e.trunk.drop 1, e.a, e.b⟩ = 15 := fun h1 h2 => by
    obtain ⟨t, a, b⟩ := e
    cases t with
    | nil => exact absurd rfl h2
    | cons s l => exact chkE_no (okE_less (c := a) (chkE_ok h1))
  rw [e2] at c2
  rw [e3] at c3
  refine vc_fn mixed Try.func6 rfl rfl [] (vc_chk rfl) ?_
  repeat' (first
      | ((with_reducible refine vc_chk ?_); first | decide +kernel | rfl)
      | (with_reducible refine vc_side0 ?_; rfl)
      | (with_reducible first
           | refine vc_true ?_ | refine vc_true2 ?_ | refine vc_side ?_ ?_ | refine vc_triv | refine vc_later ?_ | refine vc_caseT ?_ | refine vc_caseF ?_ | refine vc_cons ?_ | refine vc_nil ?_ ?_ | refine vc_seq ?_
              | refine vc_region ?_ | refine vc_cond ?_ | refine vc_block ?_ | refine vc_retc ?_ | refine vc_exit ?_ | refine vc_skip ?_ | refine vc_scope ?_ | refine vc_label ?_ | refine vc_goto ?_ | refine vc_wkSl0
              | refine vc_wkHp0 | refine vc_eqAVs0 | refine vc_preG0 | refine vc_wkSl ?_ ?_ | refine vc_wkHp ?_ ?_ | refine vc_eqAVs ?_ ?_ | refine vc_preG ?_ ?_ | refine vc_side0 ?_ | refine vc_pure c0 ?_ ?_ ?_
              | refine vc_pure works12_ok ?_ ?_ ?_ | refine vc_pure (c1 (by assumption)) ?_ ?_ ?_ | refine vc_pure (c2 (by assumption)) ?_ ?_ ?_ | refine vc_pure (c3 (by assumption)) ?_ ?_ ?_
              | refine vc_call [] (c4 (by assumption)) ?_ | refine vc_weakf [] ?_ ?_ ?_ | refine vc_and ?_ ?_ | refine vc_ret [] [] ?_)
      | ((with_reducible first | refine vc_caseD (fun h => ?_) (fun h => ?_) | refine vc_caseN (fun h => ?_) (fun h => ?_)) <;> try (exfalso; omega))
      | ((with_reducible refine vc_case (fun h => ?_) (fun h => ?_)) <;> (try simp only [Go.Sym.vs1, reduceCtorEq] at h) <;> try (exfalso; first | omega | (simp at h; done)))
      | (conv in Vc _ => arg 1; whnf
         first
          | (with_reducible refine vc_side0 ?_; rfl)
          | (with_reducible first
              | refine vc_true ?_ | refine vc_true2 ?_ | refine vc_side ?_ ?_ | refine vc_triv | refine vc_later ?_ | refine vc_caseT ?_ | refine vc_caseF ?_ | refine vc_cons ?_ | refine vc_nil ?_ ?_ | refine vc_seq ?_
                 | refine vc_region ?_ | refine vc_cond ?_ | refine vc_block ?_ | refine vc_retc ?_ | refine vc_exit ?_ | refine vc_skip ?_ | refine vc_scope ?_ | refine vc_label ?_ | refine vc_goto ?_ | refine vc_wkSl0
                 | refine vc_wkHp0 | refine vc_eqAVs0 | refine vc_preG0 | refine vc_wkSl ?_ ?_ | refine vc_wkHp ?_ ?_ | refine vc_eqAVs ?_ ?_ | refine vc_preG ?_ ?_ | refine vc_side0 ?_ | refine vc_pure c0 ?_ ?_ ?_
                 | refine vc_pure works12_ok ?_ ?_ ?_ | refine vc_pure (c1 (by assumption)) ?_ ?_ ?_ | refine vc_pure (c2 (by assumption)) ?_ ?_ ?_ | refine vc_pure (c3 (by assumption)) ?_ ?_ ?_
                 | refine vc_call [] (c4 (by assumption)) ?_ | refine vc_weakf [] ?_ ?_ ?_ | refine vc_and ?_ ?_ | refine vc_ret [] [] ?_)
          | ((with_reducible first | refine vc_caseD (fun h => ?_) (fun h => ?_) | refine vc_caseN (fun h => ?_) (fun h => ?_)) <;> try (exfalso; omega))
          | ((with_reducible refine vc_case (fun h => ?_) (fun h => ?_)) <;> (try simp only [Go.Sym.vs1, reduceCtorEq] at h) <;> try (exfalso; first | omega | (simp at h; done)))))
  all_goals first
    | with_reducible rfl
    | exact ⟨trivial, trivial, trivial, trivial⟩
    | exact ⟨⟨by decide, by omega, by omega⟩, sgn_size _⟩
    | (rw [cut1]; first | done | rfl)
    | exact absurd (e4 (by assumption) (by omega)) h
    | exact absurd rfl h
    | rfl
    | trace_state
end

end Go.Proofs.Ytcdjheiccefcdaa
