/-
The law PathOrders.
-/
import Derived.Test.YtbapkpmmanmbdaaPathf
namespace Go.Proofs.Ytbapkpmmanmbdaa
open Go.Sym
set_option maxRecDepth 10000
set_option maxHeartbeats 1000000

theorem lessB_self (a : List UInt8) : lessB a a = false := by
  unfold lessB
  rw [common_all fun _ _ => rfl]; rfl
theorem common_full {a b : List UInt8} (ha : a.length = 32) (hb : b.length = 32) (h : 256 ≤ common a b) : a = b :=
  dig_ext ha hb fun n hn => common_eq a b (by omega)
theorem lessB_lt {a b : List UInt8} (h : common a b < 256) : lessB a b = bitB b (common a b) := by
  unfold lessB
  rw [decide_eq_true h, Bool.true_and]
theorem lessB_anti {a b : List UInt8} (h : common a b < 256) : lessB a b ≠ lessB b a := by
  have h2 : common b a < 256 := by rw [common_comm]; exact h
  rw [lessB_lt h, lessB_lt h2, common_comm b a]
  exact fun e => common_ne a b h e.symm
theorem cut_common (a b : List UInt8) : cutB a (common a b : Nat) = cutB b (common a b : Nat) :=
  ofBits_congr fun n _ => by
    by_cases h : n < common a b
    · rw [common_eq a b h]
    · have : decide ((n : Int) < (common a b : Nat)) = false := decide_eq_false (by omega)
      rw [this, Bool.false_and, Bool.false_and]
theorem lessB_true {a b : List UInt8} (h : lessB a b = true) : common a b < 256 ∧ bitB b (common a b) = true ∧ bitB a (common a b) = false := by
  unfold lessB at h
  simp only [Bool.and_eq_true, decide_eq_true_eq] at h
  refine ⟨h.1, h.2, ?_⟩
  have := common_ne a b h.1
  rw [h.2] at this
  simpa using this
theorem lessB_at_bit {a b : List UInt8} {n : Nat} (hn : n < 256) (h : ∀ j, j < n → bitB a j = bitB b j) (ha : bitB a n = false) (hb : bitB b n = true) : lessB a b = true := by
  have := common_at h hn (by rw [ha, hb]; simp)
  rw [lessB_lt (by omega), this, hb]
theorem lessB_trans {a b c : List UInt8} (h1 : lessB a b = true) (h2 : lessB b c = true) : lessB a c = true := by
  obtain ⟨a1, a2, a3⟩ := lessB_true h1
  obtain ⟨b1, b2, b3⟩ := lessB_true h2
  rcases Nat.lt_trichotomy (common a b) (common b c) with h | h | h
  · refine lessB_at_bit a1 (fun j hj => ?_) a3 ?_
    · rw [common_eq a b hj, common_eq b c (by omega)]
    · rw [← common_eq b c h, a2]
  · rw [h, b3] at a2; cases a2
  · refine lessB_at_bit b1 (fun j hj => ?_) ?_ b2
    · rw [common_eq a b (by omega), common_eq b c hj]
    · rw [common_eq a b h, b3]

theorem pathOrders_main (a b c : List UInt8) (ha : a.length = 32) (hb : b.length = 32) (hc : c.length = 32) : LocalCall Try.prog 5 [.d (.arr 32 1 (a.map byteD)), .d (.arr 32 1 (b.map byteD)), .d (.arr 32 1 (c.map byteD))] [] [] (one [.d (.bool true)]) [] := by
  refine vc_fn mixed Try.func5 rfl rfl [] (vc_chk rfl) ?_
  repeat' (first
      | ((with_reducible refine vc_chk ?_); first | decide +kernel | rfl)
      | (with_reducible refine vc_side0 ?_; rfl)
      | (with_reducible first
           | refine vc_pure (common_ok _ _ a b rfl rfl ha hb) ?_ ?_ ?_ | refine vc_pure (less_ok _ _ a b rfl rfl ha hb) ?_ ?_ ?_ | refine vc_pure (less_ok _ _ b a rfl rfl hb ha) ?_ ?_ ?_
              | refine vc_pure (less_ok _ _ b c rfl rfl hb hc) ?_ ?_ ?_ | refine vc_pure (less_ok _ _ a c rfl rfl ha hc) ?_ ?_ ?_ | refine vc_pure (bit_ok _ a rfl ha _) ?_ ?_ ?_ | refine vc_pure (bit_ok _ b rfl hb _) ?_ ?_ ?_
              | refine vc_pure (cut_ok _ a rfl ha _) ?_ ?_ ?_ | refine vc_pure (cut_ok _ b rfl hb _) ?_ ?_ ?_ | refine vc_pure works_ok ?_ ?_ ?_ | refine vc_true ?_ | refine vc_true2 ?_ | refine vc_side ?_ ?_ | refine vc_triv
              | refine vc_later ?_ | refine vc_caseT ?_ | refine vc_caseF ?_ | refine vc_cons ?_ | refine vc_nil ?_ ?_ | refine vc_seq ?_ | refine vc_region ?_ | refine vc_cond ?_ | refine vc_block ?_ | refine vc_retc ?_
              | refine vc_exit ?_ | refine vc_skip ?_ | refine vc_scope ?_ | refine vc_label ?_ | refine vc_goto ?_ | refine vc_wkSl0 | refine vc_wkHp0 | refine vc_eqAVs0 | refine vc_preG0 | refine vc_wkSl ?_ ?_
              | refine vc_wkHp ?_ ?_ | refine vc_eqAVs ?_ ?_ | refine vc_preG ?_ ?_ | refine vc_ret [] [] ?_ | refine vc_weakf [] ?_ ?_ ?_ | refine vc_side0 ?_ | refine vc_and ?_ ?_)
      | ((with_reducible first | refine vc_caseD (fun h => ?_) (fun h => ?_) | refine vc_caseN (fun h => ?_) (fun h => ?_)) <;> try (exfalso; omega))
      | ((with_reducible refine vc_case (fun h => ?_) (fun h => ?_)) <;> (try simp at h) <;> try (exfalso; omega))
      | (conv in Vc _ => arg 1; whnf
         first
          | (with_reducible refine vc_side0 ?_; rfl)
          | (with_reducible first
              | refine vc_pure (common_ok _ _ a b rfl rfl ha hb) ?_ ?_ ?_ | refine vc_pure (less_ok _ _ a b rfl rfl ha hb) ?_ ?_ ?_ | refine vc_pure (less_ok _ _ b a rfl rfl hb ha) ?_ ?_ ?_
                 | refine vc_pure (less_ok _ _ b c rfl rfl hb hc) ?_ ?_ ?_ | refine vc_pure (less_ok _ _ a c rfl rfl ha hc) ?_ ?_ ?_ | refine vc_pure (bit_ok _ a rfl ha _) ?_ ?_ ?_ | refine vc_pure (bit_ok _ b rfl hb _) ?_ ?_ ?_
                 | refine vc_pure (cut_ok _ a rfl ha _) ?_ ?_ ?_ | refine vc_pure (cut_ok _ b rfl hb _) ?_ ?_ ?_ | refine vc_pure works_ok ?_ ?_ ?_ | refine vc_true ?_ | refine vc_true2 ?_ | refine vc_side ?_ ?_ | refine vc_triv
                 | refine vc_later ?_ | refine vc_caseT ?_ | refine vc_caseF ?_ | refine vc_cons ?_ | refine vc_nil ?_ ?_ | refine vc_seq ?_ | refine vc_region ?_ | refine vc_cond ?_ | refine vc_block ?_ | refine vc_retc ?_
                 | refine vc_exit ?_ | refine vc_skip ?_ | refine vc_scope ?_ | refine vc_label ?_ | refine vc_goto ?_ | refine vc_wkSl0 | refine vc_wkHp0 | refine vc_eqAVs0 | refine vc_preG0 | refine vc_wkSl ?_ ?_
                 | refine vc_wkHp ?_ ?_ | refine vc_eqAVs ?_ ?_ | refine vc_preG ?_ ?_ | refine vc_ret [] [] ?_ | refine vc_weakf [] ?_ ?_ ?_ | refine vc_side0 ?_ | refine vc_and ?_ ?_)
          | ((with_reducible first | refine vc_caseD (fun h => ?_) (fun h => ?_) | refine vc_caseN (fun h => ?_) (fun h => ?_)) <;> try (exfalso; omega))
          | ((with_reducible refine vc_case (fun h => ?_) (fun h => ?_)) <;> (try simp at h) <;> try (exfalso; omega))))
  all_goals first
    | exact ⟨fits_dig 6 _, fits_dig 6 _⟩
    | rfl
    | skip
  all_goals (try simp only [beq_dig, decide_eq_true_eq, decide_eq_false_iff_not] at *)
  · subst h; rw [lessB_self] at *; contradiction
  · subst h; exfalso; apply ‹¬ ((common a a : Nat) : Int) = 256›; rw [common_all fun _ _ => rfl]; rfl
  · exact absurd (common_full ha hb (by omega)) h
  · exact absurd ‹lessB a b = lessB b a› (lessB_anti (by omega))
  · exfalso; apply ‹¬ lessB a b = _›; rw [bitI_nat _ (by omega)]; exact lessB_lt (by omega)
  · exfalso
    rename_i h1
    rw [bitI_nat _ (by omega), bitI_nat _ (by omega)] at h1
    exact common_ne a b (by omega) h1
  · exact absurd (cut_common a b) h
  · exfalso
    have := lessB_trans (c := c) ‹lessB a b = true› ‹lessB b c = true›
    exact absurd (this.symm.trans ‹lessB a c = false›) (by simp)

end Go.Proofs.Ytbapkpmmanmbdaa
