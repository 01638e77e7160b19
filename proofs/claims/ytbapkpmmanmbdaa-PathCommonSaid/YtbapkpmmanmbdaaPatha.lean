/-
What path.Bit, path.Set and path.Bits do.
-/
import Derived.Test.YtbapkpmmanmbdaaProg
import Derived.Test.YtbapkpmmanmbdaaBita
namespace Go.Proofs.Ytbapkpmmanmbdaa
open Go.Sym
set_option maxRecDepth 10000

theorem mixed : Try.prog.follows .mixedOrders = true := by rfl

theorem bit_ok (xs : List D) (bs : List UInt8) (hx : xs = bs.map byteD) (hb : bs.length = 32) (i : Int) : LocalCall Try.prog 8 [.d (.arr 32 1 xs), .d (.int .i64 i)] [] [] (one [.d (.bool (bitI bs i))]) [] := by
  subst hx
  refine vc_fn mixed Try.func8 rfl rfl [] (vc_chk rfl) ?_
  repeat' (first
      | ((with_reducible refine vc_chk ?_); first | decide +kernel | rfl)
      | (with_reducible refine vc_side0 ?_; rfl)
      | (with_reducible first
           | refine vc_true ?_ | refine vc_true2 ?_ | refine vc_side ?_ ?_ | refine vc_triv | refine vc_later ?_ | refine vc_caseT ?_ | refine vc_caseF ?_ | refine vc_cons ?_ | refine vc_nil ?_ ?_ | refine vc_seq ?_
              | refine vc_region ?_ | refine vc_cond ?_ | refine vc_block ?_ | refine vc_retc ?_ | refine vc_exit ?_ | refine vc_skip ?_ | refine vc_scope ?_ | refine vc_label ?_ | refine vc_goto ?_ | refine vc_wkSl0
              | refine vc_wkHp0 | refine vc_eqAVs0 | refine vc_preG0 | refine vc_wkSl ?_ ?_ | refine vc_wkHp ?_ ?_ | refine vc_eqAVs ?_ ?_ | refine vc_preG ?_ ?_ | refine vc_ret [] [] ?_ | refine vc_weakf [] ?_ ?_ ?_
              | refine vc_side0 ?_ | refine vc_and ?_ ?_)
      | ((with_reducible first | refine vc_caseD (fun h => ?_) (fun h => ?_) | refine vc_caseN (fun h => ?_) (fun h => ?_)) <;> try (exfalso; omega))
      | ((with_reducible refine vc_case (fun h => ?_) (fun h => ?_)) <;> (try simp at h) <;> try (exfalso; omega))
      | (conv in Vc _ => arg 1; whnf
         first
          | (with_reducible refine vc_side0 ?_; rfl)
          | (with_reducible first
              | refine vc_true ?_ | refine vc_true2 ?_ | refine vc_side ?_ ?_ | refine vc_triv | refine vc_later ?_ | refine vc_caseT ?_ | refine vc_caseF ?_ | refine vc_cons ?_ | refine vc_nil ?_ ?_ | refine vc_seq ?_
                 | refine vc_region ?_ | refine vc_cond ?_ | refine vc_block ?_ | refine vc_retc ?_ | refine vc_exit ?_ | refine vc_skip ?_ | refine vc_scope ?_ | refine vc_label ?_ | refine vc_goto ?_ | refine vc_wkSl0
                 | refine vc_wkHp0 | refine vc_eqAVs0 | refine vc_preG0 | refine vc_wkSl ?_ ?_ | refine vc_wkHp ?_ ?_ | refine vc_eqAVs ?_ ?_ | refine vc_preG ?_ ?_ | refine vc_ret [] [] ?_ | refine vc_weakf [] ?_ ?_ ?_
                 | refine vc_side0 ?_ | refine vc_and ?_ ?_)
          | ((with_reducible first | refine vc_caseD (fun h => ?_) (fun h => ?_) | refine vc_caseN (fun h => ?_) (fun h => ?_)) <;> try (exfalso; omega))
          | ((with_reducible refine vc_case (fun h => ?_) (fun h => ?_)) <;> (try simp at h) <;> try (exfalso; omega))))
  all_goals first | rw [bitI_neg bs (by omega)] | rw [bitI_big bs (by omega)] | skip
  all_goals
    obtain ⟨n, rfl⟩ : ∃ n : Nat, i = n := ⟨i.toNat, by omega⟩
    have hn : n < 256 := by omega
    try simp only [div8 hn, mod8, Int.toNat_natCast, getD_byte (show n / 8 < bs.length by omega)]
  all_goals first
    | omega
    | exact ⟨⟨by omega, trivial⟩, rfl⟩
    | (rw [bitI_nat bs (by omega)]; exact congrArg D.bool (and_bit _ _ (by omega)))

theorem set_ok (xs : List D) (bs : List UInt8) (hx : xs = bs.map byteD) (hb : bs.length = 32) (i : Int) (on : Bool) : LocalCall Try.prog 7 [.d (.arr 32 1 xs), .d (.int .i64 i), .d (.bool on)] [] [] (one [.d (.arr 32 1 ((setI bs i on).map byteD))]) [] := by
  subst hx
  refine vc_fn mixed Try.func7 rfl rfl [] (vc_chk rfl) ?_
  repeat' (first
      | ((with_reducible refine vc_chk ?_); first | decide +kernel | rfl)
      | (with_reducible refine vc_side0 ?_; rfl)
      | (with_reducible first
           | refine vc_true ?_ | refine vc_true2 ?_ | refine vc_side ?_ ?_ | refine vc_triv | refine vc_later ?_ | refine vc_caseT ?_ | refine vc_caseF ?_ | refine vc_cons ?_ | refine vc_nil ?_ ?_ | refine vc_seq ?_
              | refine vc_region ?_ | refine vc_cond ?_ | refine vc_block ?_ | refine vc_retc ?_ | refine vc_exit ?_ | refine vc_skip ?_ | refine vc_scope ?_ | refine vc_label ?_ | refine vc_goto ?_ | refine vc_wkSl0
              | refine vc_wkHp0 | refine vc_eqAVs0 | refine vc_preG0 | refine vc_wkSl ?_ ?_ | refine vc_wkHp ?_ ?_ | refine vc_eqAVs ?_ ?_ | refine vc_preG ?_ ?_ | refine vc_ret [] [] ?_ | refine vc_weakf [] ?_ ?_ ?_
              | refine vc_side0 ?_ | refine vc_and ?_ ?_)
      | ((with_reducible first | refine vc_caseD (fun h => ?_) (fun h => ?_) | refine vc_caseN (fun h => ?_) (fun h => ?_)) <;> try (exfalso; omega))
      | ((with_reducible refine vc_case (fun h => ?_) (fun h => ?_)) <;> (try simp at h) <;> try (exfalso; omega))
      | (conv in Vc _ => arg 1; whnf
         first
          | (with_reducible refine vc_side0 ?_; rfl)
          | (with_reducible first
              | refine vc_true ?_ | refine vc_true2 ?_ | refine vc_side ?_ ?_ | refine vc_triv | refine vc_later ?_ | refine vc_caseT ?_ | refine vc_caseF ?_ | refine vc_cons ?_ | refine vc_nil ?_ ?_ | refine vc_seq ?_
                 | refine vc_region ?_ | refine vc_cond ?_ | refine vc_block ?_ | refine vc_retc ?_ | refine vc_exit ?_ | refine vc_skip ?_ | refine vc_scope ?_ | refine vc_label ?_ | refine vc_goto ?_ | refine vc_wkSl0
                 | refine vc_wkHp0 | refine vc_eqAVs0 | refine vc_preG0 | refine vc_wkSl ?_ ?_ | refine vc_wkHp ?_ ?_ | refine vc_eqAVs ?_ ?_ | refine vc_preG ?_ ?_ | refine vc_ret [] [] ?_ | refine vc_weakf [] ?_ ?_ ?_
                 | refine vc_side0 ?_ | refine vc_and ?_ ?_)
          | ((with_reducible first | refine vc_caseD (fun h => ?_) (fun h => ?_) | refine vc_caseN (fun h => ?_) (fun h => ?_)) <;> try (exfalso; omega))
          | ((with_reducible refine vc_case (fun h => ?_) (fun h => ?_)) <;> (try simp at h) <;> try (exfalso; omega))))
  all_goals first | rw [setI_neg bs (by omega)] | rw [setI_big bs (by omega)] | skip
  all_goals
    obtain ⟨n, rfl⟩ : ∃ n : Nat, i = n := ⟨i.toNat, by omega⟩
    have hn : n < 256 := by omega
    try simp only [div8 hn, mod8, Int.toNat_natCast, getD_byte (show n / 8 < bs.length by omega), byteD, D.toInt]
  all_goals (try omega)
  all_goals (try simp only [getD_set_self (show n / 8 < (bs.map byteD).length by simp; omega), List.set_set])
  all_goals first
    | exact ⟨⟨by omega, trivial⟩, rfl⟩
    | (subst h; rw [setI_nat bs hn, set_or hb hn])
    | (subst_vars; rw [setI_nat bs hn]; first | rw [set_or hb hn] | rw [set_xor hb hn])

theorem bits_ok (xs : List D) : LocalCall Try.prog 12 [.d (.arr 32 1 xs)] [] [7] (one [.fn (.func 21) [.ptr 7 []]]) [(7, .var (.d (.arr 32 1 xs)))] := by
  refine vc_fn mixed Try.func12 rfl rfl [] (vc_chk rfl) ?_
  repeat' (first
      | ((with_reducible refine vc_chk ?_); first | decide +kernel | rfl)
      | (with_reducible refine vc_side0 ?_; rfl)
      | (with_reducible first
           | refine vc_ret [] [(7, 1000)] ?_ | refine vc_true ?_ | refine vc_true2 ?_ | refine vc_side ?_ ?_ | refine vc_triv | refine vc_later ?_ | refine vc_caseT ?_ | refine vc_caseF ?_ | refine vc_cons ?_ | refine vc_nil ?_ ?_
              | refine vc_seq ?_ | refine vc_region ?_ | refine vc_cond ?_ | refine vc_block ?_ | refine vc_retc ?_ | refine vc_exit ?_ | refine vc_skip ?_ | refine vc_scope ?_ | refine vc_label ?_ | refine vc_goto ?_
              | refine vc_wkSl0 | refine vc_wkHp0 | refine vc_eqAVs0 | refine vc_preG0 | refine vc_wkSl ?_ ?_ | refine vc_wkHp ?_ ?_ | refine vc_eqAVs ?_ ?_ | refine vc_preG ?_ ?_ | refine vc_ret [] [] ?_
              | refine vc_weakf [] ?_ ?_ ?_ | refine vc_side0 ?_ | refine vc_and ?_ ?_)
      | ((with_reducible first | refine vc_caseD (fun h => ?_) (fun h => ?_) | refine vc_caseN (fun h => ?_) (fun h => ?_)) <;> try (exfalso; omega))
      | ((with_reducible refine vc_case (fun h => ?_) (fun h => ?_)) <;> (try simp at h) <;> try (exfalso; omega))
      | (conv in Vc _ => arg 1; whnf
         first
          | (with_reducible refine vc_side0 ?_; rfl)
          | (with_reducible first
              | refine vc_ret [] [(7, 1000)] ?_ | refine vc_true ?_ | refine vc_true2 ?_ | refine vc_side ?_ ?_ | refine vc_triv | refine vc_later ?_ | refine vc_caseT ?_ | refine vc_caseF ?_ | refine vc_cons ?_
                 | refine vc_nil ?_ ?_ | refine vc_seq ?_ | refine vc_region ?_ | refine vc_cond ?_ | refine vc_block ?_ | refine vc_retc ?_ | refine vc_exit ?_ | refine vc_skip ?_ | refine vc_scope ?_ | refine vc_label ?_
                 | refine vc_goto ?_ | refine vc_wkSl0 | refine vc_wkHp0 | refine vc_eqAVs0 | refine vc_preG0 | refine vc_wkSl ?_ ?_ | refine vc_wkHp ?_ ?_ | refine vc_eqAVs ?_ ?_ | refine vc_preG ?_ ?_ | refine vc_ret [] [] ?_
                 | refine vc_weakf [] ?_ ?_ ?_ | refine vc_side0 ?_ | refine vc_and ?_ ?_)
          | ((with_reducible first | refine vc_caseD (fun h => ?_) (fun h => ?_) | refine vc_caseN (fun h => ?_) (fun h => ?_)) <;> try (exfalso; omega))
          | ((with_reducible refine vc_case (fun h => ?_) (fun h => ?_)) <;> (try simp at h) <;> try (exfalso; omega))))
  all_goals rfl

end Go.Proofs.Ytbapkpmmanmbdaa
