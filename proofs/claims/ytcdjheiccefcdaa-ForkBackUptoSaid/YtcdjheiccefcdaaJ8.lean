import Derived.Test.YtcdjheiccefcdaaJ4
import Derived.Test.YtcdjheiccefcdaaJ5
import Derived.Test.YtcdjheiccefcdaaJ6
set_option linter.unusedSimpArgs false
set_option linter.unusedVariables false
/-
The small functions of SHA-256: turns, words, constants.
-/
set_option linter.unusedSimpArgs false
set_option linter.unusedVariables false
namespace Go.Proofs.Ytcdjheiccefcdaa
open Go.Sym
set_option maxRecDepth 10000
set_option maxHeartbeats 4000000

theorem rot_ok {i : Int} {x : W32} (hi : i = wI x) (k : Int) (n : Nat) (hn : n ≤ 32) (h1 : aBits .and .u64 (IntKind.u64.wrap k) 31 = ((32 - n : Nat) : Int)) (h2 : IntKind.u64.wrap (32 - ((32 - n : Nat) : Int)) = (n : Int)) :
    LocalCall Try.prog 103 [.d (.int .u32 i), .d (.int .i64 k)] [] [] (one [.d (.int .u32 (wI (rotr x n)))]) [] := by
  subst hi
  refine vc_fn mixed Try.func103 rfl rfl [] (vc_chk rfl) ?_
  repeat' (first
      | ((with_reducible refine vc_chk ?_); first | decide +kernel | rfl)
      | (with_reducible refine vc_side0 ?_; rfl)
      | (with_reducible first
           | refine vc_true ?_ | refine vc_true2 ?_ | refine vc_side ?_ ?_ | refine vc_triv | refine vc_later ?_ | refine vc_caseT ?_ | refine vc_caseF ?_ | refine vc_cons ?_ | refine vc_nil ?_ ?_ | refine vc_seq ?_
              | refine vc_region ?_ | refine vc_cond ?_ | refine vc_block ?_ | refine vc_retc ?_ | refine vc_exit ?_ | refine vc_skip ?_ | refine vc_scope ?_ | refine vc_label ?_ | refine vc_goto ?_ | refine vc_wkSl0
              | refine vc_wkHp0 | refine vc_eqAVs0 | refine vc_preG0 | refine vc_wkSl ?_ ?_ | refine vc_wkHp ?_ ?_ | refine vc_eqAVs ?_ ?_ | refine vc_preG ?_ ?_ | refine vc_side0 ?_ | refine vc_weakf [] ?_ ?_ ?_
              | refine vc_and ?_ ?_ | refine vc_ret [] [] ?_)
      | ((with_reducible first | refine vc_caseD (fun h => ?_) (fun h => ?_) | refine vc_caseN (fun h => ?_) (fun h => ?_)) <;> try (exfalso; omega))
      | ((with_reducible refine vc_case (fun h => ?_) (fun h => ?_)) <;> (try simp only [Go.Sym.vs1, reduceCtorEq] at h) <;> try (exfalso; first | omega | (simp at h; done)))
      | (conv in Vc _ => arg 1; whnf
         first
          | (with_reducible refine vc_side0 ?_; rfl)
          | (with_reducible first
              | refine vc_true ?_ | refine vc_true2 ?_ | refine vc_side ?_ ?_ | refine vc_triv | refine vc_later ?_ | refine vc_caseT ?_ | refine vc_caseF ?_ | refine vc_cons ?_ | refine vc_nil ?_ ?_ | refine vc_seq ?_
                 | refine vc_region ?_ | refine vc_cond ?_ | refine vc_block ?_ | refine vc_retc ?_ | refine vc_exit ?_ | refine vc_skip ?_ | refine vc_scope ?_ | refine vc_label ?_ | refine vc_goto ?_ | refine vc_wkSl0
                 | refine vc_wkHp0 | refine vc_eqAVs0 | refine vc_preG0 | refine vc_wkSl ?_ ?_ | refine vc_wkHp ?_ ?_ | refine vc_eqAVs ?_ ?_ | refine vc_preG ?_ ?_ | refine vc_side0 ?_ | refine vc_weakf [] ?_ ?_ ?_
                 | refine vc_and ?_ ?_ | refine vc_ret [] [] ?_)
          | ((with_reducible first | refine vc_caseD (fun h => ?_) (fun h => ?_) | refine vc_caseN (fun h => ?_) (fun h => ?_)) <;> try (exfalso; omega))
          | ((with_reducible refine vc_case (fun h => ?_) (fun h => ?_)) <;> (try simp only [Go.Sym.vs1, reduceCtorEq] at h) <;> try (exfalso; first | omega | (simp at h; done)))))
  all_goals (try simp only [h1, h2])
  all_goals first
    | rfl
    | omega
    | (rw [w_shl x (by omega), w_shr x hn, w_or]; unfold rotr; rw [BitVec.or_comm])

theorem turn_ok {i : Int} {x : W32} (hi : i = wI x) (n : Nat) (hn : n ≤ 32) :
    LocalCall Try.prog 96 [.d (.int .u32 i), .d (.int .i64 (n : Int))] [] [] (one [.d (.int .u32 (wI (rotr x n)))]) [] := by
  subst hi
  have h1 : IntKind.u64.wrap (n : Int) = n := by rw [u64_wrap]; omega
  have h2 : IntKind.u64.wrap (IntKind.i64.wrap (32 - (n : Int))) = ((32 - n : Nat) : Int) := by rw [wrap64_id (by omega) (by omega), u64_wrap]; omega
  refine vc_fn mixed Try.func96 rfl rfl [] (vc_chk rfl) ?_
  repeat' (first
      | ((with_reducible refine vc_chk ?_); first | decide +kernel | rfl)
      | (with_reducible refine vc_side0 ?_; rfl)
      | (with_reducible first
           | refine vc_true ?_ | refine vc_true2 ?_ | refine vc_side ?_ ?_ | refine vc_triv | refine vc_later ?_ | refine vc_caseT ?_ | refine vc_caseF ?_ | refine vc_cons ?_ | refine vc_nil ?_ ?_ | refine vc_seq ?_
              | refine vc_region ?_ | refine vc_cond ?_ | refine vc_block ?_ | refine vc_retc ?_ | refine vc_exit ?_ | refine vc_skip ?_ | refine vc_scope ?_ | refine vc_label ?_ | refine vc_goto ?_ | refine vc_wkSl0
              | refine vc_wkHp0 | refine vc_eqAVs0 | refine vc_preG0 | refine vc_wkSl ?_ ?_ | refine vc_wkHp ?_ ?_ | refine vc_eqAVs ?_ ?_ | refine vc_preG ?_ ?_ | refine vc_side0 ?_ | refine vc_weakf [] ?_ ?_ ?_
              | refine vc_and ?_ ?_ | refine vc_ret [] [] ?_)
      | ((with_reducible first | refine vc_caseD (fun h => ?_) (fun h => ?_) | refine vc_caseN (fun h => ?_) (fun h => ?_)) <;> try (exfalso; omega))
      | ((with_reducible refine vc_case (fun h => ?_) (fun h => ?_)) <;> (try simp only [Go.Sym.vs1, reduceCtorEq] at h) <;> try (exfalso; first | omega | (simp at h; done)))
      | (conv in Vc _ => arg 1; whnf
         first
          | (with_reducible refine vc_side0 ?_; rfl)
          | (with_reducible first
              | refine vc_true ?_ | refine vc_true2 ?_ | refine vc_side ?_ ?_ | refine vc_triv | refine vc_later ?_ | refine vc_caseT ?_ | refine vc_caseF ?_ | refine vc_cons ?_ | refine vc_nil ?_ ?_ | refine vc_seq ?_
                 | refine vc_region ?_ | refine vc_cond ?_ | refine vc_block ?_ | refine vc_retc ?_ | refine vc_exit ?_ | refine vc_skip ?_ | refine vc_scope ?_ | refine vc_label ?_ | refine vc_goto ?_ | refine vc_wkSl0
                 | refine vc_wkHp0 | refine vc_eqAVs0 | refine vc_preG0 | refine vc_wkSl ?_ ?_ | refine vc_wkHp ?_ ?_ | refine vc_eqAVs ?_ ?_ | refine vc_preG ?_ ?_ | refine vc_side0 ?_ | refine vc_weakf [] ?_ ?_ ?_
                 | refine vc_and ?_ ?_ | refine vc_ret [] [] ?_)
          | ((with_reducible first | refine vc_caseD (fun h => ?_) (fun h => ?_) | refine vc_caseN (fun h => ?_) (fun h => ?_)) <;> try (exfalso; omega))
          | ((with_reducible refine vc_case (fun h => ?_) (fun h => ?_)) <;> (try simp only [Go.Sym.vs1, reduceCtorEq] at h) <;> try (exfalso; first | omega | (simp at h; done)))))
  all_goals (try simp only [h1, h2])
  all_goals first
    | rfl
    | omega
    | (rw [w_shl x (by omega), w_shr x hn, w_or]; rfl)

theorem factors_ok : LocalCall Try.prog 102 [] [] [] (one [.d (.arr 64 1 (sK.map wD))]) [] := by
  refine vc_fn mixed Try.func102 rfl rfl [] (vc_chk rfl) ?_
  repeat' (first
      | ((with_reducible refine vc_chk ?_); first | decide +kernel | rfl)
      | (with_reducible refine vc_side0 ?_; rfl)
      | (with_reducible first
           | refine vc_true ?_ | refine vc_true2 ?_ | refine vc_side ?_ ?_ | refine vc_triv | refine vc_later ?_ | refine vc_caseT ?_ | refine vc_caseF ?_ | refine vc_cons ?_ | refine vc_nil ?_ ?_ | refine vc_seq ?_
              | refine vc_region ?_ | refine vc_cond ?_ | refine vc_block ?_ | refine vc_retc ?_ | refine vc_exit ?_ | refine vc_skip ?_ | refine vc_scope ?_ | refine vc_label ?_ | refine vc_goto ?_ | refine vc_wkSl0
              | refine vc_wkHp0 | refine vc_eqAVs0 | refine vc_preG0 | refine vc_wkSl ?_ ?_ | refine vc_wkHp ?_ ?_ | refine vc_eqAVs ?_ ?_ | refine vc_preG ?_ ?_ | refine vc_side0 ?_ | refine vc_weakf [] ?_ ?_ ?_
              | refine vc_and ?_ ?_ | refine vc_ret [] [] ?_)
      | ((with_reducible first | refine vc_caseD (fun h => ?_) (fun h => ?_) | refine vc_caseN (fun h => ?_) (fun h => ?_)) <;> try (exfalso; omega))
      | ((with_reducible refine vc_case (fun h => ?_) (fun h => ?_)) <;> (try simp only [Go.Sym.vs1, reduceCtorEq] at h) <;> try (exfalso; first | omega | (simp at h; done)))
      | (conv in Vc _ => arg 1; whnf
         first
          | (with_reducible refine vc_side0 ?_; rfl)
          | (with_reducible first
              | refine vc_true ?_ | refine vc_true2 ?_ | refine vc_side ?_ ?_ | refine vc_triv | refine vc_later ?_ | refine vc_caseT ?_ | refine vc_caseF ?_ | refine vc_cons ?_ | refine vc_nil ?_ ?_ | refine vc_seq ?_
                 | refine vc_region ?_ | refine vc_cond ?_ | refine vc_block ?_ | refine vc_retc ?_ | refine vc_exit ?_ | refine vc_skip ?_ | refine vc_scope ?_ | refine vc_label ?_ | refine vc_goto ?_ | refine vc_wkSl0
                 | refine vc_wkHp0 | refine vc_eqAVs0 | refine vc_preG0 | refine vc_wkSl ?_ ?_ | refine vc_wkHp ?_ ?_ | refine vc_eqAVs ?_ ?_ | refine vc_preG ?_ ?_ | refine vc_side0 ?_ | refine vc_weakf [] ?_ ?_ ?_
                 | refine vc_and ?_ ?_ | refine vc_ret [] [] ?_)
          | ((with_reducible first | refine vc_caseD (fun h => ?_) (fun h => ?_) | refine vc_caseN (fun h => ?_) (fun h => ?_)) <;> try (exfalso; omega))
          | ((with_reducible refine vc_case (fun h => ?_) (fun h => ?_)) <;> (try simp only [Go.Sym.vs1, reduceCtorEq] at h) <;> try (exfalso; first | omega | (simp at h; done)))))
  all_goals first
    | rfl
    | ((repeat' apply And.intro) <;> first | trivial | decide)

theorem round_ok : LocalCall Try.prog 95 [] [] [] (one [.d (.arr 64 1 (sK.map wD))]) [] := by
  refine vc_fn mixed Try.func95 rfl rfl [] (vc_chk rfl) ?_
  repeat' (first
      | ((with_reducible refine vc_chk ?_); first | decide +kernel | rfl)
      | (with_reducible refine vc_side0 ?_; rfl)
      | (with_reducible first
           | refine vc_true ?_ | refine vc_true2 ?_ | refine vc_side ?_ ?_ | refine vc_triv | refine vc_later ?_ | refine vc_caseT ?_ | refine vc_caseF ?_ | refine vc_cons ?_ | refine vc_nil ?_ ?_ | refine vc_seq ?_
              | refine vc_region ?_ | refine vc_cond ?_ | refine vc_block ?_ | refine vc_retc ?_ | refine vc_exit ?_ | refine vc_skip ?_ | refine vc_scope ?_ | refine vc_label ?_ | refine vc_goto ?_ | refine vc_wkSl0
              | refine vc_wkHp0 | refine vc_eqAVs0 | refine vc_preG0 | refine vc_wkSl ?_ ?_ | refine vc_wkHp ?_ ?_ | refine vc_eqAVs ?_ ?_ | refine vc_preG ?_ ?_ | refine vc_side0 ?_ | refine vc_weakf [] ?_ ?_ ?_
              | refine vc_and ?_ ?_ | refine vc_ret [] [] ?_)
      | ((with_reducible first | refine vc_caseD (fun h => ?_) (fun h => ?_) | refine vc_caseN (fun h => ?_) (fun h => ?_)) <;> try (exfalso; omega))
      | ((with_reducible refine vc_case (fun h => ?_) (fun h => ?_)) <;> (try simp only [Go.Sym.vs1, reduceCtorEq] at h) <;> try (exfalso; first | omega | (simp at h; done)))
      | (conv in Vc _ => arg 1; whnf
         first
          | (with_reducible refine vc_side0 ?_; rfl)
          | (with_reducible first
              | refine vc_true ?_ | refine vc_true2 ?_ | refine vc_side ?_ ?_ | refine vc_triv | refine vc_later ?_ | refine vc_caseT ?_ | refine vc_caseF ?_ | refine vc_cons ?_ | refine vc_nil ?_ ?_ | refine vc_seq ?_
                 | refine vc_region ?_ | refine vc_cond ?_ | refine vc_block ?_ | refine vc_retc ?_ | refine vc_exit ?_ | refine vc_skip ?_ | refine vc_scope ?_ | refine vc_label ?_ | refine vc_goto ?_ | refine vc_wkSl0
                 | refine vc_wkHp0 | refine vc_eqAVs0 | refine vc_preG0 | refine vc_wkSl ?_ ?_ | refine vc_wkHp ?_ ?_ | refine vc_eqAVs ?_ ?_ | refine vc_preG ?_ ?_ | refine vc_side0 ?_ | refine vc_weakf [] ?_ ?_ ?_
                 | refine vc_and ?_ ?_ | refine vc_ret [] [] ?_)
          | ((with_reducible first | refine vc_caseD (fun h => ?_) (fun h => ?_) | refine vc_caseN (fun h => ?_) (fun h => ?_)) <;> try (exfalso; omega))
          | ((with_reducible refine vc_case (fun h => ?_) (fun h => ?_)) <;> (try simp only [Go.Sym.vs1, reduceCtorEq] at h) <;> try (exfalso; first | omega | (simp at h; done)))))
  all_goals first
    | rfl
    | ((repeat' apply And.intro) <;> first | trivial | decide)

theorem first_ok : LocalCall Try.prog 87 [] [] [] (one [.d (.arr 8 1 (sFirst.map wD))]) [] := by
  refine vc_fn mixed Try.func87 rfl rfl [] (vc_chk rfl) ?_
  repeat' (first
      | ((with_reducible refine vc_chk ?_); first | decide +kernel | rfl)
      | (with_reducible refine vc_side0 ?_; rfl)
      | (with_reducible first
           | refine vc_true ?_ | refine vc_true2 ?_ | refine vc_side ?_ ?_ | refine vc_triv | refine vc_later ?_ | refine vc_caseT ?_ | refine vc_caseF ?_ | refine vc_cons ?_ | refine vc_nil ?_ ?_ | refine vc_seq ?_
              | refine vc_region ?_ | refine vc_cond ?_ | refine vc_block ?_ | refine vc_retc ?_ | refine vc_exit ?_ | refine vc_skip ?_ | refine vc_scope ?_ | refine vc_label ?_ | refine vc_goto ?_ | refine vc_wkSl0
              | refine vc_wkHp0 | refine vc_eqAVs0 | refine vc_preG0 | refine vc_wkSl ?_ ?_ | refine vc_wkHp ?_ ?_ | refine vc_eqAVs ?_ ?_ | refine vc_preG ?_ ?_ | refine vc_side0 ?_ | refine vc_weakf [] ?_ ?_ ?_
              | refine vc_and ?_ ?_ | refine vc_ret [] [] ?_)
      | ((with_reducible first | refine vc_caseD (fun h => ?_) (fun h => ?_) | refine vc_caseN (fun h => ?_) (fun h => ?_)) <;> try (exfalso; omega))
      | ((with_reducible refine vc_case (fun h => ?_) (fun h => ?_)) <;> (try simp only [Go.Sym.vs1, reduceCtorEq] at h) <;> try (exfalso; first | omega | (simp at h; done)))
      | (conv in Vc _ => arg 1; whnf
         first
          | (with_reducible refine vc_side0 ?_; rfl)
          | (with_reducible first
              | refine vc_true ?_ | refine vc_true2 ?_ | refine vc_side ?_ ?_ | refine vc_triv | refine vc_later ?_ | refine vc_caseT ?_ | refine vc_caseF ?_ | refine vc_cons ?_ | refine vc_nil ?_ ?_ | refine vc_seq ?_
                 | refine vc_region ?_ | refine vc_cond ?_ | refine vc_block ?_ | refine vc_retc ?_ | refine vc_exit ?_ | refine vc_skip ?_ | refine vc_scope ?_ | refine vc_label ?_ | refine vc_goto ?_ | refine vc_wkSl0
                 | refine vc_wkHp0 | refine vc_eqAVs0 | refine vc_preG0 | refine vc_wkSl ?_ ?_ | refine vc_wkHp ?_ ?_ | refine vc_eqAVs ?_ ?_ | refine vc_preG ?_ ?_ | refine vc_side0 ?_ | refine vc_weakf [] ?_ ?_ ?_
                 | refine vc_and ?_ ?_ | refine vc_ret [] [] ?_)
          | ((with_reducible first | refine vc_caseD (fun h => ?_) (fun h => ?_) | refine vc_caseN (fun h => ?_) (fun h => ?_)) <;> try (exfalso; omega))
          | ((with_reducible refine vc_case (fun h => ?_) (fun h => ?_)) <;> (try simp only [Go.Sym.vs1, reduceCtorEq] at h) <;> try (exfalso; first | omega | (simp at h; done)))))
  all_goals first
    | rfl
    | ((repeat' apply And.intro) <;> first | trivial | decide)

/-- What a hash holds. -/
def hsh (h : List W32) (bl : List UInt8) (hv n : Nat) : AObj := .var (.d (.st [.arr 8 1 (h.map wD), .arr 64 1 (bl.map byteD), .int .i64 (hv : Int), .int .u64 (n : Int)]))

def zero64 : List UInt8 := List.replicate 64 0

theorem new_ok : LocalCall Try.prog 91 [] [] [9] (one [.ptr 9 []]) [(9, hsh sFirst zero64 0 0)] := by
  refine vc_fn mixed Try.func91 rfl rfl [] (vc_chk rfl) ?_
  repeat' (first
      | ((with_reducible refine vc_chk ?_); first | decide +kernel | rfl)
      | (with_reducible refine vc_side0 ?_; rfl)
      | (with_reducible first
           | refine vc_true ?_ | refine vc_true2 ?_ | refine vc_side ?_ ?_ | refine vc_triv | refine vc_later ?_ | refine vc_caseT ?_ | refine vc_caseF ?_ | refine vc_cons ?_ | refine vc_nil ?_ ?_ | refine vc_seq ?_
              | refine vc_region ?_ | refine vc_cond ?_ | refine vc_block ?_ | refine vc_retc ?_ | refine vc_exit ?_ | refine vc_skip ?_ | refine vc_scope ?_ | refine vc_label ?_ | refine vc_goto ?_ | refine vc_wkSl0
              | refine vc_wkHp0 | refine vc_eqAVs0 | refine vc_preG0 | refine vc_wkSl ?_ ?_ | refine vc_wkHp ?_ ?_ | refine vc_eqAVs ?_ ?_ | refine vc_preG ?_ ?_ | refine vc_side0 ?_ | refine vc_ret [] [(9, 2008)] ?_
              | refine vc_weakf [] ?_ ?_ ?_ | refine vc_and ?_ ?_ | refine vc_ret [] [] ?_)
      | ((with_reducible first | refine vc_caseD (fun h => ?_) (fun h => ?_) | refine vc_caseN (fun h => ?_) (fun h => ?_)) <;> try (exfalso; omega))
      | ((with_reducible refine vc_case (fun h => ?_) (fun h => ?_)) <;> (try simp only [Go.Sym.vs1, reduceCtorEq] at h) <;> try (exfalso; first | omega | (simp at h; done)))
      | (conv in Vc _ => arg 1; whnf
         first
          | (with_reducible refine vc_side0 ?_; rfl)
          | (with_reducible first
              | refine vc_true ?_ | refine vc_true2 ?_ | refine vc_side ?_ ?_ | refine vc_triv | refine vc_later ?_ | refine vc_caseT ?_ | refine vc_caseF ?_ | refine vc_cons ?_ | refine vc_nil ?_ ?_ | refine vc_seq ?_
                 | refine vc_region ?_ | refine vc_cond ?_ | refine vc_block ?_ | refine vc_retc ?_ | refine vc_exit ?_ | refine vc_skip ?_ | refine vc_scope ?_ | refine vc_label ?_ | refine vc_goto ?_ | refine vc_wkSl0
                 | refine vc_wkHp0 | refine vc_eqAVs0 | refine vc_preG0 | refine vc_wkSl ?_ ?_ | refine vc_wkHp ?_ ?_ | refine vc_eqAVs ?_ ?_ | refine vc_preG ?_ ?_ | refine vc_side0 ?_ | refine vc_ret [] [(9, 2008)] ?_
                 | refine vc_weakf [] ?_ ?_ ?_ | refine vc_and ?_ ?_ | refine vc_ret [] [] ?_)
          | ((with_reducible first | refine vc_caseD (fun h => ?_) (fun h => ?_) | refine vc_caseN (fun h => ?_) (fun h => ?_)) <;> try (exfalso; omega))
          | ((with_reducible refine vc_case (fun h => ?_) (fun h => ?_)) <;> (try simp only [Go.Sym.vs1, reduceCtorEq] at h) <;> try (exfalso; first | omega | (simp at h; done)))))
  all_goals first
    | rfl
    | ((repeat' apply And.intro) <;> first | trivial | decide)

theorem word_ok (h : List W32) (bl : List UInt8) (hv n : Nat) (hb : bl.length = 64) (t : Nat) (ht : t < 16) :
    LocalCall Try.prog 104 [.sl 9 [.fld 1 8] 1 (4 * t) (64 - 4 * t)] [(9, hsh h bl hv n)] [] (one [.d (.int .u32 (wI (wordAt bl t)))]) [] := by
  have hg : ∀ k, k < 64 → ((bl.map byteD).getD k .nilp) = .int .u8 ((bl.getD k 0).toNat : Int) := fun k hk => by rw [getD_byte (by omega)]; rfl
  refine vc_fn mixed Try.func104 rfl rfl [] (vc_chk rfl) ?_
  repeat' (first
      | ((with_reducible refine vc_chk ?_); first | decide +kernel | rfl)
      | (with_reducible refine vc_side0 ?_; rfl)
      | (with_reducible first
           | refine vc_true ?_ | refine vc_true2 ?_ | refine vc_side ?_ ?_ | refine vc_triv | refine vc_later ?_ | refine vc_caseT ?_ | refine vc_caseF ?_ | refine vc_cons ?_ | refine vc_nil ?_ ?_ | refine vc_seq ?_
              | refine vc_region ?_ | refine vc_cond ?_ | refine vc_block ?_ | refine vc_retc ?_ | refine vc_exit ?_ | refine vc_skip ?_ | refine vc_scope ?_ | refine vc_label ?_ | refine vc_goto ?_ | refine vc_wkSl0
              | refine vc_wkHp0 | refine vc_eqAVs0 | refine vc_preG0 | refine vc_wkSl ?_ ?_ | refine vc_wkHp ?_ ?_ | refine vc_eqAVs ?_ ?_ | refine vc_preG ?_ ?_ | refine vc_side0 ?_ | refine vc_weakf [] ?_ ?_ ?_
              | refine vc_and ?_ ?_ | refine vc_ret [] [] ?_)
      | ((with_reducible first | refine vc_caseD (fun h => ?_) (fun h => ?_) | refine vc_caseN (fun h => ?_) (fun h => ?_)) <;> try (exfalso; omega))
      | ((with_reducible refine vc_case (fun h => ?_) (fun h => ?_)) <;> (try simp only [Go.Sym.vs1, reduceCtorEq] at h) <;> try (exfalso; first | omega | (simp at h; done)))
      | (conv in Vc _ => arg 1; whnf
         first
          | (with_reducible refine vc_side0 ?_; rfl)
          | (with_reducible first
              | refine vc_true ?_ | refine vc_true2 ?_ | refine vc_side ?_ ?_ | refine vc_triv | refine vc_later ?_ | refine vc_caseT ?_ | refine vc_caseF ?_ | refine vc_cons ?_ | refine vc_nil ?_ ?_ | refine vc_seq ?_
                 | refine vc_region ?_ | refine vc_cond ?_ | refine vc_block ?_ | refine vc_retc ?_ | refine vc_exit ?_ | refine vc_skip ?_ | refine vc_scope ?_ | refine vc_label ?_ | refine vc_goto ?_ | refine vc_wkSl0
                 | refine vc_wkHp0 | refine vc_eqAVs0 | refine vc_preG0 | refine vc_wkSl ?_ ?_ | refine vc_wkHp ?_ ?_ | refine vc_eqAVs ?_ ?_ | refine vc_preG ?_ ?_ | refine vc_side0 ?_ | refine vc_weakf [] ?_ ?_ ?_
                 | refine vc_and ?_ ?_ | refine vc_ret [] [] ?_)
          | ((with_reducible first | refine vc_caseD (fun h => ?_) (fun h => ?_) | refine vc_caseN (fun h => ?_) (fun h => ?_)) <;> try (exfalso; omega))
          | ((with_reducible refine vc_case (fun h => ?_) (fun h => ?_)) <;> (try simp only [Go.Sym.vs1, reduceCtorEq] at h) <;> try (exfalso; first | omega | (simp at h; done)))))
  all_goals (try simp only [show Int.toNat 0 = 0 from rfl, show Int.toNat 1 = 1 from rfl, show Int.toNat 2 = 2 from rfl, show Int.toNat 3 = 3 from rfl, Nat.add_zero])
  all_goals first
    | exact ⟨by omega, by omega⟩
    | (show (0 : Int) ≤ _; omega)
    | (rw [hg _ (by omega)]; exact ⟨⟨by omega, trivial⟩, rfl⟩)
    | (rw [hg _ (by omega), hg _ (by omega), hg _ (by omega), hg _ (by omega)]
       simp only [D.toInt, bW_wrap]
       have s1 : ∀ x : W32, shlI .u32 (wI x) 24 = wI (x <<< 24) := fun x => w_shl x (k := 24) (by omega)
       have s2 : ∀ x : W32, shlI .u32 (wI x) 16 = wI (x <<< 16) := fun x => w_shl x (k := 16) (by omega)
       have s3 : ∀ x : W32, shlI .u32 (wI x) 8 = wI (x <<< 8) := fun x => w_shl x (k := 8) (by omega)
       rw [s1, s2, s3, w_or, w_or, w_or, word4_or]
       rfl)

end Go.Proofs.Ytcdjheiccefcdaa

/-
A block's words.
-/
set_option linter.unusedSimpArgs false
set_option linter.unusedVariables false
namespace Go.Proofs.Ytcdjheiccefcdaa
open Go.Sym
set_option maxRecDepth 10000
set_option maxHeartbeats 8000000

/-- Words, and noughts behind them. -/
def padW (ws : List W32) : List D := ws.map wD ++ List.replicate (64 - ws.length) (.int .u32 0)

theorem padW_set {ws : List W32} (h : ws.length < 64) (x : W32) : (padW ws).set ws.length (wD x) = padW (ws ++ [x]) := by
  unfold padW
  rw [List.set_append_right _ _ (by rw [List.length_map]; omega), List.length_map, Nat.sub_self]
  rw [show 64 - ws.length = (64 - (ws ++ [x]).length) + 1 by simp; omega, List.replicate_succ, List.set_cons_zero, List.map_append, List.append_assoc]
  rfl

theorem padW_get {ws : List W32} {k : Nat} (h : k < ws.length) : (padW ws).getD k .nilp = wD (ws.getD k 0) := by
  unfold padW
  rw [List.getD_eq_getElem?_getD, List.getElem?_append_left (by rw [List.length_map]; exact h), List.getElem?_map, List.getD_eq_getElem?_getD, List.getElem?_eq_getElem h]; rfl

theorem padW_full {ws : List W32} (h : ws.length = 64) : padW ws = ws.map wD := by
  unfold padW
  rw [h]; simp

theorem words_next (bl : List UInt8) (t : Nat) : (List.range t).map (wordAt bl) ++ [wordAt bl t] = (List.range (t + 1)).map (wordAt bl) := by
  rw [List.range_succ]; simp

theorem spread_ok (hs : List W32) (bl : List UInt8) (hv n : Nat) (hb : bl.length = 64) :
    LocalCall Try.prog 101 [.ptr 9 [.fld 1 8]] [(9, hsh hs bl hv n)] [] (one [.d (.arr 64 1 ((sched bl 48).map wD))]) [] := by
  have r0 : ∀ (m k : Nat), k < 16 + m → (padW (sched bl m)).getD k .nilp = wD ((sched bl m).getD k 0) := fun m k hk => padW_get (by rw [sched_length]; exact hk)
  have r1 : ∀ m : Nat, m < 48 → IntKind.i64.wrap (((16 + m : Nat) : Int) - 15) = ((m + 1 : Nat) : Int) := fun m hm => by rw [wrap64_id (by omega) (by omega)]; omega
  have r2 : ∀ m : Nat, m < 48 → IntKind.i64.wrap (((16 + m : Nat) : Int) - 2) = ((m + 14 : Nat) : Int) := fun m hm => by rw [wrap64_id (by omega) (by omega)]; omega
  have r3 : ∀ m : Nat, m < 48 → IntKind.i64.wrap (((16 + m : Nat) : Int) - 16) = ((m : Nat) : Int) := fun m hm => by rw [wrap64_id (by omega) (by omega)]; omega
  have r4 : ∀ m : Nat, m < 48 → IntKind.i64.wrap (((16 + m : Nat) : Int) - 7) = ((m + 9 : Nat) : Int) := fun m hm => by rw [wrap64_id (by omega) (by omega)]; omega
  have ga : ∀ m : Nat, m < 48 → ((padW (sched bl m)).getD (IntKind.i64.wrap (((16 + m : Nat) : Int) - 15)).toNat .nilp).toInt = wI ((sched bl m).getD (m + 1) 0) := fun m hm => by rw [r1 m hm, Int.toNat_natCast, r0 m _ (by omega)]; rfl
  have gb : ∀ m : Nat, m < 48 → ((padW (sched bl m)).getD (IntKind.i64.wrap (((16 + m : Nat) : Int) - 2)).toNat .nilp).toInt = wI ((sched bl m).getD (m + 14) 0) := fun m hm => by rw [r2 m hm, Int.toNat_natCast, r0 m _ (by omega)]; rfl
  have gc : ∀ m : Nat, m < 48 → ((padW (sched bl m)).getD (IntKind.i64.wrap (((16 + m : Nat) : Int) - 16)).toNat .nilp).toInt = wI ((sched bl m).getD m 0) := fun m hm => by rw [r3 m hm, Int.toNat_natCast, r0 m _ (by omega)]; rfl
  have gd : ∀ m : Nat, m < 48 → ((padW (sched bl m)).getD (IntKind.i64.wrap (((16 + m : Nat) : Int) - 7)).toNat .nilp).toInt = wI ((sched bl m).getD (m + 9) 0) := fun m hm => by rw [r4 m hm, Int.toNat_natCast, r0 m _ (by omega)]; rfl
  have r5 : ∀ t : Nat, t < 16 → IntKind.i64.wrap (4 * (t : Int)) = ((4 * t : Nat) : Int) := fun t ht => by rw [wrap64_id (by omega) (by omega)]; omega
  have r6 : ∀ t : Nat, t < 16 → (padW ((List.range t).map (wordAt bl))).set t (D.int .u32 (wI (wordAt bl t))) = padW ((List.range (t + 1)).map (wordAt bl)) := fun t ht => by
    have := padW_set (ws := (List.range t).map (wordAt bl)) (by simp; omega) (wordAt bl t)
    rw [words_next] at this
    simpa [wD] using this
  have r7 : ∀ m : Nat, m < 48 → (padW (sched bl m)).set (16 + m) (D.int .u32 (wI ((sched bl m).getD m 0 + (rotr ((sched bl m).getD (m + 1) 0) 7 ^^^ rotr ((sched bl m).getD (m + 1) 0) 18 ^^^ (sched bl m).getD (m + 1) 0 >>> 3) + (sched bl m).getD (m + 9) 0 + (rotr ((sched bl m).getD (m + 14) 0) 17 ^^^ rotr ((sched bl m).getD (m + 14) 0) 19 ^^^ (sched bl m).getD (m + 14) 0 >>> 10)))) = padW (sched bl (m + 1)) := fun m hm => by
    have := padW_set (ws := sched bl m) (by rw [sched_length]; omega) ((sched bl m).getD m 0 + low3 ((sched bl m).getD (m + 1) 0) + (sched bl m).getD (m + 9) 0 + high3 ((sched bl m).getD (m + 14) 0))
    rw [sched_length] at this
    exact this
  refine vc_fn mixed Try.func101 rfl rfl [] (vc_chk rfl) ?_
  repeat' (first
      | ((with_reducible refine vc_chk ?_); first | decide +kernel | rfl)
      | (with_reducible refine vc_side0 ?_; rfl)
      | (with_reducible first
           | refine vc_true ?_ | refine vc_true2 ?_ | refine vc_side ?_ ?_ | refine vc_triv | refine vc_later ?_ | refine vc_caseT ?_ | refine vc_caseF ?_ | refine vc_cons ?_ | refine vc_nil ?_ ?_ | refine vc_seq ?_
              | refine vc_region ?_ | refine vc_cond ?_ | refine vc_block ?_ | refine vc_retc ?_ | refine vc_exit ?_ | refine vc_skip ?_ | refine vc_scope ?_ | refine vc_label ?_ | refine vc_goto ?_ | refine vc_wkSl0
              | refine vc_wkHp0 | refine vc_eqAVs0 | refine vc_preG0 | refine vc_wkSl ?_ ?_ | refine vc_wkHp ?_ ?_ | refine vc_eqAVs ?_ ?_ | refine vc_preG ?_ ?_ | refine vc_side0 ?_
              | refine vc_loopI (y := .seq (.region 3 _ _) _) 66 (fun (t : Nat) => [(0, .ptr 9 [.fld 1 8]), (2, .ptr 1000 []), (3, .ptr 2000 []), (10, .d (.int .i64 (t : Int)))]) (fun t => [(9, hsh hs bl hv n), (1000, .var (.d (.arr 64 1 (List.replicate 64 (.int .u32 0))))), (2000, .var (.d (.arr 64 1 (padW ((List.range t).map (wordAt bl))))))]) (fun t => 16 - t) (fun t => t ≤ 16) 0 [] ?_ ?_ ?_ ?_ ?_ (fun t hI => ?_)
              | refine vc_call [] (word_ok hs bl hv n hb t (by omega)) ?_ | refine vc_nextI (t + 1) [] ?_ ?_ ?_ ?_ ?_ ?_
              | refine vc_loopI (y := .seq (.seq (.region 8 _ _) _) _) 66 (fun (t : Nat) => [(2, .ptr 1000 []), (3, .ptr 2000 []), (5, .d (.int .i64 ((16 + t : Nat) : Int)))]) (fun t => [(9, hsh hs bl hv n), (1000, .var (.d (.arr 64 1 (List.replicate 64 (.int .u32 0))))), (2000, .var (.d (.arr 64 1 (padW (sched bl t)))))]) (fun t => 48 - t) (fun t => t ≤ 48) 0 [] ?_ ?_ ?_ ?_ ?_ (fun t hM => ?_)
              | refine vc_pure (rot_ok (ga t (by omega)) (-7) 7 (by decide) (by decide) (by decide)) ?_ ?_ ?_ | refine vc_pure (rot_ok (ga t (by omega)) (-18) 18 (by decide) (by decide) (by decide)) ?_ ?_ ?_
              | refine vc_pure (rot_ok (gb t (by omega)) (-17) 17 (by decide) (by decide) (by decide)) ?_ ?_ ?_ | refine vc_pure (rot_ok (gb t (by omega)) (-19) 19 (by decide) (by decide) (by decide)) ?_ ?_ ?_
              | refine vc_weakf [] ?_ ?_ ?_ | refine vc_and ?_ ?_ | refine vc_ret [] [] ?_)
      | ((with_reducible first | refine vc_caseD (fun h => ?_) (fun h => ?_) | refine vc_caseN (fun h => ?_) (fun h => ?_)) <;> try (exfalso; omega))
      | ((with_reducible refine vc_case (fun h => ?_) (fun h => ?_)) <;> (try simp only [Go.Sym.vs1, reduceCtorEq] at h) <;> try (exfalso; first | omega | (simp at h; done)))
      | (conv in Vc _ => arg 1; whnf
         first
          | (with_reducible refine vc_side0 ?_; rfl)
          | (with_reducible first
              | refine vc_true ?_ | refine vc_true2 ?_ | refine vc_side ?_ ?_ | refine vc_triv | refine vc_later ?_ | refine vc_caseT ?_ | refine vc_caseF ?_ | refine vc_cons ?_ | refine vc_nil ?_ ?_ | refine vc_seq ?_
                 | refine vc_region ?_ | refine vc_cond ?_ | refine vc_block ?_ | refine vc_retc ?_ | refine vc_exit ?_ | refine vc_skip ?_ | refine vc_scope ?_ | refine vc_label ?_ | refine vc_goto ?_ | refine vc_wkSl0
                 | refine vc_wkHp0 | refine vc_eqAVs0 | refine vc_preG0 | refine vc_wkSl ?_ ?_ | refine vc_wkHp ?_ ?_ | refine vc_eqAVs ?_ ?_ | refine vc_preG ?_ ?_ | refine vc_side0 ?_
                 | refine vc_loopI (y := .seq (.region 3 _ _) _) 66 (fun (t : Nat) => [(0, .ptr 9 [.fld 1 8]), (2, .ptr 1000 []), (3, .ptr 2000 []), (10, .d (.int .i64 (t : Int)))]) (fun t => [(9, hsh hs bl hv n), (1000, .var (.d (.arr 64 1 (List.replicate 64 (.int .u32 0))))), (2000, .var (.d (.arr 64 1 (padW ((List.range t).map (wordAt bl))))))]) (fun t => 16 - t) (fun t => t ≤ 16) 0 [] ?_ ?_ ?_ ?_ ?_ (fun t hI => ?_)
                 | refine vc_call [] (word_ok hs bl hv n hb t (by omega)) ?_ | refine vc_nextI (t + 1) [] ?_ ?_ ?_ ?_ ?_ ?_
                 | refine vc_loopI (y := .seq (.seq (.region 8 _ _) _) _) 66 (fun (t : Nat) => [(2, .ptr 1000 []), (3, .ptr 2000 []), (5, .d (.int .i64 ((16 + t : Nat) : Int)))]) (fun t => [(9, hsh hs bl hv n), (1000, .var (.d (.arr 64 1 (List.replicate 64 (.int .u32 0))))), (2000, .var (.d (.arr 64 1 (padW (sched bl t)))))]) (fun t => 48 - t) (fun t => t ≤ 48) 0 [] ?_ ?_ ?_ ?_ ?_ (fun t hM => ?_)
                 | refine vc_pure (rot_ok (ga t (by omega)) (-7) 7 (by decide) (by decide) (by decide)) ?_ ?_ ?_ | refine vc_pure (rot_ok (ga t (by omega)) (-18) 18 (by decide) (by decide) (by decide)) ?_ ?_ ?_
                 | refine vc_pure (rot_ok (gb t (by omega)) (-17) 17 (by decide) (by decide) (by decide)) ?_ ?_ ?_ | refine vc_pure (rot_ok (gb t (by omega)) (-19) 19 (by decide) (by decide) (by decide)) ?_ ?_ ?_
                 | refine vc_weakf [] ?_ ?_ ?_ | refine vc_and ?_ ?_ | refine vc_ret [] [] ?_)
          | ((with_reducible first | refine vc_caseD (fun h => ?_) (fun h => ?_) | refine vc_caseN (fun h => ?_) (fun h => ?_)) <;> try (exfalso; omega))
          | ((with_reducible refine vc_case (fun h => ?_) (fun h => ?_)) <;> (try simp only [Go.Sym.vs1, reduceCtorEq] at h) <;> try (exfalso; first | omega | (simp at h; done)))))
  all_goals (try dsimp only)
  all_goals first
    | with_reducible rfl
    | omega
    | (show (0 : Int) ≤ _; decide)
    | exact ⟨by omega, by omega⟩
    | (show D.int .i64 _ = D.int .i64 _; first | rfl | (congr 1; rw [wrap64_id (by omega) (by omega)]; omega))
    | skip
  all_goals first
    | (have hm := hM
       first
       | (obtain rfl : t = 48 := by omega
          rw [padW_full (sched_length bl 48)]; done)
       | (simp only [r1 t (by omega), r2 t (by omega), r3 t (by omega), r4 t (by omega), Int.toNat_natCast]
          first
          | exact ⟨by omega, by omega⟩
          | (rw [r0 t _ (by omega)]; exact ⟨⟨by omega, trivial⟩, rfl⟩))
       | (rw [ga t (by omega), gb t (by omega), gc t (by omega), gd t (by omega)]
          have s1 : ∀ x : W32, shrI .u32 (wI x) 3 = wI (x >>> 3) := fun x => w_shr x (k := 3) (by omega)
          have s2 : ∀ x : W32, shrI .u32 (wI x) 10 = wI (x >>> 10) := fun x => w_shr x (k := 10) (by omega)
          simp only [s1, s2, w_xor, w_add, Int.toNat_natCast]
          exact congrArg (D.arr 64 1) (r7 t (by omega)))
       | skip)
    | (have ht := hI
       first
       | (rw [r5 t (by omega)]; first | omega | exact ⟨⟨by omega, by omega, by omega⟩, trivial⟩)
       | (rw [Int.toNat_natCast]; exact congrArg (D.arr 64 1) (r6 t (by omega)))
       | (have e : t = 16 := by omega
          subst e
          exact congrArg (D.arr 64 1) rfl)
       | skip)
    | rfl
    | skip

end Go.Proofs.Ytcdjheiccefcdaa

/-
A block taken in.
-/
set_option linter.unusedSimpArgs false
set_option linter.unusedVariables false
namespace Go.Proofs.Ytcdjheiccefcdaa
open Go.Sym
set_option maxRecDepth 10000
set_option maxHeartbeats 8000000

theorem words8 {v : List W32} (h : v.length = 8) : ∃ a b c d e f g i, v = [a, b, c, d, e, f, g, i] := by
  match v, h with
  | [a, b, c, d, e, f, g, i], _ => exact ⟨a, b, c, d, e, f, g, i, rfl⟩

theorem w8_get {v : List W32} (k : Nat) (hk : k < v.length) : (v.map wD).getD k .nilp = wD (v.getD k 0) := by
  rw [List.getD_eq_getElem?_getD, List.getElem?_map, List.getD_eq_getElem?_getD, List.getElem?_eq_getElem hk]; rfl

/-- The words moved by one. -/
def over8 (v : List W32) : List D := overD (v.map wD) ((v.map wD).take 7) 1 7

theorem over8_four {v : List W32} (h : v.length = 8) : (over8 v).getD 4 .nilp = wD (v.getD 3 0) := by
  obtain ⟨a, b, c, d, e, f, g, i, rfl⟩ := words8 h
  rfl

theorem over8_set {v : List W32} (h : v.length = 8) (x y : W32) : ((over8 v).set 0 (wD x)).set 4 (wD y) = [x, v.getD 0 0, v.getD 1 0, v.getD 2 0, y, v.getD 4 0, v.getD 5 0, v.getD 6 0].map wD := by
  obtain ⟨a, b, c, d, e, f, g, i, rfl⟩ := words8 h
  rfl

theorem addW_get (h v : List W32) {i : Nat} (hi : i < 8) : (addW h v i).getD i 0 = h.getD i 0 := by
  unfold addW
  rw [List.getD_eq_getElem?_getD, List.getElem?_map, List.getElem?_range hi]
  simp

theorem addW_length (h v : List W32) (i : Nat) : (addW h v i).length = 8 := by simp [addW]

theorem addW_set (h v : List W32) {i : Nat} (hi : i < 8) : ((addW h v i).map wD).set i (wD (h.getD i 0 + v.getD i 0)) = (addW h v (i + 1)).map wD := by
  rw [← List.map_set]
  congr 1
  apply List.ext_getElem?
  intro k
  unfold addW
  rw [List.getElem?_set]
  by_cases hk : i = k
  · subst hk
    simp [hi]
  · rw [if_neg hk, List.getElem?_map, List.getElem?_map]
    by_cases h8 : k < 8
    · rw [List.getElem?_range h8]
      have : decide (k < i) = decide (k < i + 1) := by
        by_cases h1 : k < i
        · rw [decide_eq_true h1, decide_eq_true (show k < i + 1 by omega)]
        · rw [decide_eq_false h1, decide_eq_false (show ¬ k < i + 1 by omega)]
      simp [this]
    · rw [List.getElem?_eq_none (by simpa using h8)]; rfl

theorem addW_zero {h : List W32} (v : List W32) (hh : h.length = 8) : addW h v 0 = h := by
  obtain ⟨a, b, c, d, e, f, g, i, rfl⟩ := words8 hh
  rfl

theorem over8_eq {v : List W32} (h : v.length = 8) : overD (v.map wD) (List.take (7 - 0) (List.drop 0 (v.map wD))) 1 (min (List.take (7 - 0) (List.drop 0 (v.map wD))).length (8 - 1)) = over8 v := by
  obtain ⟨a, b, c, d, e, f, g, i, rfl⟩ := words8 h
  rfl

theorem n0 : Int.toNat 0 = 0 := rfl
theorem n1 : Int.toNat 1 = 1 := rfl
theorem n2 : Int.toNat 2 = 2 := rfl
theorem n3 : Int.toNat 3 = 3 := rfl
theorem n4 : Int.toNat 4 = 4 := rfl
theorem n5 : Int.toNat 5 = 5 := rfl
theorem n6 : Int.toNat 6 = 6 := rfl
theorem n7 : Int.toNat 7 = 7 := rfl
theorem n8 : (((8 : Nat) : Int)).toNat = 8 := rfl

theorem mix_ok (hs : List W32) (bl : List UInt8) (hv n : Nat) (hh : hs.length = 8) (hb : bl.length = 64) :
    LocalCall Try.prog 98 [.ptr 9 []] [(9, hsh hs bl hv n)] [] (one []) [(9, hsh (sblock hs bl) bl 0 n)] := by
  have hV : ∀ t, (srounds sK (sched bl 48) hs t).length = 8 := srounds_length _ _ hh
  have g : ∀ t k, k < 8 → ((srounds sK (sched bl 48) hs t).map wD).getD k .nilp = wD ((srounds sK (sched bl 48) hs t).getD k 0) := fun t k hk => w8_get k (by rw [hV]; exact hk)
  have g0 : ∀ t, (((srounds sK (sched bl 48) hs t).map wD).getD (Int.toNat 0) .nilp).toInt = wI ((srounds sK (sched bl 48) hs t).getD 0 0) := fun t => by rw [show Int.toNat 0 = 0 from rfl, g t 0 (by omega)]; rfl
  have g4 : ∀ t, (((srounds sK (sched bl 48) hs t).map wD).getD (Int.toNat 4) .nilp).toInt = wI ((srounds sK (sched bl 48) hs t).getD 4 0) := fun t => by rw [show Int.toNat 4 = 4 from rfl, g t 4 (by omega)]; rfl
  refine vc_fn mixed Try.func98 rfl rfl [] (vc_chk rfl) ?_
  repeat' (first
      | ((with_reducible refine vc_chk ?_); first | decide +kernel | rfl)
      | (with_reducible refine vc_side0 ?_; rfl)
      | (with_reducible first
           | refine vc_true ?_ | refine vc_true2 ?_ | refine vc_side ?_ ?_ | refine vc_triv | refine vc_later ?_ | refine vc_caseT ?_ | refine vc_caseF ?_ | refine vc_cons ?_ | refine vc_nil ?_ ?_ | refine vc_seq ?_
              | refine vc_region ?_ | refine vc_cond ?_ | refine vc_block ?_ | refine vc_retc ?_ | refine vc_exit ?_ | refine vc_skip ?_ | refine vc_scope ?_ | refine vc_label ?_ | refine vc_goto ?_ | refine vc_wkSl0
              | refine vc_wkHp0 | refine vc_eqAVs0 | refine vc_preG0 | refine vc_wkSl ?_ ?_ | refine vc_wkHp ?_ ?_ | refine vc_eqAVs ?_ ?_ | refine vc_preG ?_ ?_ | refine vc_side0 ?_
              | refine vc_call [] (spread_ok hs bl hv n hb) ?_ | refine vc_pure factors_ok ?_ ?_ ?_
              | refine vc_loopI (y := .seq (.region 2 _ _) _) 115 (fun (t : Nat) => [(0, .ptr 9 []), (2, .ptr 1036 []), (3, .ptr 1040 []), (4, .ptr 1044 []), (21, .d (.int .i64 (t : Int)))]) (fun t => [(9, hsh hs bl hv n), (1036, .var (.d (.arr 64 1 ((sched bl 48).map wD)))), (1040, .var (.d (.arr 64 1 (sK.map wD)))), (1044, .var (.d (.arr 8 1 ((srounds sK (sched bl 48) hs t).map wD))))]) (fun t => 64 - t) (fun t => t ≤ 64) 0 [] ?_ ?_ ?_ ?_ ?_ (fun t hI => ?_)
              | refine vc_loopI (y := .seq (.region 11 _ _) _) 115 (fun (t : Nat) => [(0, .ptr 9 []), (95, .d (.arr 8 1 ((srounds sK (sched bl 48) hs 64).map wD))), (96, .d (.int .i64 (t : Int)))]) (fun t => [(9, hsh (addW hs (srounds sK (sched bl 48) hs 64) t) bl hv n)]) (fun t => 8 - t) (fun t => t ≤ 8) 0 [] ?_ ?_ ?_ ?_ ?_ (fun t hM => ?_)
              | refine vc_nextI (t + 1) [] ?_ ?_ ?_ ?_ ?_ ?_ | refine vc_pure (rot_ok (g0 t) (-2) 2 (by decide) (by decide) (by decide)) ?_ ?_ ?_
              | refine vc_pure (rot_ok (g0 t) (-13) 13 (by decide) (by decide) (by decide)) ?_ ?_ ?_ | refine vc_pure (rot_ok (g0 t) (-22) 22 (by decide) (by decide) (by decide)) ?_ ?_ ?_
              | refine vc_pure (rot_ok (g4 t) (-6) 6 (by decide) (by decide) (by decide)) ?_ ?_ ?_ | refine vc_pure (rot_ok (g4 t) (-11) 11 (by decide) (by decide) (by decide)) ?_ ?_ ?_
              | refine vc_pure (rot_ok (g4 t) (-25) 25 (by decide) (by decide) (by decide)) ?_ ?_ ?_ | refine vc_weakf [] ?_ ?_ ?_ | refine vc_and ?_ ?_ | refine vc_ret [] [] ?_)
      | ((with_reducible first | refine vc_caseD (fun h => ?_) (fun h => ?_) | refine vc_caseN (fun h => ?_) (fun h => ?_)) <;> try (exfalso; omega))
      | ((with_reducible refine vc_case (fun h => ?_) (fun h => ?_)) <;> (try simp only [Go.Sym.vs1, reduceCtorEq] at h) <;> try (exfalso; first | omega | (simp at h; done)))
      | (conv in Vc _ => arg 1; whnf
         first
          | (with_reducible refine vc_side0 ?_; rfl)
          | (with_reducible first
              | refine vc_true ?_ | refine vc_true2 ?_ | refine vc_side ?_ ?_ | refine vc_triv | refine vc_later ?_ | refine vc_caseT ?_ | refine vc_caseF ?_ | refine vc_cons ?_ | refine vc_nil ?_ ?_ | refine vc_seq ?_
                 | refine vc_region ?_ | refine vc_cond ?_ | refine vc_block ?_ | refine vc_retc ?_ | refine vc_exit ?_ | refine vc_skip ?_ | refine vc_scope ?_ | refine vc_label ?_ | refine vc_goto ?_ | refine vc_wkSl0
                 | refine vc_wkHp0 | refine vc_eqAVs0 | refine vc_preG0 | refine vc_wkSl ?_ ?_ | refine vc_wkHp ?_ ?_ | refine vc_eqAVs ?_ ?_ | refine vc_preG ?_ ?_ | refine vc_side0 ?_
                 | refine vc_call [] (spread_ok hs bl hv n hb) ?_ | refine vc_pure factors_ok ?_ ?_ ?_
                 | refine vc_loopI (y := .seq (.region 2 _ _) _) 115 (fun (t : Nat) => [(0, .ptr 9 []), (2, .ptr 1036 []), (3, .ptr 1040 []), (4, .ptr 1044 []), (21, .d (.int .i64 (t : Int)))]) (fun t => [(9, hsh hs bl hv n), (1036, .var (.d (.arr 64 1 ((sched bl 48).map wD)))), (1040, .var (.d (.arr 64 1 (sK.map wD)))), (1044, .var (.d (.arr 8 1 ((srounds sK (sched bl 48) hs t).map wD))))]) (fun t => 64 - t) (fun t => t ≤ 64) 0 [] ?_ ?_ ?_ ?_ ?_ (fun t hI => ?_)
                 | refine vc_loopI (y := .seq (.region 11 _ _) _) 115 (fun (t : Nat) => [(0, .ptr 9 []), (95, .d (.arr 8 1 ((srounds sK (sched bl 48) hs 64).map wD))), (96, .d (.int .i64 (t : Int)))]) (fun t => [(9, hsh (addW hs (srounds sK (sched bl 48) hs 64) t) bl hv n)]) (fun t => 8 - t) (fun t => t ≤ 8) 0 [] ?_ ?_ ?_ ?_ ?_ (fun t hM => ?_)
                 | refine vc_nextI (t + 1) [] ?_ ?_ ?_ ?_ ?_ ?_ | refine vc_pure (rot_ok (g0 t) (-2) 2 (by decide) (by decide) (by decide)) ?_ ?_ ?_
                 | refine vc_pure (rot_ok (g0 t) (-13) 13 (by decide) (by decide) (by decide)) ?_ ?_ ?_ | refine vc_pure (rot_ok (g0 t) (-22) 22 (by decide) (by decide) (by decide)) ?_ ?_ ?_
                 | refine vc_pure (rot_ok (g4 t) (-6) 6 (by decide) (by decide) (by decide)) ?_ ?_ ?_ | refine vc_pure (rot_ok (g4 t) (-11) 11 (by decide) (by decide) (by decide)) ?_ ?_ ?_
                 | refine vc_pure (rot_ok (g4 t) (-25) 25 (by decide) (by decide) (by decide)) ?_ ?_ ?_ | refine vc_weakf [] ?_ ?_ ?_ | refine vc_and ?_ ?_ | refine vc_ret [] [] ?_)
          | ((with_reducible first | refine vc_caseD (fun h => ?_) (fun h => ?_) | refine vc_caseN (fun h => ?_) (fun h => ?_)) <;> try (exfalso; omega))
          | ((with_reducible refine vc_case (fun h => ?_) (fun h => ?_)) <;> (try simp only [Go.Sym.vs1, reduceCtorEq] at h) <;> try (exfalso; first | omega | (simp at h; done)))))
  all_goals (try dsimp only)
  all_goals first
    | with_reducible rfl
    | omega
    | exact ⟨by omega, by omega⟩
    | exact ⟨⟨by omega, by omega, by omega⟩, trivial⟩
    | (show D.int .i64 _ = D.int .i64 _; first | rfl | (congr 1; rw [wrap64_id (by omega) (by omega)]; omega))
    | skip
  all_goals first
    | (have hm := hM
       first
       | (have ht : t < 8 := by omega
          rw [Int.toNat_natCast, w8_get t (by rw [hV]; exact ht)]
          exact ⟨⟨by omega, by omega⟩, rfl⟩)
       | (have ht : t < 8 := by omega
          rw [Int.toNat_natCast, w8_get t (by rw [addW_length]; exact ht)]
          exact ⟨⟨by omega, trivial⟩, rfl⟩)
       | (have ht : t < 8 := by omega
          have a1 := w8_get (v := srounds sK (sched bl 48) hs 64) t (by rw [hV]; exact ht)
          have a2 := w8_get (v := addW hs (srounds sK (sched bl 48) hs 64) t) t (by rw [addW_length]; exact ht)
          rw [Int.toNat_natCast, a1, a2, addW_get _ _ ht]
          have e1 : (wD (hs.getD t 0)).toInt = wI (hs.getD t 0) := rfl
          have e2 : (wD ((srounds sK (sched bl 48) hs 64).getD t 0)).toInt = wI ((srounds sK (sched bl 48) hs 64).getD t 0) := rfl
          rw [e1, e2, w_add]
          have e3 := addW_set hs (srounds sK (sched bl 48) hs 64) ht
          have e4 : wD (hs.getD t 0 + (srounds sK (sched bl 48) hs 64).getD t 0) = D.int .u32 (wI (hs.getD t 0 + (srounds sK (sched bl 48) hs 64).getD t 0)) := rfl
          rw [← e4, e3]; done)
       | (have e : t = 8 := by omega
          subst e
          rfl)
       | skip)
    | (have ht := hI
       (try simp only [n0, n1, n2, n3, n4, n5, n6, n7, n8, over8_eq (hV t), Int.toNat_natCast])
       first
       | (rw [g t _ (by omega)]; exact ⟨⟨by omega, trivial⟩, rfl⟩)
       | (rw [w8_get t (by rw [sched_length]; omega)]; exact ⟨⟨by omega, trivial⟩, rfl⟩)
       | (rw [w8_get t (show t < sK.length from (by omega : t < 64))]; exact ⟨⟨by omega, trivial⟩, rfl⟩)
       | (rw [over8_four (hV t)]; exact ⟨⟨by omega, trivial⟩, rfl⟩)
       | (refine ⟨⟨⟨⟨trivial, ?_⟩, trivial, trivial⟩, ?_⟩, fun y hy => ?_⟩
          · rw [List.length_map, hV t]; omega
          · rw [List.length_map, hV t]; omega
          · obtain ⟨c, _, rfl⟩ := List.mem_map.1 (List.mem_of_mem_drop (List.mem_of_mem_take hy)); rfl)
       | (have gi : ∀ k, k < 8 → (((srounds sK (sched bl 48) hs t).map wD).getD k .nilp).toInt = wI ((srounds sK (sched bl 48) hs t).getD k 0) := fun k hk => by rw [g t k hk]; rfl
          have gk : ((sK.map wD).getD t .nilp).toInt = wI (sK.getD t 0) := by rw [w8_get t (show t < sK.length from (by omega : t < 64))]; rfl
          have gw : (((sched bl 48).map wD).getD t .nilp).toInt = wI ((sched bl 48).getD t 0) := by rw [w8_get t (by rw [sched_length]; omega)]; rfl
          have go : ((over8 (srounds sK (sched bl 48) hs t)).getD 4 .nilp).toInt = wI ((srounds sK (sched bl 48) hs t).getD 3 0) := by rw [over8_four (hV t)]; rfl
          simp only [gi 0 (by omega), gi 1 (by omega), gi 2 (by omega), gi 4 (by omega), gi 5 (by omega), gi 6 (by omega), gi 7 (by omega), gk, gw, go, w_not, w_xor, w_and, w_add]
          exact congrArg (D.arr 8 1) (over8_set (hV t) _ _))
       | (have e : t = 64 := by omega
          subst e
          first
          | with_reducible rfl
          | (rw [addW_zero _ hh]; done))
       | skip)
    | with_reducible rfl
    | exact congrArg (D.arr 8 1) rfl
    | skip

end Go.Proofs.Ytcdjheiccefcdaa

/-
Bytes taken in.
-/
set_option linter.unusedSimpArgs false
set_option linter.unusedVariables false
namespace Go.Proofs.Ytcdjheiccefcdaa
open Go.Sym
set_option maxRecDepth 10000
set_option maxHeartbeats 8000000

/-- A block written over. -/
def blk (bl b : List UInt8) (hv n : Nat) : List UInt8 := bl.take hv ++ b.take n ++ bl.drop (hv + n)

theorem blk_length {bl b : List UInt8} {hv n : Nat} (hb : bl.length = 64) (hn : n ≤ b.length) (h : hv + n ≤ 64) : (blk bl b hv n).length = 64 := by
  unfold blk; simp; omega

theorem blk_over (bl b : List UInt8) (hv n : Nat) : overD (bl.map byteD) (b.map byteD) hv n = (blk bl b hv n).map byteD := by
  unfold overD blk
  simp only [List.map_append, List.map_take, List.map_drop]

theorem sstate_more {m c : List UInt8} (h : m.length % 64 + c.length < 64) : sstate (m ++ c) = sstate m := by
  unfold sstate
  have e : m ++ c = m.take (m.length / 64 * 64) ++ (srest m ++ c) := by
    rw [← List.append_assoc]; congr 1
    exact (List.take_append_drop _ _).symm
  have hl : (m.take (m.length / 64 * 64)).length = m.length / 64 * 64 := by rw [List.length_take]; omega
  rw [e, sblocks_append _ _ _ (by rw [hl]; omega), sblocks_small (m := srest m ++ c) (by rw [List.length_append, srest_length]; omega), sblocks_rest _ m]

theorem sstate_block {m c : List UInt8} (h : m.length % 64 + c.length = 64) : sstate (m ++ c) = sblock (sstate m) (srest m ++ c) := by
  have hr : (srest m ++ c).length = 64 := by rw [List.length_append, srest_length]; exact h
  unfold sstate
  have e : m ++ c = m.take (m.length / 64 * 64) ++ (srest m ++ c) := by
    rw [← List.append_assoc]; congr 1
    exact (List.take_append_drop _ _).symm
  have hl : (m.take (m.length / 64 * 64)).length = m.length / 64 * 64 := by rw [List.length_take]; omega
  have t : (srest m ++ c).take 64 = srest m ++ c := List.take_of_length_le (by omega)
  have d : (srest m ++ c).drop 64 = [] := List.drop_of_length_le (by omega)
  rw [e, sblocks_append _ _ _ (by rw [hl]; omega), sblocks_big (m := srest m ++ c) (by omega), t, d, sblocks_small (m := []) (by simp), ← sblocks_rest]

theorem srest_more {m c : List UInt8} (h : m.length % 64 + c.length < 64) : srest (m ++ c) = srest m ++ c := by
  unfold srest
  have e : (m ++ c).length / 64 * 64 = m.length / 64 * 64 := by rw [List.length_append]; omega
  rw [e, List.drop_append_of_le_length (by omega)]

theorem srest_block {m c : List UInt8} (h : m.length % 64 + c.length = 64) : srest (m ++ c) = [] := by
  apply List.eq_nil_of_length_eq_zero
  rw [srest_length, List.length_append]; omega

/-- The block behind all bytes. -/
def wrB (bl : List UInt8) (hv : Nat) (b : List UInt8) : List UInt8 :=
  if _h : b = [] ∨ 64 ≤ hv then bl else wrB (blk bl b hv (min b.length (64 - hv))) ((hv + min b.length (64 - hv)) % 64) (b.drop (min b.length (64 - hv)))
termination_by b.length
decreasing_by
  rw [List.length_drop]
  have h1 : 0 < b.length := List.length_pos_iff.2 (fun e => _h (.inl e))
  omega

theorem wrB_nil (bl : List UInt8) (hv : Nat) : wrB bl hv [] = bl := by rw [wrB, dif_pos (.inl rfl)]
theorem wrB_step {bl : List UInt8} {hv : Nat} {b : List UInt8} (h : 0 < b.length) (hh : hv < 64) : wrB bl hv b = wrB (blk bl b hv (min b.length (64 - hv))) ((hv + min b.length (64 - hv)) % 64) (b.drop (min b.length (64 - hv))) := by
  rw [wrB, dif_neg]
  rintro (rfl | h2)
  · simp at h
  · omega

structure WrI (M BL : List UInt8) (x : List UInt8 × List UInt8 × List UInt8) : Prop where
  e : wrB x.2.1 (x.1.length % 64) x.2.2 = BL
  m : x.1 ++ x.2.2 = M
  l : x.2.1.length = 64
  r : x.2.1.take (x.1.length % 64) = srest x.1

def wrN (x : List UInt8 × List UInt8 × List UInt8) : Nat := min x.2.2.length (64 - x.1.length % 64)
def wrX (x : List UInt8 × List UInt8 × List UInt8) : List UInt8 × List UInt8 × List UInt8 := (x.1 ++ x.2.2.take (wrN x), blk x.2.1 x.2.2 (x.1.length % 64) (wrN x), x.2.2.drop (wrN x))

theorem WrI.next {M BL : List UInt8} {x : List UInt8 × List UInt8 × List UInt8} (hI : WrI M BL x) (hb : 0 < x.2.2.length) : WrI M BL (wrX x) := by
  obtain ⟨m, bl, b⟩ := x
  obtain ⟨e, hm, l, r⟩ := hI
  simp only at e hm l r hb
  have hlt : m.length % 64 < 64 := Nat.mod_lt _ (by omega)
  have hn1 : min b.length (64 - m.length % 64) ≤ b.length := Nat.min_le_left _ _
  have hn2 : min b.length (64 - m.length % 64) ≤ 64 - m.length % 64 := Nat.min_le_right _ _
  have hl : (m ++ b.take (min b.length (64 - m.length % 64))).length % 64 = (m.length % 64 + min b.length (64 - m.length % 64)) % 64 := by
    rw [List.length_append, List.length_take]; omega
  refine ⟨?_, ?_, ?_, ?_⟩ <;> simp only [wrX, wrN]
  · rw [hl, ← wrB_step hb hlt]; exact e
  · rw [List.append_assoc, List.take_append_drop]; exact hm
  · exact blk_length l hn1 (by omega)
  · rw [hl]
    have hc : (b.take (min b.length (64 - m.length % 64))).length = min b.length (64 - m.length % 64) := by rw [List.length_take]; omega
    rcases Nat.lt_or_ge (m.length % 64 + min b.length (64 - m.length % 64)) 64 with h64 | h64
    · rw [Nat.mod_eq_of_lt h64, srest_more (by rw [hc]; exact h64), ← r]
      unfold blk
      rw [List.take_append_of_le_length (by rw [List.length_append, List.length_take, hc]; omega), List.take_of_length_le (by rw [List.length_append, List.length_take, hc]; omega)]
    · have h64 : m.length % 64 + min b.length (64 - m.length % 64) = 64 := by omega
      rw [h64, srest_block (by rw [hc]; exact h64)]; rfl

theorem WrI.mixes {M BL : List UInt8} {x : List UInt8 × List UInt8 × List UInt8} (hI : WrI M BL x) (h : x.1.length % 64 + wrN x = 64) : sblock (sstate x.1) (wrX x).2.1 = sstate (wrX x).1 ∧ (wrX x).1.length % 64 = 0 := by
  obtain ⟨m, bl, b⟩ := x
  obtain ⟨e, hm, l, r⟩ := hI
  simp only [wrN] at e hm l r h
  have hc : (b.take (min b.length (64 - m.length % 64))).length = min b.length (64 - m.length % 64) := by rw [List.length_take]; omega
  simp only [wrX, wrN]
  refine ⟨?_, by rw [List.length_append, hc]; omega⟩
  rw [sstate_block (by rw [hc]; exact h), ← r]
  unfold blk
  rw [h, List.drop_of_length_le (by omega), List.append_nil]

theorem WrI.stays {M BL : List UInt8} {x : List UInt8 × List UInt8 × List UInt8} (hI : WrI M BL x) (h : x.1.length % 64 + wrN x < 64) : sstate (wrX x).1 = sstate x.1 ∧ (wrX x).1.length % 64 = x.1.length % 64 + wrN x := by
  obtain ⟨m, bl, b⟩ := x
  simp only [wrN] at h
  have hc : (b.take (min b.length (64 - m.length % 64))).length = min b.length (64 - m.length % 64) := by rw [List.length_take]; omega
  simp only [wrX, wrN]
  exact ⟨sstate_more (by rw [hc]; exact h), by rw [List.length_append, hc]; omega⟩

/-- What is known of the block behind all bytes. -/
theorem wrB_ok : ∀ (k : Nat) (m bl b : List UInt8), b.length ≤ k → bl.length = 64 → bl.take (m.length % 64) = srest m → (wrB bl (m.length % 64) b).length = 64 ∧ (wrB bl (m.length % 64) b).take ((m ++ b).length % 64) = srest (m ++ b)
  | k, m, bl, [], _, l, r => by rw [wrB_nil, List.append_nil]; exact ⟨l, r⟩
  | 0, m, bl, c :: b, hk, _, _ => by simp at hk
  | k + 1, m, bl, c :: b, hk, l, r => by
    have hI : WrI (m ++ (c :: b)) (wrB bl (m.length % 64) (c :: b)) (m, bl, c :: b) := ⟨rfl, rfl, l, r⟩
    have hI2 := hI.next (by simp)
    have hlt : m.length % 64 < 64 := Nat.mod_lt _ (by omega)
    have hlen : ((c :: b).drop (wrN (m, bl, c :: b))).length ≤ k := by
      rw [List.length_drop]
      simp only [wrN, List.length_cons] at hk ⊢
      omega
    have := wrB_ok k (wrX (m, bl, c :: b)).1 (wrX (m, bl, c :: b)).2.1 (wrX (m, bl, c :: b)).2.2 hlen hI2.l hI2.r
    rw [hI2.e, hI2.m] at this
    exact this

/-- A hash to which a text was written. -/
def hst (m bl : List UInt8) : AObj := hsh (sstate m) bl (m.length % 64) m.length

theorem pos_map {l : List UInt8} (h : ((l.map byteD).length : Int) > 0) : 0 < l.length := by rw [List.length_map] at h; omega

theorem write_ok (m bl b : List UInt8) (l : bl.length = 64) (r : bl.take (m.length % 64) = srest m) (hl : m.length + b.length < 2 ^ 60) :
    LocalCall Try.prog 92 [.ptr 9 [], .d (.sl (b.map byteD))] [(9, hst m bl)] [] (one []) [(9, hst (m ++ b) (wrB bl (m.length % 64) b))] := by
  have w0 : IntKind.u64.wrap ((m.length : Int) + IntKind.u64.wrap ((b.map byteD).length : Int)) = (((m ++ b).length : Nat) : Int) := by
    rw [List.length_map, List.length_append, u64_wrap, u64_wrap]; omega
  refine vc_fn mixed Try.func92 rfl rfl [] (vc_chk rfl) ?_
  repeat' (first
      | ((with_reducible refine vc_chk ?_); first | decide +kernel | rfl)
      | (with_reducible refine vc_side0 ?_; rfl)
      | (with_reducible first
           | refine vc_true ?_ | refine vc_true2 ?_ | refine vc_side ?_ ?_ | refine vc_triv | refine vc_later ?_ | refine vc_caseT ?_ | refine vc_caseF ?_ | refine vc_cons ?_ | refine vc_nil ?_ ?_ | refine vc_seq ?_
              | refine vc_region ?_ | refine vc_cond ?_ | refine vc_block ?_ | refine vc_retc ?_ | refine vc_exit ?_ | refine vc_skip ?_ | refine vc_scope ?_ | refine vc_label ?_ | refine vc_goto ?_ | refine vc_wkSl0
              | refine vc_wkHp0 | refine vc_eqAVs0 | refine vc_preG0 | refine vc_wkSl ?_ ?_ | refine vc_wkHp ?_ ?_ | refine vc_eqAVs ?_ ?_ | refine vc_preG ?_ ?_ | refine vc_side0 ?_
              | refine vc_loopI 47 (fun (x : List UInt8 × List UInt8 × List UInt8) => [(0, .ptr 9 []), (1, .d (.sl (x.2.2.map byteD)))]) (fun x => [(9, hsh (sstate x.1) x.2.1 (x.1.length % 64) (m ++ b).length)]) (fun x => x.2.2.length) (WrI (m ++ b) (wrB bl (m.length % 64) b)) (m, bl, b) [] ?_ ?_ ?_ ?_ ?_ (fun x hI => ?_)
              | refine vc_call [] (mix_ok (sstate x.1) (wrX x).2.1 64 (m ++ b).length (sstate_length _) (hI.next (pos_map (by assumption))).l) ?_ | refine vc_nextI (wrX x) [] ?_ ?_ ?_ ?_ ?_ ?_ | refine vc_weakf [] ?_ ?_ ?_
              | refine vc_and ?_ ?_ | refine vc_ret [] [] ?_)
      | ((with_reducible first | refine vc_caseD (fun h => ?_) (fun h => ?_) | refine vc_caseN (fun h => ?_) (fun h => ?_)) <;> try (exfalso; omega))
      | ((with_reducible refine vc_case (fun h => ?_) (fun h => ?_)) <;> (try simp only [Go.Sym.vs1, reduceCtorEq] at h) <;> try (exfalso; first | omega | (simp at h; done)))
      | (conv in Vc _ => arg 1; whnf
         first
          | (with_reducible refine vc_side0 ?_; rfl)
          | (with_reducible first
              | refine vc_true ?_ | refine vc_true2 ?_ | refine vc_side ?_ ?_ | refine vc_triv | refine vc_later ?_ | refine vc_caseT ?_ | refine vc_caseF ?_ | refine vc_cons ?_ | refine vc_nil ?_ ?_ | refine vc_seq ?_
                 | refine vc_region ?_ | refine vc_cond ?_ | refine vc_block ?_ | refine vc_retc ?_ | refine vc_exit ?_ | refine vc_skip ?_ | refine vc_scope ?_ | refine vc_label ?_ | refine vc_goto ?_ | refine vc_wkSl0
                 | refine vc_wkHp0 | refine vc_eqAVs0 | refine vc_preG0 | refine vc_wkSl ?_ ?_ | refine vc_wkHp ?_ ?_ | refine vc_eqAVs ?_ ?_ | refine vc_preG ?_ ?_ | refine vc_side0 ?_
                 | refine vc_loopI 47 (fun (x : List UInt8 × List UInt8 × List UInt8) => [(0, .ptr 9 []), (1, .d (.sl (x.2.2.map byteD)))]) (fun x => [(9, hsh (sstate x.1) x.2.1 (x.1.length % 64) (m ++ b).length)]) (fun x => x.2.2.length) (WrI (m ++ b) (wrB bl (m.length % 64) b)) (m, bl, b) [] ?_ ?_ ?_ ?_ ?_ (fun x hI => ?_)
                 | refine vc_call [] (mix_ok (sstate x.1) (wrX x).2.1 64 (m ++ b).length (sstate_length _) (hI.next (pos_map (by assumption))).l) ?_ | refine vc_nextI (wrX x) [] ?_ ?_ ?_ ?_ ?_ ?_ | refine vc_weakf [] ?_ ?_ ?_
                 | refine vc_and ?_ ?_ | refine vc_ret [] [] ?_)
          | ((with_reducible first | refine vc_caseD (fun h => ?_) (fun h => ?_) | refine vc_caseN (fun h => ?_) (fun h => ?_)) <;> try (exfalso; omega))
          | ((with_reducible refine vc_case (fun h => ?_) (fun h => ?_)) <;> (try simp only [Go.Sym.vs1, reduceCtorEq] at h) <;> try (exfalso; first | omega | (simp at h; done)))))
  all_goals (try dsimp only)
  all_goals first
    | with_reducible rfl
    | exact ⟨rfl, rfl, l, r⟩
    | (rw [w0]; done)
    | skip
  all_goals (try simp only [Int.toNat_natCast, List.length_map, n8] at *)
  all_goals
    have hlt : x.1.length % 64 < 64 := Nat.mod_lt _ (by omega)
    have hnm : min x.2.2.length (64 - x.1.length % 64) = wrN x := rfl
    have hw : IntKind.i64.wrap (((x.1.length % 64 : Nat) : Int) + ((wrN x : Nat) : Int)) = ((x.1.length % 64 + wrN x : Nat) : Int) := by
      rw [wrap64_id (by omega) (by omega)]; rfl
    have hxl := hI.l
    have hn3 : wrN x ≤ x.2.2.length ∧ wrN x ≤ 64 - x.1.length % 64 ∧ (x.2.2.length ≤ wrN x ∨ 64 - x.1.length % 64 ≤ wrN x) := by
      unfold wrN; omega
    try simp only [hnm, hw] at h ⊢
  all_goals first
    | exact ⟨⟨by omega, by omega, by omega⟩, trivial⟩
    | (refine ⟨⟨⟨trivial, trivial, trivial⟩, by omega⟩, fun y hy => ?_⟩
       obtain ⟨c, _, rfl⟩ := List.mem_map.1 hy; rfl)
    | (refine ⟨⟨by omega, by omega, by omega⟩, fun y hy => ?_⟩
       obtain ⟨c, _, rfl⟩ := List.mem_map.1 hy; rfl)
    | exact hI.next (by omega)
    | (show (x.2.2.drop (wrN x)).length < _
       rw [List.length_drop]; omega)
    | (show D.sl _ = D.sl ((x.2.2.drop (wrN x)).map byteD)
       unfold cutD
       rw [Int.toNat_natCast, Int.toNat_natCast, List.take_of_length_le (by rw [List.length_map]; omega), List.map_drop]; done)
    | (obtain ⟨e1, e2⟩ := hI.mixes (by omega)
       rw [e1, e2]; done)
    | (obtain ⟨e1, e2⟩ := hI.stays (by omega)
       rw [e1, e2, blk_over]; rfl)
    | (rw [blk_over, h]; rfl)
    | (have hb : x.2.2 = [] := List.eq_nil_of_length_eq_zero (by omega)
       have e1 := hI.e
       have e2 := hI.m
       rw [hb, wrB_nil] at e1
       rw [hb, List.append_nil] at e2
       rw [← e1, ← e2])

end Go.Proofs.Ytcdjheiccefcdaa

/-
Clones, and what stands behind a text.
-/
set_option linter.unusedSimpArgs false
set_option linter.unusedVariables false
namespace Go.Proofs.Ytcdjheiccefcdaa
open Go.Sym
set_option maxRecDepth 10000
set_option maxHeartbeats 8000000

theorem clone_ok (h : List W32) (bl : List UInt8) (hv n : Nat) : LocalCall Try.prog 99 [.ptr 9 []] [(9, hsh h bl hv n)] [8] (one [.ptr 8 []]) [(8, hsh h bl hv n)] := by
  refine vc_fn mixed Try.func99 rfl rfl [] (vc_chk rfl) ?_
  repeat' (first
      | ((with_reducible refine vc_chk ?_); first | decide +kernel | rfl)
      | (with_reducible refine vc_side0 ?_; rfl)
      | (with_reducible first
           | refine vc_true ?_ | refine vc_true2 ?_ | refine vc_side ?_ ?_ | refine vc_triv | refine vc_later ?_ | refine vc_caseT ?_ | refine vc_caseF ?_ | refine vc_cons ?_ | refine vc_nil ?_ ?_ | refine vc_seq ?_
              | refine vc_region ?_ | refine vc_cond ?_ | refine vc_block ?_ | refine vc_retc ?_ | refine vc_exit ?_ | refine vc_skip ?_ | refine vc_scope ?_ | refine vc_label ?_ | refine vc_goto ?_ | refine vc_wkSl0
              | refine vc_wkHp0 | refine vc_eqAVs0 | refine vc_preG0 | refine vc_wkSl ?_ ?_ | refine vc_wkHp ?_ ?_ | refine vc_eqAVs ?_ ?_ | refine vc_preG ?_ ?_ | refine vc_side0 ?_ | refine vc_ret [] [(8, 2012)] ?_
              | refine vc_weakf [] ?_ ?_ ?_ | refine vc_and ?_ ?_ | refine vc_ret [] [] ?_)
      | ((with_reducible first | refine vc_caseD (fun h => ?_) (fun h => ?_) | refine vc_caseN (fun h => ?_) (fun h => ?_)) <;> try (exfalso; omega))
      | ((with_reducible refine vc_case (fun h => ?_) (fun h => ?_)) <;> (try simp only [Go.Sym.vs1, reduceCtorEq] at h) <;> try (exfalso; first | omega | (simp at h; done)))
      | (conv in Vc _ => arg 1; whnf
         first
          | (with_reducible refine vc_side0 ?_; rfl)
          | (with_reducible first
              | refine vc_true ?_ | refine vc_true2 ?_ | refine vc_side ?_ ?_ | refine vc_triv | refine vc_later ?_ | refine vc_caseT ?_ | refine vc_caseF ?_ | refine vc_cons ?_ | refine vc_nil ?_ ?_ | refine vc_seq ?_
                 | refine vc_region ?_ | refine vc_cond ?_ | refine vc_block ?_ | refine vc_retc ?_ | refine vc_exit ?_ | refine vc_skip ?_ | refine vc_scope ?_ | refine vc_label ?_ | refine vc_goto ?_ | refine vc_wkSl0
                 | refine vc_wkHp0 | refine vc_eqAVs0 | refine vc_preG0 | refine vc_wkSl ?_ ?_ | refine vc_wkHp ?_ ?_ | refine vc_eqAVs ?_ ?_ | refine vc_preG ?_ ?_ | refine vc_side0 ?_ | refine vc_ret [] [(8, 2012)] ?_
                 | refine vc_weakf [] ?_ ?_ ?_ | refine vc_and ?_ ?_ | refine vc_ret [] [] ?_)
          | ((with_reducible first | refine vc_caseD (fun h => ?_) (fun h => ?_) | refine vc_caseN (fun h => ?_) (fun h => ?_)) <;> try (exfalso; omega))
          | ((with_reducible refine vc_case (fun h => ?_) (fun h => ?_)) <;> (try simp only [Go.Sym.vs1, reduceCtorEq] at h) <;> try (exfalso; first | omega | (simp at h; done)))))
  all_goals rfl

theorem shl3 (n : Nat) : shlI .u64 (n : Int) 3 = ((n * 8 % 18446744073709551616 : Nat) : Int) := by
  have hm : min (3 : Int).toNat IntKind.u64.bits = 3 := by decide
  unfold shlI
  rw [hm, u64_wrap]
  omega

theorem mul8 (n : Nat) : IntKind.u64.wrap ((n : Int) * 8) = ((n * 8 % 18446744073709551616 : Nat) : Int) := by
  rw [u64_wrap]; omega

theorem shr_u64 (a k : Nat) (h : k ≤ 64) : shrI .u64 (a : Int) (k : Int) = ((a / 2 ^ k : Nat) : Int) := by
  have hm : min ((k : Nat) : Int).toNat IntKind.u64.bits = k := by
    show min k 64 = _
    omega
  unfold shrI
  rw [hm]
  have : (2 : Int) ^ k = ((2 ^ k : Nat) : Int) := by simp
  rw [this, Int.fdiv_eq_ediv_of_nonneg _ (Int.natCast_nonneg _)]; simp

theorem pad_byte (n i : Nat) (hi : i < 8) : IntKind.u8.wrap (shrI .u64 ((n * 8 % 18446744073709551616 : Nat) : Int) ((56 - 8 * i : Nat) : Int)) = ((n * 8 / 2 ^ (56 - 8 * i) % 256 : Nat) : Int) := by
  rw [shr_u64 _ _ (by omega), u8_wrap]
  have key : n * 8 % 18446744073709551616 / 2 ^ (56 - 8 * i) % 256 = n * 8 / 2 ^ (56 - 8 * i) % 256 := by
    match i, hi with
    | 0, _ => show n * 8 % 18446744073709551616 / 72057594037927936 % 256 = n * 8 / 72057594037927936 % 256; omega
    | 1, _ => show n * 8 % 18446744073709551616 / 281474976710656 % 256 = n * 8 / 281474976710656 % 256; omega
    | 2, _ => show n * 8 % 18446744073709551616 / 1099511627776 % 256 = n * 8 / 1099511627776 % 256; omega
    | 3, _ => show n * 8 % 18446744073709551616 / 4294967296 % 256 = n * 8 / 4294967296 % 256; omega
    | 4, _ => show n * 8 % 18446744073709551616 / 16777216 % 256 = n * 8 / 16777216 % 256; omega
    | 5, _ => show n * 8 % 18446744073709551616 / 65536 % 256 = n * 8 / 65536 % 256; omega
    | 6, _ => show n * 8 % 18446744073709551616 / 256 % 256 = n * 8 / 256 % 256; omega
    | 7, _ => show n * 8 % 18446744073709551616 / 1 % 256 = n * 8 / 1 % 256; omega
  rw [← key]; omega

/-- So many noughts, so many bytes of the length. -/
def padZ (i : Nat) : List UInt8 := 128 :: List.replicate i 0
def padL (n j : Nat) : List UInt8 := padZ ((119 - n % 64) % 64) ++ (List.range j).map fun i => UInt8.ofNat (n * 8 / 2 ^ (56 - 8 * i) % 256)

theorem padZ_app (i : Nat) : (padZ i).map byteD ++ [D.int .u8 0] = (padZ (i + 1)).map byteD := by
  have : [D.int .u8 0] = [(0 : UInt8)].map byteD := rfl
  rw [this, ← List.map_append]
  unfold padZ
  rw [List.cons_append, ← List.replicate_succ']

theorem padL_app (n j : Nat) : (padL n j).map byteD ++ [D.int .u8 ((n * 8 / 2 ^ (56 - 8 * j) % 256 : Nat) : Int)] = (padL n (j + 1)).map byteD := by
  have e : D.int .u8 ((n * 8 / 2 ^ (56 - 8 * j) % 256 : Nat) : Int) = byteD (UInt8.ofNat (n * 8 / 2 ^ (56 - 8 * j) % 256)) := by
    unfold byteD
    rw [UInt8.toNat_ofNat_of_lt' (show _ < 256 from Nat.mod_lt _ (by omega))]
  rw [e]
  unfold padL
  rw [List.range_succ]
  simp only [List.map_append, List.append_assoc, List.map_cons, List.map_nil]

theorem padZ_length (i : Nat) : (padZ i).length = i + 1 := by simp [padZ]
theorem padL_length (n j : Nat) : (padL n j).length = (119 - n % 64) % 64 + 1 + j := by simp [padL, padZ_length]

theorem room_small {k j : Nat} (hj : j = 1) (h : k ≤ 2 ^ 30) : Room k j := by subst hj; unfold Room; omega

theorem pad_cond (n i : Nat) (hn : n < 18446744073709551616) (hi : i ≤ 63) : (IntKind.u64.wrap ((n : Int) + IntKind.u64.wrap (((padZ i).map byteD).length : Int))).tmod 64 = (((n + i + 1) % 64 : Nat) : Int) := by
  rw [List.length_map, padZ_length, u64_wrap, u64_wrap, Int.tmod_eq_emod_of_nonneg (by omega)]
  omega

theorem w56 (j : Nat) (h : j < 8) : IntKind.i64.wrap (56 - IntKind.i64.wrap (8 * (j : Int))) = ((56 - 8 * j : Nat) : Int) := by
  rw [wrap64_id (n := 8 * (j : Int)) (by omega) (by omega), wrap64_id (by omega) (by omega)]; omega

theorem w56u (j : Nat) (h : j < 8) : IntKind.u64.wrap (IntKind.i64.wrap (56 - IntKind.i64.wrap (8 * (j : Int)))) = ((56 - 8 * j : Nat) : Int) := by
  rw [w56 j h, u64_wrap]; omega

theorem wrapU64n (n : Int) : 0 ≤ IntKind.u64.wrap n := by rw [u64_wrap]; omega

theorem pad_ok (n : Nat) (hn : n < 18446744073709551616) : LocalCall Try.prog 100 [.d (.int .u64 (n : Int))] [] [] (one [.d (.sl ((spad n).map byteD))]) [] := by
  refine vc_fn mixed Try.func100 rfl rfl [] (vc_chk rfl) ?_
  repeat' (first
      | ((with_reducible refine vc_chk ?_); first | decide +kernel | rfl)
      | (with_reducible refine vc_side0 ?_; rfl)
      | (with_reducible first
           | refine vc_true ?_ | refine vc_true2 ?_ | refine vc_side ?_ ?_ | refine vc_triv | refine vc_later ?_ | refine vc_caseT ?_ | refine vc_caseF ?_ | refine vc_cons ?_ | refine vc_nil ?_ ?_ | refine vc_seq ?_
              | refine vc_region ?_ | refine vc_cond ?_ | refine vc_block ?_ | refine vc_retc ?_ | refine vc_exit ?_ | refine vc_skip ?_ | refine vc_scope ?_ | refine vc_label ?_ | refine vc_goto ?_ | refine vc_wkSl0
              | refine vc_wkHp0 | refine vc_eqAVs0 | refine vc_preG0 | refine vc_wkSl ?_ ?_ | refine vc_wkHp ?_ ?_ | refine vc_eqAVs ?_ ?_ | refine vc_preG ?_ ?_ | refine vc_side0 ?_
              | refine vc_loopI (y := .seq (.seq (.region 2 _ _) _) _) 31 (fun (i : Nat) => [(0, .d (.int .u64 (n : Int))), (3, .sl 7 [] 1 0 ((padZ i).map byteD).length)]) (fun i => [(7, .row 1 ((padZ i).map byteD))]) (fun i => 64 - i) (fun i => i ≤ (119 - n % 64) % 64) 0 [(7, 2000)] ?_ ?_ ?_ ?_ ?_ (fun i hI => ?_)
              | refine vc_nextI (i + 1 : Nat) [(7, 4008)] ?_ ?_ ?_ ?_ ?_ ?_
              | refine vc_loopI (y := .seq (.region 5 _ _) _) 31 (fun (x : Nat × Unit) => [(0, .d (.int .u64 (n : Int))), (3, .sl 7 [] 1 0 ((padL n x.1).map byteD).length), (16, .d (.int .i64 (x.1 : Int)))]) (fun x => [(7, .row 1 ((padL n x.1).map byteD))]) (fun x => 8 - x.1) (fun x => x.1 ≤ 8) (0, ()) [] ?_ ?_ ?_ ?_ ?_ (fun x hM => ?_)
              | refine vc_nextI (x.1 + 1, ()) [(7, 8036)] ?_ ?_ ?_ ?_ ?_ ?_ | refine vc_ret [true] [] ?_ | refine vc_weakf [] ?_ ?_ ?_ | refine vc_and ?_ ?_ | refine vc_ret [] [] ?_)
      | ((with_reducible first | refine vc_caseD (fun h => ?_) (fun h => ?_) | refine vc_caseN (fun h => ?_) (fun h => ?_)) <;> try (exfalso; omega))
      | ((with_reducible refine vc_case (fun h => ?_) (fun h => ?_)) <;> (try simp only [Go.Sym.vs1, reduceCtorEq] at h) <;> try (exfalso; first | omega | (simp at h; done)))
      | (conv in Vc _ => arg 1; whnf
         first
          | (with_reducible refine vc_side0 ?_; rfl)
          | (with_reducible first
              | refine vc_true ?_ | refine vc_true2 ?_ | refine vc_side ?_ ?_ | refine vc_triv | refine vc_later ?_ | refine vc_caseT ?_ | refine vc_caseF ?_ | refine vc_cons ?_ | refine vc_nil ?_ ?_ | refine vc_seq ?_
                 | refine vc_region ?_ | refine vc_cond ?_ | refine vc_block ?_ | refine vc_retc ?_ | refine vc_exit ?_ | refine vc_skip ?_ | refine vc_scope ?_ | refine vc_label ?_ | refine vc_goto ?_ | refine vc_wkSl0
                 | refine vc_wkHp0 | refine vc_eqAVs0 | refine vc_preG0 | refine vc_wkSl ?_ ?_ | refine vc_wkHp ?_ ?_ | refine vc_eqAVs ?_ ?_ | refine vc_preG ?_ ?_ | refine vc_side0 ?_
                 | refine vc_loopI (y := .seq (.seq (.region 2 _ _) _) _) 31 (fun (i : Nat) => [(0, .d (.int .u64 (n : Int))), (3, .sl 7 [] 1 0 ((padZ i).map byteD).length)]) (fun i => [(7, .row 1 ((padZ i).map byteD))]) (fun i => 64 - i) (fun i => i ≤ (119 - n % 64) % 64) 0 [(7, 2000)] ?_ ?_ ?_ ?_ ?_ (fun i hI => ?_)
                 | refine vc_nextI (i + 1 : Nat) [(7, 4008)] ?_ ?_ ?_ ?_ ?_ ?_
                 | refine vc_loopI (y := .seq (.region 5 _ _) _) 31 (fun (x : Nat × Unit) => [(0, .d (.int .u64 (n : Int))), (3, .sl 7 [] 1 0 ((padL n x.1).map byteD).length), (16, .d (.int .i64 (x.1 : Int)))]) (fun x => [(7, .row 1 ((padL n x.1).map byteD))]) (fun x => 8 - x.1) (fun x => x.1 ≤ 8) (0, ()) [] ?_ ?_ ?_ ?_ ?_ (fun x hM => ?_)
                 | refine vc_nextI (x.1 + 1, ()) [(7, 8036)] ?_ ?_ ?_ ?_ ?_ ?_ | refine vc_ret [true] [] ?_ | refine vc_weakf [] ?_ ?_ ?_ | refine vc_and ?_ ?_ | refine vc_ret [] [] ?_)
          | ((with_reducible first | refine vc_caseD (fun h => ?_) (fun h => ?_) | refine vc_caseN (fun h => ?_) (fun h => ?_)) <;> try (exfalso; omega))
          | ((with_reducible refine vc_case (fun h => ?_) (fun h => ?_)) <;> (try simp only [Go.Sym.vs1, reduceCtorEq] at h) <;> try (exfalso; first | omega | (simp at h; done)))))
  all_goals (try dsimp only)
  all_goals (try simp only [List.drop_zero, List.take_length])
  all_goals first
    | with_reducible rfl
    | omega
    | decide
    | (rw [padZ_app]; done)
    | (show D.int .i64 _ = D.int .i64 _; first | rfl | (congr 1; rw [wrap64_id (by omega) (by omega)]; omega))
    | skip
  all_goals first
    | (have hm := hM
       first
       | (have hj : x.1 < 8 := by omega
          (try rw [w56 x.1 hj])
          (try rw [shl3, pad_byte n x.1 hj])
          first
          | omega
          | (rw [padL_app]; done)
          | (refine ⟨⟨by simp, by first | trivial | rfl, room_small rfl ?_⟩, fun y hy => ?_⟩
             · rw [List.length_append, List.length_map, padL_length]
               show _ + 1 ≤ _
               omega
             · simp only [List.mem_singleton] at hy; subst hy; rfl))
       | (have e : x.1 = 8 := by omega
          rw [e]
          first
          | exact ⟨Nat.le_of_eq (Nat.zero_add _), trivial⟩
          | rfl)
       | skip)
    | (have hi := hI
       rw [pad_cond n i hn (by omega)] at h
       first
       | omega
       | (refine ⟨⟨by simp, by first | trivial | rfl, room_small rfl ?_⟩, fun y hy => ?_⟩
          · rw [List.length_append, List.length_map, padZ_length]
            show _ + 1 ≤ _
            omega
          · simp only [List.mem_singleton] at hy; subst hy; rfl)
       | (have e : i = (119 - n % 64) % 64 := by omega
          rw [e]
          simp [padL]; done)
       | skip)
    | rfl
    | skip

theorem rPad_ok (n : Nat) (hn : n < 18446744073709551616) : LocalCall Try.prog 86 [.d (.int .u64 (n : Int))] [] [] (one [.d (.sl ((spad n).map byteD))]) [] := by
  refine vc_fn mixed Try.func86 rfl rfl [] (vc_chk rfl) ?_
  repeat' (first
      | ((with_reducible refine vc_chk ?_); first | decide +kernel | rfl)
      | (with_reducible refine vc_side0 ?_; rfl)
      | (with_reducible first
           | refine vc_true ?_ | refine vc_true2 ?_ | refine vc_side ?_ ?_ | refine vc_triv | refine vc_later ?_ | refine vc_caseT ?_ | refine vc_caseF ?_ | refine vc_cons ?_ | refine vc_nil ?_ ?_ | refine vc_seq ?_
              | refine vc_region ?_ | refine vc_cond ?_ | refine vc_block ?_ | refine vc_retc ?_ | refine vc_exit ?_ | refine vc_skip ?_ | refine vc_scope ?_ | refine vc_label ?_ | refine vc_goto ?_ | refine vc_wkSl0
              | refine vc_wkHp0 | refine vc_eqAVs0 | refine vc_preG0 | refine vc_wkSl ?_ ?_ | refine vc_wkHp ?_ ?_ | refine vc_eqAVs ?_ ?_ | refine vc_preG ?_ ?_ | refine vc_side0 ?_
              | refine vc_loopI (y := .seq (.seq (.region 3 _ _) _) _) 36 (fun (i : Nat) => [(0, .d (.int .u64 (n : Int))), (3, .sl 7 [] 1 0 ((padZ i).map byteD).length)]) (fun i => [(7, .row 1 ((padZ i).map byteD))]) (fun i => 64 - i) (fun i => i ≤ (119 - n % 64) % 64) 0 [(7, 3008)] ?_ ?_ ?_ ?_ ?_ (fun i hI => ?_)
              | refine vc_nextI (i + 1 : Nat) [(7, 5008)] ?_ ?_ ?_ ?_ ?_ ?_
              | refine vc_loopI (y := .seq (.seq (.region 7 _ _) _) _) 36 (fun (x : Nat × Unit) => [(3, .sl 7 [] 1 0 ((padL n x.1).map byteD).length), (4, .d (.int .u64 ((n * 8 % 18446744073709551616 : Nat) : Int))), (5, .d (.int .i64 (x.1 : Int)))]) (fun x => [(7, .row 1 ((padL n x.1).map byteD))]) (fun x => 8 - x.1) (fun x => x.1 ≤ 8) (0, ()) [] ?_ ?_ ?_ ?_ ?_ (fun x hM => ?_)
              | refine vc_nextI (x.1 + 1, ()) [(7, 10036)] ?_ ?_ ?_ ?_ ?_ ?_ | refine vc_ret [true] [] ?_ | refine vc_weakf [] ?_ ?_ ?_ | refine vc_and ?_ ?_ | refine vc_ret [] [] ?_)
      | ((with_reducible first | refine vc_caseD (fun h => ?_) (fun h => ?_) | refine vc_caseN (fun h => ?_) (fun h => ?_)) <;> try (exfalso; omega))
      | ((with_reducible refine vc_case (fun h => ?_) (fun h => ?_)) <;> (try simp only [Go.Sym.vs1, reduceCtorEq] at h) <;> try (exfalso; first | omega | (simp at h; done)))
      | (conv in Vc _ => arg 1; whnf
         first
          | (with_reducible refine vc_side0 ?_; rfl)
          | (with_reducible first
              | refine vc_true ?_ | refine vc_true2 ?_ | refine vc_side ?_ ?_ | refine vc_triv | refine vc_later ?_ | refine vc_caseT ?_ | refine vc_caseF ?_ | refine vc_cons ?_ | refine vc_nil ?_ ?_ | refine vc_seq ?_
                 | refine vc_region ?_ | refine vc_cond ?_ | refine vc_block ?_ | refine vc_retc ?_ | refine vc_exit ?_ | refine vc_skip ?_ | refine vc_scope ?_ | refine vc_label ?_ | refine vc_goto ?_ | refine vc_wkSl0
                 | refine vc_wkHp0 | refine vc_eqAVs0 | refine vc_preG0 | refine vc_wkSl ?_ ?_ | refine vc_wkHp ?_ ?_ | refine vc_eqAVs ?_ ?_ | refine vc_preG ?_ ?_ | refine vc_side0 ?_
                 | refine vc_loopI (y := .seq (.seq (.region 3 _ _) _) _) 36 (fun (i : Nat) => [(0, .d (.int .u64 (n : Int))), (3, .sl 7 [] 1 0 ((padZ i).map byteD).length)]) (fun i => [(7, .row 1 ((padZ i).map byteD))]) (fun i => 64 - i) (fun i => i ≤ (119 - n % 64) % 64) 0 [(7, 3008)] ?_ ?_ ?_ ?_ ?_ (fun i hI => ?_)
                 | refine vc_nextI (i + 1 : Nat) [(7, 5008)] ?_ ?_ ?_ ?_ ?_ ?_
                 | refine vc_loopI (y := .seq (.seq (.region 7 _ _) _) _) 36 (fun (x : Nat × Unit) => [(3, .sl 7 [] 1 0 ((padL n x.1).map byteD).length), (4, .d (.int .u64 ((n * 8 % 18446744073709551616 : Nat) : Int))), (5, .d (.int .i64 (x.1 : Int)))]) (fun x => [(7, .row 1 ((padL n x.1).map byteD))]) (fun x => 8 - x.1) (fun x => x.1 ≤ 8) (0, ()) [] ?_ ?_ ?_ ?_ ?_ (fun x hM => ?_)
                 | refine vc_nextI (x.1 + 1, ()) [(7, 10036)] ?_ ?_ ?_ ?_ ?_ ?_ | refine vc_ret [true] [] ?_ | refine vc_weakf [] ?_ ?_ ?_ | refine vc_and ?_ ?_ | refine vc_ret [] [] ?_)
          | ((with_reducible first | refine vc_caseD (fun h => ?_) (fun h => ?_) | refine vc_caseN (fun h => ?_) (fun h => ?_)) <;> try (exfalso; omega))
          | ((with_reducible refine vc_case (fun h => ?_) (fun h => ?_)) <;> (try simp only [Go.Sym.vs1, reduceCtorEq] at h) <;> try (exfalso; first | omega | (simp at h; done)))))
  all_goals (try dsimp only)
  all_goals (try simp only [List.drop_zero, List.take_length])
  all_goals first
    | with_reducible rfl
    | omega
    | decide
    | (rw [padZ_app]; done)
    | (rw [mul8]; done)
    | exact wrapU64n _
    | exact ⟨⟨by simp, room_small rfl (by simp)⟩, fun y hy => by simp only [List.mem_singleton] at hy; subst hy; rfl⟩
    | (show D.int .i64 _ = D.int .i64 _; first | rfl | (congr 1; rw [wrap64_id (by omega) (by omega)]; omega))
    | skip
  all_goals first
    | (have hm := hM
       first
       | (have hj : x.1 < 8 := by omega
          (try rw [w56u x.1 hj, pad_byte n x.1 hj])
          first
          | omega
          | (rw [padL_app]; done)
          | (refine ⟨⟨by simp, by first | trivial | rfl, room_small rfl ?_⟩, fun y hy => ?_⟩
             · rw [List.length_append, List.length_map, padL_length]
               show _ + 1 ≤ _
               omega
             · simp only [List.mem_singleton] at hy; subst hy; rfl))
       | (have e : x.1 = 8 := by omega
          rw [e]
          first
          | exact ⟨Nat.le_of_eq (Nat.zero_add _), trivial⟩
          | rfl)
       | skip)
    | (have hi := hI
       rw [pad_cond n i hn (by omega)] at h
       first
       | omega
       | (refine ⟨⟨by simp, by first | trivial | rfl, room_small rfl ?_⟩, fun y hy => ?_⟩
          · rw [List.length_append, List.length_map, padZ_length]
            show _ + 1 ≤ _
            omega
          · simp only [List.mem_singleton] at hy; subst hy; rfl)
       | (have e : i = (119 - n % 64) % 64 := by omega
          rw [e]
          simp [padL]; done)
       | skip)
    | rfl
    | skip

end Go.Proofs.Ytcdjheiccefcdaa

/-
The digest of what was written.
-/
set_option linter.unusedSimpArgs false
set_option linter.unusedVariables false
namespace Go.Proofs.Ytcdjheiccefcdaa
open Go.Sym
set_option maxRecDepth 10000
set_option maxHeartbeats 8000000

/-- A byte of words. -/
def wByte (h : List W32) (j : Nat) : UInt8 := UInt8.ofNat ((h.getD (j / 4) 0).toNat / 2 ^ (24 - 8 * (j % 4)) % 256)
/-- So many bytes of words, and noughts. -/
def dB (h : List W32) (q : Nat) : List UInt8 := (List.range 32).map fun j => bif decide (j < q) then wByte h j else 0

theorem dB_zero (h : List W32) : (dB h 0).map byteD = List.replicate 32 (.int .u8 0) := by
  unfold dB; rfl

theorem dB_all (h : List W32) : dB h 32 = wBytes h := by
  unfold dB wBytes
  apply List.map_congr_left
  intro j hj
  rw [decide_eq_true (List.mem_range.1 hj)]; rfl

theorem dB_set (h : List W32) {q : Nat} (hq : q < 32) : ((dB h q).map byteD).set q (byteD (wByte h q)) = (dB h (q + 1)).map byteD := by
  rw [← List.map_set]
  congr 1
  apply List.ext_getElem?
  intro k
  unfold dB
  rw [List.getElem?_set]
  by_cases hk : q = k
  · subst hk
    simp [hq]
  · rw [if_neg hk, List.getElem?_map, List.getElem?_map]
    by_cases h8 : k < 32
    · rw [List.getElem?_range h8]
      have : decide (k < q) = decide (k < q + 1) := by
        by_cases h1 : k < q
        · rw [decide_eq_true h1, decide_eq_true (show k < q + 1 by omega)]
        · rw [decide_eq_false h1, decide_eq_false (show ¬ k < q + 1 by omega)]
      simp [this]
    · rw [List.getElem?_eq_none (by simpa using h8)]; rfl

theorem wByte_eq (h : List W32) (j k : Nat) (hk : k = 24 - 8 * (j % 4)) : D.int .u8 (IntKind.u8.wrap (shrI .u32 (wI (h.getD (j / 4) 0)) (k : Int))) = byteD (wByte h j) := by
  rw [w_shr _ (by omega), u8_wrap]
  unfold wI wByte byteD
  rw [UInt8.toNat_ofNat_of_lt' (show _ < 256 from Nat.mod_lt _ (by omega)), BitVec.toNat_ushiftRight, Nat.shiftRight_eq_div_pow, hk]
  rfl

theorem dig_eq (m : List UInt8) (h : m.length < 2 ^ 60) : wBytes (sstate (m ++ spad m.length)) = shaB m := by
  unfold shaB sstate
  rw [Nat.mod_eq_of_lt (show m.length < 2 ^ 64 by omega)]

theorem shaDig_ok (m bl : List UInt8) (l : bl.length = 64) (r : bl.take (m.length % 64) = srest m) (hl : m.length < 2 ^ 59) :
    LocalCall Try.prog 93 [.ptr 9 []] [(9, hst m bl)] [] (one [.d (.arr 32 1 ((shaB m).map byteD))]) [] := by
  have hpl : (spad m.length).length ≤ 72 := by rw [spad_length]; omega
  have hw := local_ren [(9, 8)] [(8, 9)] (write_ok m bl (spad m.length) l r (by omega)) rfl
  have hS := sstate_length (m ++ spad m.length)
  have hg : ∀ i, i < 8 → ((sstate (m ++ spad m.length)).map wD).getD i .nilp = wD ((sstate (m ++ spad m.length)).getD i 0) := fun i hi => w8_get i (by rw [hS]; exact hi)
  have hd := dig_eq m (by omega)
  refine vc_fn mixed Try.func93 rfl rfl [] (vc_chk rfl) ?_
  repeat' (first
      | ((with_reducible refine vc_chk ?_); first | decide +kernel | rfl)
      | (with_reducible refine vc_side0 ?_; rfl)
      | (with_reducible first
           | refine vc_true ?_ | refine vc_true2 ?_ | refine vc_side ?_ ?_ | refine vc_triv | refine vc_later ?_ | refine vc_caseT ?_ | refine vc_caseF ?_ | refine vc_cons ?_ | refine vc_nil ?_ ?_ | refine vc_seq ?_
              | refine vc_region ?_ | refine vc_cond ?_ | refine vc_block ?_ | refine vc_retc ?_ | refine vc_exit ?_ | refine vc_skip ?_ | refine vc_scope ?_ | refine vc_label ?_ | refine vc_goto ?_ | refine vc_wkSl0
              | refine vc_wkHp0 | refine vc_eqAVs0 | refine vc_preG0 | refine vc_wkSl ?_ ?_ | refine vc_wkHp ?_ ?_ | refine vc_eqAVs ?_ ?_ | refine vc_preG ?_ ?_ | refine vc_side0 ?_
              | refine vc_call [] (clone_ok (sstate m) bl (m.length % 64) m.length) ?_ | refine vc_pure (pad_ok m.length (by omega)) ?_ ?_ ?_ | refine vc_call [] hw ?_
              | refine vc_loopI (y := .seq (.region 5 _ _) _) 42 (fun (i : Nat) => [(2, .ptr 1000 []), (4, .ptr 4000 []), (20, .d (.arr 8 1 ((sstate (m ++ spad m.length)).map wD))), (21, .d (.int .i64 (i : Int)))]) (fun i => [(9, hst m bl), (1000, .var (.d (.arr 32 1 (List.replicate 32 (.int .u8 0))))), (4000, .var (.d (.arr 32 1 ((dB (sstate (m ++ spad m.length)) (4 * i)).map byteD))))]) (fun i => 8 - i) (fun i => i ≤ 8) 0 [] ?_ ?_ ?_ ?_ ?_ (fun i hI => ?_)
              | refine vc_loopI (y := .seq (.region 8 _ _) _) 42 (fun (x : Nat × Unit) => [(2, .ptr 1000 []), (4, .ptr 4000 []), (5, .d (.int .i64 (i : Int))), (6, .d (.int .u32 (wI ((sstate (m ++ spad m.length)).getD i 0)))), (20, .d (.arr 8 1 ((sstate (m ++ spad m.length)).map wD))), (21, .d (.int .i64 (i : Int))), (25, .d (.int .i64 (x.1 : Int)))]) (fun x => [(9, hst m bl), (1000, .var (.d (.arr 32 1 (List.replicate 32 (.int .u8 0))))), (4000, .var (.d (.arr 32 1 ((dB (sstate (m ++ spad m.length)) (4 * i + x.1)).map byteD))))]) (fun x => 4 - x.1) (fun x => x.1 ≤ 4) (0, ()) [] ?_ ?_ ?_ ?_ ?_ (fun x hM => ?_)
              | refine vc_nextI (i + 1 : Nat) [] ?_ ?_ ?_ ?_ ?_ ?_ | refine vc_nextI (x.1 + 1, ()) [] ?_ ?_ ?_ ?_ ?_ ?_ | refine vc_weakf [] ?_ ?_ ?_ | refine vc_and ?_ ?_ | refine vc_ret [] [] ?_)
      | ((with_reducible first | refine vc_caseD (fun h => ?_) (fun h => ?_) | refine vc_caseN (fun h => ?_) (fun h => ?_)) <;> try (exfalso; omega))
      | ((with_reducible refine vc_case (fun h => ?_) (fun h => ?_)) <;> (try simp only [Go.Sym.vs1, reduceCtorEq] at h) <;> try (exfalso; first | omega | (simp at h; done)))
      | (conv in Vc _ => arg 1; whnf
         first
          | (with_reducible refine vc_side0 ?_; rfl)
          | (with_reducible first
              | refine vc_true ?_ | refine vc_true2 ?_ | refine vc_side ?_ ?_ | refine vc_triv | refine vc_later ?_ | refine vc_caseT ?_ | refine vc_caseF ?_ | refine vc_cons ?_ | refine vc_nil ?_ ?_ | refine vc_seq ?_
                 | refine vc_region ?_ | refine vc_cond ?_ | refine vc_block ?_ | refine vc_retc ?_ | refine vc_exit ?_ | refine vc_skip ?_ | refine vc_scope ?_ | refine vc_label ?_ | refine vc_goto ?_ | refine vc_wkSl0
                 | refine vc_wkHp0 | refine vc_eqAVs0 | refine vc_preG0 | refine vc_wkSl ?_ ?_ | refine vc_wkHp ?_ ?_ | refine vc_eqAVs ?_ ?_ | refine vc_preG ?_ ?_ | refine vc_side0 ?_
                 | refine vc_call [] (clone_ok (sstate m) bl (m.length % 64) m.length) ?_ | refine vc_pure (pad_ok m.length (by omega)) ?_ ?_ ?_ | refine vc_call [] hw ?_
                 | refine vc_loopI (y := .seq (.region 5 _ _) _) 42 (fun (i : Nat) => [(2, .ptr 1000 []), (4, .ptr 4000 []), (20, .d (.arr 8 1 ((sstate (m ++ spad m.length)).map wD))), (21, .d (.int .i64 (i : Int)))]) (fun i => [(9, hst m bl), (1000, .var (.d (.arr 32 1 (List.replicate 32 (.int .u8 0))))), (4000, .var (.d (.arr 32 1 ((dB (sstate (m ++ spad m.length)) (4 * i)).map byteD))))]) (fun i => 8 - i) (fun i => i ≤ 8) 0 [] ?_ ?_ ?_ ?_ ?_ (fun i hI => ?_)
                 | refine vc_loopI (y := .seq (.region 8 _ _) _) 42 (fun (x : Nat × Unit) => [(2, .ptr 1000 []), (4, .ptr 4000 []), (5, .d (.int .i64 (i : Int))), (6, .d (.int .u32 (wI ((sstate (m ++ spad m.length)).getD i 0)))), (20, .d (.arr 8 1 ((sstate (m ++ spad m.length)).map wD))), (21, .d (.int .i64 (i : Int))), (25, .d (.int .i64 (x.1 : Int)))]) (fun x => [(9, hst m bl), (1000, .var (.d (.arr 32 1 (List.replicate 32 (.int .u8 0))))), (4000, .var (.d (.arr 32 1 ((dB (sstate (m ++ spad m.length)) (4 * i + x.1)).map byteD))))]) (fun x => 4 - x.1) (fun x => x.1 ≤ 4) (0, ()) [] ?_ ?_ ?_ ?_ ?_ (fun x hM => ?_)
                 | refine vc_nextI (i + 1 : Nat) [] ?_ ?_ ?_ ?_ ?_ ?_ | refine vc_nextI (x.1 + 1, ()) [] ?_ ?_ ?_ ?_ ?_ ?_ | refine vc_weakf [] ?_ ?_ ?_ | refine vc_and ?_ ?_ | refine vc_ret [] [] ?_)
          | ((with_reducible first | refine vc_caseD (fun h => ?_) (fun h => ?_) | refine vc_caseN (fun h => ?_) (fun h => ?_)) <;> try (exfalso; omega))
          | ((with_reducible refine vc_case (fun h => ?_) (fun h => ?_)) <;> (try simp only [Go.Sym.vs1, reduceCtorEq] at h) <;> try (exfalso; first | omega | (simp at h; done)))))
  all_goals (try dsimp only)
  all_goals first
    | with_reducible rfl
    | omega
    | skip
  all_goals first
    | (have hm := hM
       have w1 : x.1 < 4 → IntKind.i64.wrap (24 - IntKind.i64.wrap (8 * (x.1 : Int))) = ((24 - 8 * x.1 : Nat) : Int) := fun hx => by
         rw [wrap64_id (n := 8 * (x.1 : Int)) (by omega) (by omega), wrap64_id (by omega) (by omega)]; omega
       have w2 : IntKind.i64.wrap (IntKind.i64.wrap (4 * (i : Int)) + (x.1 : Int)) = ((4 * i + x.1 : Nat) : Int) := by
         rw [wrap64_id (n := 4 * (i : Int)) (by omega) (by omega), wrap64_id (by omega) (by omega)]; omega
       first
       | (rw [w1 (by omega)]; omega)
       | (rw [w2]; omega)
       | (rw [w2]; exact ⟨by omega, by omega⟩)
       | (show D.int .i64 _ = D.int .i64 _; congr 1; rw [wrap64_id (by omega) (by omega)]; omega)
       | (have e := wByte_eq (sstate (m ++ spad m.length)) (4 * i + x.1) (24 - 8 * x.1) (by omega)
          rw [show (4 * i + x.1) / 4 = i by omega] at e
          rw [w1 (by omega), w2, e, Int.toNat_natCast]
          exact congrArg (D.arr 32 1) (dB_set _ (by omega)))
       | (have e : x.1 = 4 := by omega
          rw [e]; rfl))
    | (have hi := hI
       first
       | rfl
       | (rw [Int.toNat_natCast, hg i (by omega)]; first | exact ⟨⟨by omega, by omega⟩, rfl⟩ | rfl)
       | (have e : i = 8 := by omega
          rw [e, dB_all, hd]; done))
    | rfl
    | exact congrArg (D.arr 32 1) (dB_zero _).symm

theorem sstate_nil : sstate [] = sFirst := by unfold sstate; rw [sblocks_small (by simp)]

theorem sum_ok (b : List UInt8) (hl : b.length < 2 ^ 58) : LocalCall Try.prog 80 [.d (.sl (b.map byteD))] [] [] (one [.d (.arr 32 1 ((shaB b).map byteD))]) [] := by
  have h0 : zero64.take (([] : List UInt8).length % 64) = srest [] := rfl
  have hw := write_ok [] zero64 b rfl h0 (by simp; omega)
  obtain ⟨k1, k2⟩ := wrB_ok b.length [] zero64 b (Nat.le_refl _) rfl h0
  have hd := shaDig_ok ([] ++ b) (wrB zero64 (([] : List UInt8).length % 64) b) k1 k2 (by simp; omega)
  rw [List.nil_append] at hw hd
  refine vc_fn mixed Try.func80 rfl rfl [] (vc_chk rfl) ?_
  repeat' (first
      | ((with_reducible refine vc_chk ?_); first | decide +kernel | rfl)
      | (with_reducible refine vc_side0 ?_; rfl)
      | (with_reducible first
           | refine vc_true ?_ | refine vc_true2 ?_ | refine vc_side ?_ ?_ | refine vc_triv | refine vc_later ?_ | refine vc_caseT ?_ | refine vc_caseF ?_ | refine vc_cons ?_ | refine vc_nil ?_ ?_ | refine vc_seq ?_
              | refine vc_region ?_ | refine vc_cond ?_ | refine vc_block ?_ | refine vc_retc ?_ | refine vc_exit ?_ | refine vc_skip ?_ | refine vc_scope ?_ | refine vc_label ?_ | refine vc_goto ?_ | refine vc_wkSl0
              | refine vc_wkHp0 | refine vc_eqAVs0 | refine vc_preG0 | refine vc_wkSl ?_ ?_ | refine vc_wkHp ?_ ?_ | refine vc_eqAVs ?_ ?_ | refine vc_preG ?_ ?_ | refine vc_side0 ?_ | refine vc_call [] new_ok ?_
              | refine vc_call [] hw ?_ | refine vc_call [] hd ?_ | refine vc_weakf [] ?_ ?_ ?_ | refine vc_and ?_ ?_ | refine vc_ret [] [] ?_)
      | ((with_reducible first | refine vc_caseD (fun h => ?_) (fun h => ?_) | refine vc_caseN (fun h => ?_) (fun h => ?_)) <;> try (exfalso; omega))
      | ((with_reducible refine vc_case (fun h => ?_) (fun h => ?_)) <;> (try simp only [Go.Sym.vs1, reduceCtorEq] at h) <;> try (exfalso; first | omega | (simp at h; done)))
      | (conv in Vc _ => arg 1; whnf
         first
          | (with_reducible refine vc_side0 ?_; rfl)
          | (with_reducible first
              | refine vc_true ?_ | refine vc_true2 ?_ | refine vc_side ?_ ?_ | refine vc_triv | refine vc_later ?_ | refine vc_caseT ?_ | refine vc_caseF ?_ | refine vc_cons ?_ | refine vc_nil ?_ ?_ | refine vc_seq ?_
                 | refine vc_region ?_ | refine vc_cond ?_ | refine vc_block ?_ | refine vc_retc ?_ | refine vc_exit ?_ | refine vc_skip ?_ | refine vc_scope ?_ | refine vc_label ?_ | refine vc_goto ?_ | refine vc_wkSl0
                 | refine vc_wkHp0 | refine vc_eqAVs0 | refine vc_preG0 | refine vc_wkSl ?_ ?_ | refine vc_wkHp ?_ ?_ | refine vc_eqAVs ?_ ?_ | refine vc_preG ?_ ?_ | refine vc_side0 ?_ | refine vc_call [] new_ok ?_
                 | refine vc_call [] hw ?_ | refine vc_call [] hd ?_ | refine vc_weakf [] ?_ ?_ ?_ | refine vc_and ?_ ?_ | refine vc_ret [] [] ?_)
          | ((with_reducible first | refine vc_caseD (fun h => ?_) (fun h => ?_) | refine vc_caseN (fun h => ?_) (fun h => ?_)) <;> try (exfalso; omega))
          | ((with_reducible refine vc_case (fun h => ?_) (fun h => ?_)) <;> (try simp only [Go.Sym.vs1, reduceCtorEq] at h) <;> try (exfalso; first | omega | (simp at h; done)))))
  all_goals first
    | with_reducible rfl
    | (rw [sstate_nil]; rfl)
    | skip

end Go.Proofs.Ytcdjheiccefcdaa

/-
The reference's words of a block.
-/
set_option linter.unusedSimpArgs false
set_option linter.unusedVariables false
namespace Go.Proofs.Ytcdjheiccefcdaa
open Go.Sym
set_option maxRecDepth 10000
set_option maxHeartbeats 8000000

/-- A word of which so many bytes were read. -/
def wacc (bl : List UInt8) (q : Nat) : Nat → W32
  | 0 => BitVec.ofNat 32 0
  | c + 1 => wacc bl q c * c256 + bW (bl.getD (4 * q + c) 0)

def wP (bl : List UInt8) (i : Nat) : List W32 := (List.range 64).map fun q => wacc bl q (min 4 (i - 4 * q))

theorem wP_length (bl : List UInt8) (i : Nat) : (wP bl i).length = 64 := by simp [wP]

theorem wP_get (bl : List UInt8) (i : Nat) {q : Nat} (hq : q < 64) : (wP bl i).getD q 0 = wacc bl q (min 4 (i - 4 * q)) := by
  unfold wP
  rw [List.getD_eq_getElem?_getD, List.getElem?_map, List.getElem?_range hq]; rfl

theorem wP_set (bl : List UInt8) {i : Nat} (hi : i < 64) : ((wP bl i).map wD).set (i / 4) (wD (wacc bl (i / 4) (i % 4) * c256 + bW (bl.getD i 0))) = (wP bl (i + 1)).map wD := by
  rw [← List.map_set]
  congr 1
  apply List.ext_getElem?
  intro k
  unfold wP
  rw [List.getElem?_set]
  by_cases hk : i / 4 = k
  · subst hk
    rw [if_pos rfl, List.length_map, List.length_range, if_pos (by omega), List.getElem?_map, List.getElem?_range (by omega)]
    have e : min 4 (i + 1 - 4 * (i / 4)) = i % 4 + 1 := by omega
    have e2 : 4 * (i / 4) + i % 4 = i := by omega
    simp only [Option.map_some, e, wacc, e2]
  · rw [if_neg hk, List.getElem?_map, List.getElem?_map]
    by_cases h8 : k < 64
    · rw [List.getElem?_range h8]
      have : min 4 (i - 4 * k) = min 4 (i + 1 - 4 * k) := by omega
      simp [this]
    · rw [List.getElem?_eq_none (by simpa using h8)]; rfl

theorem wP_zero (bl : List UInt8) : (wP bl 0).map wD = List.replicate 64 (.int .u32 0) := by
  have : wP bl 0 = List.replicate 64 (BitVec.ofNat 32 0) := by
    unfold wP
    have e : ∀ q : Nat, min 4 (0 - 4 * q) = 0 := fun q => by omega
    simp only [e, wacc, List.map_const', List.length_range]
  rw [this, List.map_replicate]; rfl

theorem wP_all (bl : List UInt8) : (wP bl 64).map wD = padW (sched bl 0) := by
  have e : wP bl 64 = sched bl 0 ++ List.replicate 48 (BitVec.ofNat 32 0) := by
    apply List.ext_getElem?
    intro k
    unfold wP sched
    by_cases hk : k < 16
    · rw [List.getElem?_append_left (by simpa using hk), List.getElem?_map, List.getElem?_map, List.getElem?_range hk, List.getElem?_range (show k < 64 by omega)]
      have : min 4 (64 - 4 * k) = 4 := by omega
      simp only [Option.map_some, this]; rfl
    · rw [List.getElem?_append_right (by simpa using hk)]
      by_cases h64 : k < 64
      · rw [List.getElem?_map, List.getElem?_range h64, List.getElem?_replicate, if_pos (by simp; omega)]
        have : min 4 (64 - 4 * k) = 0 := by omega
        simp only [Option.map_some, this]; rfl
      · rw [List.getElem?_eq_none (by simpa using h64), List.getElem?_eq_none (by simp; omega)]
  rw [e]
  unfold padW
  rw [List.map_append, List.map_replicate, sched_length]; rfl

theorem words_ok (bl : List UInt8) (hb : bl.length = 64) :
    LocalCall Try.prog 94 [.d (.sl (bl.map byteD))] [] [] (one [.d (.arr 64 1 ((sched bl 48).map wD))]) [] := by
  have lb : (bl.map byteD).length = 64 := by rw [List.length_map]; exact hb
  have r0 : ∀ (m k : Nat), k < 16 + m → (padW (sched bl m)).getD k .nilp = wD ((sched bl m).getD k 0) := fun m k hk => padW_get (by rw [sched_length]; exact hk)
  have r1 : ∀ m : Nat, m < 48 → IntKind.i64.wrap (((16 + m : Nat) : Int) - 15) = ((m + 1 : Nat) : Int) := fun m hm => by rw [wrap64_id (by omega) (by omega)]; omega
  have r2 : ∀ m : Nat, m < 48 → IntKind.i64.wrap (((16 + m : Nat) : Int) - 2) = ((m + 14 : Nat) : Int) := fun m hm => by rw [wrap64_id (by omega) (by omega)]; omega
  have r3 : ∀ m : Nat, m < 48 → IntKind.i64.wrap (((16 + m : Nat) : Int) - 16) = ((m : Nat) : Int) := fun m hm => by rw [wrap64_id (by omega) (by omega)]; omega
  have r4 : ∀ m : Nat, m < 48 → IntKind.i64.wrap (((16 + m : Nat) : Int) - 7) = ((m + 9 : Nat) : Int) := fun m hm => by rw [wrap64_id (by omega) (by omega)]; omega
  have ga : ∀ m : Nat, m < 48 → ((padW (sched bl m)).getD (IntKind.i64.wrap (((16 + m : Nat) : Int) - 15)).toNat .nilp).toInt = wI ((sched bl m).getD (m + 1) 0) := fun m hm => by rw [r1 m hm, Int.toNat_natCast, r0 m _ (by omega)]; rfl
  have gb : ∀ m : Nat, m < 48 → ((padW (sched bl m)).getD (IntKind.i64.wrap (((16 + m : Nat) : Int) - 2)).toNat .nilp).toInt = wI ((sched bl m).getD (m + 14) 0) := fun m hm => by rw [r2 m hm, Int.toNat_natCast, r0 m _ (by omega)]; rfl
  have gc : ∀ m : Nat, m < 48 → ((padW (sched bl m)).getD (IntKind.i64.wrap (((16 + m : Nat) : Int) - 16)).toNat .nilp).toInt = wI ((sched bl m).getD m 0) := fun m hm => by rw [r3 m hm, Int.toNat_natCast, r0 m _ (by omega)]; rfl
  have gd : ∀ m : Nat, m < 48 → ((padW (sched bl m)).getD (IntKind.i64.wrap (((16 + m : Nat) : Int) - 7)).toNat .nilp).toInt = wI ((sched bl m).getD (m + 9) 0) := fun m hm => by rw [r4 m hm, Int.toNat_natCast, r0 m _ (by omega)]; rfl
  have r7 : ∀ m : Nat, m < 48 → (padW (sched bl m)).set (16 + m) (D.int .u32 (wI ((sched bl m).getD m 0 + (rotr ((sched bl m).getD (m + 1) 0) 7 ^^^ rotr ((sched bl m).getD (m + 1) 0) 18 ^^^ (sched bl m).getD (m + 1) 0 >>> 3) + (sched bl m).getD (m + 9) 0 + (rotr ((sched bl m).getD (m + 14) 0) 17 ^^^ rotr ((sched bl m).getD (m + 14) 0) 19 ^^^ (sched bl m).getD (m + 14) 0 >>> 10)))) = padW (sched bl (m + 1)) := fun m hm => by
    have := padW_set (ws := sched bl m) (by rw [sched_length]; omega) ((sched bl m).getD m 0 + low3 ((sched bl m).getD (m + 1) 0) + (sched bl m).getD (m + 9) 0 + high3 ((sched bl m).getD (m + 14) 0))
    rw [sched_length] at this
    exact this
  refine vc_fn mixed Try.func94 rfl rfl [] (vc_chk rfl) ?_
  repeat' (first
      | ((with_reducible refine vc_chk ?_); first | decide +kernel | rfl)
      | (with_reducible refine vc_side0 ?_; rfl)
      | (with_reducible first
           | refine vc_true ?_ | refine vc_true2 ?_ | refine vc_side ?_ ?_ | refine vc_triv | refine vc_later ?_ | refine vc_caseT ?_ | refine vc_caseF ?_ | refine vc_cons ?_ | refine vc_nil ?_ ?_ | refine vc_seq ?_
              | refine vc_region ?_ | refine vc_cond ?_ | refine vc_block ?_ | refine vc_retc ?_ | refine vc_exit ?_ | refine vc_skip ?_ | refine vc_scope ?_ | refine vc_label ?_ | refine vc_goto ?_ | refine vc_wkSl0
              | refine vc_wkHp0 | refine vc_eqAVs0 | refine vc_preG0 | refine vc_wkSl ?_ ?_ | refine vc_wkHp ?_ ?_ | refine vc_eqAVs ?_ ?_ | refine vc_preG ?_ ?_ | refine vc_side0 ?_
              | refine vc_loopI (y := .seq (.seq (.region 3 _ _) _) _) 80 (fun (i : Nat) => [(0, .d (.sl (bl.map byteD))), (2, .ptr 1000 []), (3, .ptr 2000 []), (4, .d (.int .i64 (i : Int)))]) (fun i => [(1000, .var (.d (.arr 64 1 (List.replicate 64 (.int .u32 0))))), (2000, .var (.d (.arr 64 1 ((wP bl i).map wD))))]) (fun i => 64 - i) (fun i => i ≤ 64) 0 [] ?_ ?_ ?_ ?_ ?_ (fun i hI => ?_)
              | refine vc_loopI (y := .seq (.seq (.region 7 _ _) _) _) 80 (fun (x : Nat × Unit) => [(2, .ptr 1000 []), (3, .ptr 2000 []), (5, .d (.int .i64 ((16 + x.1 : Nat) : Int)))]) (fun x => [(1000, .var (.d (.arr 64 1 (List.replicate 64 (.int .u32 0))))), (2000, .var (.d (.arr 64 1 (padW (sched bl x.1)))))]) (fun x => 48 - x.1) (fun x => x.1 ≤ 48) (0, ()) [] ?_ ?_ ?_ ?_ ?_ (fun x hM => ?_)
              | refine vc_nextI (x.1 + 1, ()) [] ?_ ?_ ?_ ?_ ?_ ?_ | refine vc_nextI (i + 1 : Nat) [] ?_ ?_ ?_ ?_ ?_ ?_ | refine vc_pure (turn_ok (ga x.1 (by omega)) 7 (by decide)) ?_ ?_ ?_
              | refine vc_pure (turn_ok (ga x.1 (by omega)) 18 (by decide)) ?_ ?_ ?_ | refine vc_pure (turn_ok (gb x.1 (by omega)) 17 (by decide)) ?_ ?_ ?_ | refine vc_pure (turn_ok (gb x.1 (by omega)) 19 (by decide)) ?_ ?_ ?_
              | refine vc_weakf [] ?_ ?_ ?_ | refine vc_and ?_ ?_ | refine vc_ret [] [] ?_)
      | ((with_reducible first | refine vc_caseD (fun h => ?_) (fun h => ?_) | refine vc_caseN (fun h => ?_) (fun h => ?_)) <;> try (exfalso; omega))
      | ((with_reducible refine vc_case (fun h => ?_) (fun h => ?_)) <;> (try simp only [Go.Sym.vs1, reduceCtorEq] at h) <;> try (exfalso; first | omega | (simp at h; done)))
      | (conv in Vc _ => arg 1; whnf
         first
          | (with_reducible refine vc_side0 ?_; rfl)
          | (with_reducible first
              | refine vc_true ?_ | refine vc_true2 ?_ | refine vc_side ?_ ?_ | refine vc_triv | refine vc_later ?_ | refine vc_caseT ?_ | refine vc_caseF ?_ | refine vc_cons ?_ | refine vc_nil ?_ ?_ | refine vc_seq ?_
                 | refine vc_region ?_ | refine vc_cond ?_ | refine vc_block ?_ | refine vc_retc ?_ | refine vc_exit ?_ | refine vc_skip ?_ | refine vc_scope ?_ | refine vc_label ?_ | refine vc_goto ?_ | refine vc_wkSl0
                 | refine vc_wkHp0 | refine vc_eqAVs0 | refine vc_preG0 | refine vc_wkSl ?_ ?_ | refine vc_wkHp ?_ ?_ | refine vc_eqAVs ?_ ?_ | refine vc_preG ?_ ?_ | refine vc_side0 ?_
                 | refine vc_loopI (y := .seq (.seq (.region 3 _ _) _) _) 80 (fun (i : Nat) => [(0, .d (.sl (bl.map byteD))), (2, .ptr 1000 []), (3, .ptr 2000 []), (4, .d (.int .i64 (i : Int)))]) (fun i => [(1000, .var (.d (.arr 64 1 (List.replicate 64 (.int .u32 0))))), (2000, .var (.d (.arr 64 1 ((wP bl i).map wD))))]) (fun i => 64 - i) (fun i => i ≤ 64) 0 [] ?_ ?_ ?_ ?_ ?_ (fun i hI => ?_)
                 | refine vc_loopI (y := .seq (.seq (.region 7 _ _) _) _) 80 (fun (x : Nat × Unit) => [(2, .ptr 1000 []), (3, .ptr 2000 []), (5, .d (.int .i64 ((16 + x.1 : Nat) : Int)))]) (fun x => [(1000, .var (.d (.arr 64 1 (List.replicate 64 (.int .u32 0))))), (2000, .var (.d (.arr 64 1 (padW (sched bl x.1)))))]) (fun x => 48 - x.1) (fun x => x.1 ≤ 48) (0, ()) [] ?_ ?_ ?_ ?_ ?_ (fun x hM => ?_)
                 | refine vc_nextI (x.1 + 1, ()) [] ?_ ?_ ?_ ?_ ?_ ?_ | refine vc_nextI (i + 1 : Nat) [] ?_ ?_ ?_ ?_ ?_ ?_ | refine vc_pure (turn_ok (ga x.1 (by omega)) 7 (by decide)) ?_ ?_ ?_
                 | refine vc_pure (turn_ok (ga x.1 (by omega)) 18 (by decide)) ?_ ?_ ?_ | refine vc_pure (turn_ok (gb x.1 (by omega)) 17 (by decide)) ?_ ?_ ?_ | refine vc_pure (turn_ok (gb x.1 (by omega)) 19 (by decide)) ?_ ?_ ?_
                 | refine vc_weakf [] ?_ ?_ ?_ | refine vc_and ?_ ?_ | refine vc_ret [] [] ?_)
          | ((with_reducible first | refine vc_caseD (fun h => ?_) (fun h => ?_) | refine vc_caseN (fun h => ?_) (fun h => ?_)) <;> try (exfalso; omega))
          | ((with_reducible refine vc_case (fun h => ?_) (fun h => ?_)) <;> (try simp only [Go.Sym.vs1, reduceCtorEq] at h) <;> try (exfalso; first | omega | (simp at h; done)))))
  all_goals (try dsimp only)
  all_goals first
    | with_reducible rfl
    | omega
    | (show (0 : Int) ≤ _; decide)
    | exact ⟨by omega, by omega⟩
    | (show D.int .i64 _ = D.int .i64 _; first | rfl | (congr 1; rw [wrap64_id (by omega) (by omega)]; omega))
    | skip
  all_goals first
    | (have hm := hM
       first
       | (have e : x.1 = 48 := by omega
          rw [e, padW_full (sched_length bl 48)]; done)
       | (have hx : x.1 < 48 := by omega
          simp only [r1 x.1 hx, r2 x.1 hx, r3 x.1 hx, r4 x.1 hx, Int.toNat_natCast]
          first
          | exact ⟨by omega, by omega⟩
          | (rw [r0 x.1 _ (by omega)]; exact ⟨⟨by omega, trivial⟩, rfl⟩))
       | (have hx : x.1 < 48 := by omega
          rw [ga x.1 hx, gb x.1 hx, gc x.1 hx, gd x.1 hx]
          have s1 : ∀ x : W32, shrI .u32 (wI x) 3 = wI (x >>> 3) := fun x => w_shr x (k := 3) (by omega)
          have s2 : ∀ x : W32, shrI .u32 (wI x) 10 = wI (x >>> 10) := fun x => w_shr x (k := 10) (by omega)
          simp only [s1, s2, w_xor, w_add, Int.toNat_natCast]
          exact congrArg (D.arr 64 1) (r7 x.1 hx)))
    | (have hi := hI
       have q1 : IntKind.i64.wrap ((i : Int).tdiv 4) = ((i / 4 : Nat) : Int) := by
         rw [Int.tdiv_eq_ediv_of_nonneg (by omega), wrap64_id (by omega) (by omega)]; omega
       first
       | (have e : i = 64 := by omega
          rw [e, wP_all]; done)
       | (rw [q1]; exact ⟨by omega, by omega⟩)
       | (rw [q1]; omega)
       | (have hlt : i / 4 < (wP bl i).length := by rw [wP_length]; omega
          have a1 := w8_get (v := wP bl i) (i / 4) hlt
          rw [q1, Int.toNat_natCast, a1]; exact ⟨⟨by omega, trivial⟩, rfl⟩)
       | (rw [Int.toNat_natCast, getD_byte (by omega)]; exact ⟨⟨by omega, by omega⟩, rfl⟩)
       | (have hlt : i / 4 < (wP bl i).length := by rw [wP_length]; omega
          have a1 := w8_get (v := wP bl i) (i / 4) hlt
          have a2 : (bl.map byteD).getD i .nilp = byteD (bl.getD i 0) := getD_byte (by omega)
          have a3 := wP_get bl i (show i / 4 < 64 by omega)
          rw [show min 4 (i - 4 * (i / 4)) = i % 4 by omega] at a3
          have a4 : (byteD (bl.getD i 0)).toInt = ((bl.getD i 0).toNat : Int) := rfl
          have a5 : (wD ((wP bl i).getD (i / 4) 0)).toInt = wI (wacc bl (i / 4) (i % 4)) := by rw [a3]; rfl
          have a6 : (256 : Int) = wI c256 := rfl
          rw [q1, Int.toNat_natCast, Int.toNat_natCast, a1, a2, a4, a5, bW_wrap, a6, w_mul, w_add]
          exact congrArg (D.arr 64 1) (wP_set bl (by omega))))
    | rfl
    | exact congrArg (D.arr 64 1) (wP_zero bl).symm

end Go.Proofs.Ytcdjheiccefcdaa

/-
The reference's blocks and sums.
-/
set_option linter.unusedSimpArgs false
set_option linter.unusedVariables false
namespace Go.Proofs.Ytcdjheiccefcdaa
open Go.Sym
set_option maxRecDepth 10000
set_option maxHeartbeats 8000000

theorem sround_ref (v : List W32) (k w : W32) : (sround v k w).map wD = [D.int .u32 (wI (v.getD 7 0 + (rotr (v.getD 4 0) 6 ^^^ rotr (v.getD 4 0) 11 ^^^ rotr (v.getD 4 0) 25) + (v.getD 4 0 &&& v.getD 5 0 ^^^ ~~~ v.getD 4 0 &&& v.getD 6 0) + k + w + (rotr (v.getD 0 0) 2 ^^^ rotr (v.getD 0 0) 13 ^^^ rotr (v.getD 0 0) 22) + (v.getD 0 0 &&& v.getD 1 0 ^^^ v.getD 0 0 &&& v.getD 2 0 ^^^ v.getD 1 0 &&& v.getD 2 0))),
    D.int .u32 (wI (v.getD 0 0)), D.int .u32 (wI (v.getD 1 0)), D.int .u32 (wI (v.getD 2 0)), D.int .u32 (wI (v.getD 3 0 + (v.getD 7 0 + (rotr (v.getD 4 0) 6 ^^^ rotr (v.getD 4 0) 11 ^^^ rotr (v.getD 4 0) 25) + (v.getD 4 0 &&& v.getD 5 0 ^^^ ~~~ v.getD 4 0 &&& v.getD 6 0) + k + w))), D.int .u32 (wI (v.getD 4 0)), D.int .u32 (wI (v.getD 5 0)), D.int .u32 (wI (v.getD 6 0))] := by
  rw [BitVec.add_assoc (_ + w)]
  rfl

theorem block_ok (hs : List W32) (bl : List UInt8) (hh : hs.length = 8) (hb : bl.length = 64) :
    LocalCall Try.prog 88 [.d (.arr 8 1 (hs.map wD)), .d (.sl (bl.map byteD))] [] [] (one [.d (.arr 8 1 ((sblock hs bl).map wD))]) [] := by
  have hV : ∀ t, (srounds sK (sched bl 48) hs t).length = 8 := srounds_length _ _ hh
  have g : ∀ t k, k < 8 → ((srounds sK (sched bl 48) hs t).map wD).getD k .nilp = wD ((srounds sK (sched bl 48) hs t).getD k 0) := fun t k hk => w8_get k (by rw [hV]; exact hk)
  have g0 : ∀ t, (((srounds sK (sched bl 48) hs t).map wD).getD (Int.toNat 0) .nilp).toInt = wI ((srounds sK (sched bl 48) hs t).getD 0 0) := fun t => by rw [show Int.toNat 0 = 0 from rfl, g t 0 (by omega)]; rfl
  have g4 : ∀ t, (((srounds sK (sched bl 48) hs t).map wD).getD (Int.toNat 4) .nilp).toInt = wI ((srounds sK (sched bl 48) hs t).getD 4 0) := fun t => by rw [show Int.toNat 4 = 4 from rfl, g t 4 (by omega)]; rfl
  refine vc_fn mixed Try.func88 rfl rfl [] (vc_chk rfl) ?_
  repeat' (first
      | ((with_reducible refine vc_chk ?_); first | decide +kernel | rfl)
      | (with_reducible refine vc_side0 ?_; rfl)
      | (with_reducible first
           | refine vc_true ?_ | refine vc_true2 ?_ | refine vc_side ?_ ?_ | refine vc_triv | refine vc_later ?_ | refine vc_caseT ?_ | refine vc_caseF ?_ | refine vc_cons ?_ | refine vc_nil ?_ ?_ | refine vc_seq ?_
              | refine vc_region ?_ | refine vc_cond ?_ | refine vc_block ?_ | refine vc_retc ?_ | refine vc_exit ?_ | refine vc_skip ?_ | refine vc_scope ?_ | refine vc_label ?_ | refine vc_goto ?_ | refine vc_wkSl0
              | refine vc_wkHp0 | refine vc_eqAVs0 | refine vc_preG0 | refine vc_wkSl ?_ ?_ | refine vc_wkHp ?_ ?_ | refine vc_eqAVs ?_ ?_ | refine vc_preG ?_ ?_ | refine vc_side0 ?_ | refine vc_pure (words_ok bl hb) ?_ ?_ ?_
              | refine vc_pure round_ok ?_ ?_ ?_
              | refine vc_loopI (y := .seq (.seq (.region 5 _ _) _) _) 124 (fun (t : Nat) => [(2, .ptr 1000 []), (4, .ptr 1004 []), (5, .ptr 2008 []), (6, .ptr 3004 []), (7, .ptr 4004 []), (8, .d (.int .i64 (t : Int)))]) (fun t => [(1000, .var (.d (.arr 8 1 (hs.map wD)))), (1004, .var (.d (.arr 8 1 (List.replicate 8 (.int .u32 0))))), (2008, .var (.d (.arr 64 1 ((sched bl 48).map wD)))), (3004, .var (.d (.arr 64 1 (sK.map wD)))), (4004, .var (.d (.arr 8 1 ((srounds sK (sched bl 48) hs t).map wD))))]) (fun t => 64 - t) (fun t => t ≤ 64) 0 [] ?_ ?_ ?_ ?_ ?_ (fun t hI => ?_)
              | refine vc_loopI (y := .seq (.seq (.region 14 _ _) _) _) 124 (fun (x : Nat × Unit) => [(2, .ptr 1000 []), (4, .ptr 1004 []), (7, .ptr 4004 []), (14, .d (.int .i64 (x.1 : Int)))]) (fun x => [(1000, .var (.d (.arr 8 1 ((addW hs (srounds sK (sched bl 48) hs 64) x.1).map wD)))), (1004, .var (.d (.arr 8 1 (List.replicate 8 (.int .u32 0))))), (4004, .var (.d (.arr 8 1 ((srounds sK (sched bl 48) hs 64).map wD))))]) (fun x => 8 - x.1) (fun x => x.1 ≤ 8) (0, ()) [] ?_ ?_ ?_ ?_ ?_ (fun x hM => ?_)
              | refine vc_nextI (t + 1 : Nat) [] ?_ ?_ ?_ ?_ ?_ ?_ | refine vc_nextI (x.1 + 1, ()) [] ?_ ?_ ?_ ?_ ?_ ?_ | refine vc_pure (turn_ok (g0 t) 2 (by decide)) ?_ ?_ ?_
              | refine vc_pure (turn_ok (g0 t) 13 (by decide)) ?_ ?_ ?_ | refine vc_pure (turn_ok (g0 t) 22 (by decide)) ?_ ?_ ?_ | refine vc_pure (turn_ok (g4 t) 6 (by decide)) ?_ ?_ ?_
              | refine vc_pure (turn_ok (g4 t) 11 (by decide)) ?_ ?_ ?_ | refine vc_pure (turn_ok (g4 t) 25 (by decide)) ?_ ?_ ?_ | refine vc_weakf [] ?_ ?_ ?_ | refine vc_and ?_ ?_ | refine vc_ret [] [] ?_)
      | ((with_reducible first | refine vc_caseD (fun h => ?_) (fun h => ?_) | refine vc_caseN (fun h => ?_) (fun h => ?_)) <;> try (exfalso; omega))
      | ((with_reducible refine vc_case (fun h => ?_) (fun h => ?_)) <;> (try simp only [Go.Sym.vs1, reduceCtorEq] at h) <;> try (exfalso; first | omega | (simp at h; done)))
      | (conv in Vc _ => arg 1; whnf
         first
          | (with_reducible refine vc_side0 ?_; rfl)
          | (with_reducible first
              | refine vc_true ?_ | refine vc_true2 ?_ | refine vc_side ?_ ?_ | refine vc_triv | refine vc_later ?_ | refine vc_caseT ?_ | refine vc_caseF ?_ | refine vc_cons ?_ | refine vc_nil ?_ ?_ | refine vc_seq ?_
                 | refine vc_region ?_ | refine vc_cond ?_ | refine vc_block ?_ | refine vc_retc ?_ | refine vc_exit ?_ | refine vc_skip ?_ | refine vc_scope ?_ | refine vc_label ?_ | refine vc_goto ?_ | refine vc_wkSl0
                 | refine vc_wkHp0 | refine vc_eqAVs0 | refine vc_preG0 | refine vc_wkSl ?_ ?_ | refine vc_wkHp ?_ ?_ | refine vc_eqAVs ?_ ?_ | refine vc_preG ?_ ?_ | refine vc_side0 ?_ | refine vc_pure (words_ok bl hb) ?_ ?_ ?_
                 | refine vc_pure round_ok ?_ ?_ ?_
                 | refine vc_loopI (y := .seq (.seq (.region 5 _ _) _) _) 124 (fun (t : Nat) => [(2, .ptr 1000 []), (4, .ptr 1004 []), (5, .ptr 2008 []), (6, .ptr 3004 []), (7, .ptr 4004 []), (8, .d (.int .i64 (t : Int)))]) (fun t => [(1000, .var (.d (.arr 8 1 (hs.map wD)))), (1004, .var (.d (.arr 8 1 (List.replicate 8 (.int .u32 0))))), (2008, .var (.d (.arr 64 1 ((sched bl 48).map wD)))), (3004, .var (.d (.arr 64 1 (sK.map wD)))), (4004, .var (.d (.arr 8 1 ((srounds sK (sched bl 48) hs t).map wD))))]) (fun t => 64 - t) (fun t => t ≤ 64) 0 [] ?_ ?_ ?_ ?_ ?_ (fun t hI => ?_)
                 | refine vc_loopI (y := .seq (.seq (.region 14 _ _) _) _) 124 (fun (x : Nat × Unit) => [(2, .ptr 1000 []), (4, .ptr 1004 []), (7, .ptr 4004 []), (14, .d (.int .i64 (x.1 : Int)))]) (fun x => [(1000, .var (.d (.arr 8 1 ((addW hs (srounds sK (sched bl 48) hs 64) x.1).map wD)))), (1004, .var (.d (.arr 8 1 (List.replicate 8 (.int .u32 0))))), (4004, .var (.d (.arr 8 1 ((srounds sK (sched bl 48) hs 64).map wD))))]) (fun x => 8 - x.1) (fun x => x.1 ≤ 8) (0, ()) [] ?_ ?_ ?_ ?_ ?_ (fun x hM => ?_)
                 | refine vc_nextI (t + 1 : Nat) [] ?_ ?_ ?_ ?_ ?_ ?_ | refine vc_nextI (x.1 + 1, ()) [] ?_ ?_ ?_ ?_ ?_ ?_ | refine vc_pure (turn_ok (g0 t) 2 (by decide)) ?_ ?_ ?_
                 | refine vc_pure (turn_ok (g0 t) 13 (by decide)) ?_ ?_ ?_ | refine vc_pure (turn_ok (g0 t) 22 (by decide)) ?_ ?_ ?_ | refine vc_pure (turn_ok (g4 t) 6 (by decide)) ?_ ?_ ?_
                 | refine vc_pure (turn_ok (g4 t) 11 (by decide)) ?_ ?_ ?_ | refine vc_pure (turn_ok (g4 t) 25 (by decide)) ?_ ?_ ?_ | refine vc_weakf [] ?_ ?_ ?_ | refine vc_and ?_ ?_ | refine vc_ret [] [] ?_)
          | ((with_reducible first | refine vc_caseD (fun h => ?_) (fun h => ?_) | refine vc_caseN (fun h => ?_) (fun h => ?_)) <;> try (exfalso; omega))
          | ((with_reducible refine vc_case (fun h => ?_) (fun h => ?_)) <;> (try simp only [Go.Sym.vs1, reduceCtorEq] at h) <;> try (exfalso; first | omega | (simp at h; done)))))
  all_goals (try dsimp only)
  all_goals first
    | with_reducible rfl
    | omega
    | exact ⟨by omega, by omega⟩
    | (show D.int .i64 _ = D.int .i64 _; first | rfl | (congr 1; rw [wrap64_id (by omega) (by omega)]; omega))
    | ((repeat' apply And.intro) <;> first | trivial | decide)
    | skip
  all_goals first
    | (have hm := hM
       have hW : (srounds sK (sched bl 48) hs 64).length = 8 := hV 64
       first
       | (have ht : x.1 < 8 := by omega
          have a1 := w8_get (v := srounds sK (sched bl 48) hs 64) x.1 (by rw [hV]; exact ht)
          rw [Int.toNat_natCast, a1]
          exact ⟨⟨by omega, trivial⟩, rfl⟩)
       | (have ht : x.1 < 8 := by omega
          have a2 := w8_get (v := addW hs (srounds sK (sched bl 48) hs 64) x.1) x.1 (by rw [addW_length]; exact ht)
          rw [Int.toNat_natCast, a2]
          exact ⟨⟨by omega, trivial⟩, rfl⟩)
       | (have ht : x.1 < 8 := by omega
          have a1 := w8_get (v := srounds sK (sched bl 48) hs 64) x.1 (by rw [hV]; exact ht)
          have a2 := w8_get (v := addW hs (srounds sK (sched bl 48) hs 64) x.1) x.1 (by rw [addW_length]; exact ht)
          rw [Int.toNat_natCast, a1, a2, addW_get _ _ ht]
          have e1 : (wD (hs.getD x.1 0)).toInt = wI (hs.getD x.1 0) := rfl
          have e2 : (wD ((srounds sK (sched bl 48) hs 64).getD x.1 0)).toInt = wI ((srounds sK (sched bl 48) hs 64).getD x.1 0) := rfl
          rw [e1, e2, w_add]
          exact congrArg (D.arr 8 1) (addW_set hs (srounds sK (sched bl 48) hs 64) ht))
       | (have e : x.1 = 8 := by omega
          rw [e]
          rfl)
       | skip)
    | (have ht := hI
       (try simp only [n0, n1, n2, n3, n4, n5, n6, n7, n8, Int.toNat_natCast])
       first
       | (rw [g t _ (by omega)]; exact ⟨⟨by omega, trivial⟩, rfl⟩)
       | (rw [w8_get t (by rw [sched_length]; omega)]; exact ⟨⟨by omega, trivial⟩, rfl⟩)
       | (rw [w8_get t (show t < sK.length from (by omega : t < 64))]; exact ⟨⟨by omega, trivial⟩, rfl⟩)
       | (have gi : ∀ k, k < 8 → (((srounds sK (sched bl 48) hs t).map wD).getD k .nilp).toInt = wI ((srounds sK (sched bl 48) hs t).getD k 0) := fun k hk => by rw [g t k hk]; rfl
          have gk : ((sK.map wD).getD t .nilp).toInt = wI (sK.getD t 0) := by rw [w8_get t (show t < sK.length from (by omega : t < 64))]; rfl
          have gw : (((sched bl 48).map wD).getD t .nilp).toInt = wI ((sched bl 48).getD t 0) := by rw [w8_get t (by rw [sched_length]; omega)]; rfl
          simp only [gi 0 (by omega), gi 1 (by omega), gi 2 (by omega), gi 3 (by omega), gi 4 (by omega), gi 5 (by omega), gi 6 (by omega), gi 7 (by omega), gk, gw, w_not2, w_xor, w_and, w_add]
          exact congrArg (D.arr 8 1) (sround_ref _ _ _).symm)
       | (have e : t = 64 := by omega
          subst e
          first
          | with_reducible rfl
          | (rw [addW_zero _ hh]; done))
       | skip)
    | with_reducible rfl
    | exact congrArg (D.arr 8 1) rfl
    | skip

end Go.Proofs.Ytcdjheiccefcdaa

/-
The reference's sum.
-/
set_option linter.unusedSimpArgs false
set_option linter.unusedVariables false
namespace Go.Proofs.Ytcdjheiccefcdaa
open Go.Sym
set_option maxRecDepth 10000
set_option maxHeartbeats 8000000

/-- The state behind so many blocks. -/
def sAt (a : List UInt8) (j : Nat) : List W32 := sblocks sFirst (a.take (64 * j))

theorem sAt_zero (a : List UInt8) : sAt a 0 = sFirst := by
  unfold sAt
  rw [sblocks_small (by simp)]

theorem sAt_length (a : List UInt8) (j : Nat) : (sAt a j).length = 8 := sblocks_length rfl

theorem sAt_next {a : List UInt8} {j : Nat} (h : 64 * j + 64 ≤ a.length) : sblock (sAt a j) ((a.drop (64 * j)).take 64) = sAt a (j + 1) := by
  unfold sAt
  have e : a.take (64 * (j + 1)) = a.take (64 * j) ++ (a.drop (64 * j)).take 64 := by
    rw [show 64 * (j + 1) = 64 * j + 64 by omega, List.take_add]
  have hl : ((a.drop (64 * j)).take 64).length = 64 := by rw [List.length_take, List.length_drop]; omega
  have t : ((a.drop (64 * j)).take 64).take 64 = (a.drop (64 * j)).take 64 := List.take_of_length_le (by omega)
  have d : ((a.drop (64 * j)).take 64).drop 64 = [] := List.drop_of_length_le (by omega)
  rw [e, sblocks_append _ _ _ (by rw [List.length_take]; omega), sblocks_big (m := (a.drop (64 * j)).take 64) (by omega), t, d, sblocks_small (m := []) (by simp)]

theorem sAt_all {a : List UInt8} {j : Nat} (h : a.length < 64 * j + 64) (h2 : 64 * j ≤ a.length) : sAt a j = sblocks sFirst a := by
  unfold sAt
  rw [sblocks_rest sFirst a]
  congr 2; omega

theorem shaB_of (b : List UInt8) (h : b.length < 2 ^ 60) : wBytes (sblocks sFirst (b ++ spad b.length)) = shaB b := by
  unfold shaB
  rw [Nat.mod_eq_of_lt (show b.length < 2 ^ 64 by omega)]

theorem rSum_ok (b : List UInt8) (hl : b.length < 2 ^ 28) : LocalCall Try.prog 70 [.d (.sl (b.map byteD))] [] [] (one [.d (.arr 32 1 ((shaB b).map byteD))]) [] := by
  have hpl : (spad b.length).length ≤ 72 := by rw [spad_length]; omega
  have hA : (b ++ spad b.length).length = b.length + (spad b.length).length := List.length_append
  have hu : IntKind.u64.wrap ((b.map byteD).length : Int) = (b.length : Int) := by rw [List.length_map, u64_wrap]; omega
  have hp : LocalCall Try.prog 86 [.d (.int .u64 (IntKind.u64.wrap ((b.map byteD).length : Int)))] [] [] (one [.d (.sl ((spad b.length).map byteD))]) [] := by rw [hu]; exact rPad_ok b.length (by omega)
  generalize hAe : b ++ spad b.length = A at *
  have lA : (A.map byteD).length = A.length := List.length_map _
  have hbl : ∀ j, 64 * j + 64 ≤ A.length → ((A.drop (64 * j)).take 64).length = 64 := fun j h => by rw [List.length_take, List.length_drop]; omega
  have w64 : ∀ j, 64 * j ≤ A.length → IntKind.i64.wrap (((64 * j : Nat) : Int) + 64) = ((64 * j + 64 : Nat) : Int) := fun j h => by rw [wrap64_id (by omega) (by omega)]; rfl
  have hb2 : ∀ j, 64 * j ≤ A.length → IntKind.i64.wrap (((64 * j : Nat) : Int) + 64) ≤ ((A.map byteD).length : Int) → ((A.drop (64 * j)).take 64).length = 64 := fun j h1 h2 => hbl j (by rw [w64 j h1, lA] at h2; omega)
  have hS := sblocks_length (m := A) (h := sFirst) rfl
  have hd : wBytes (sblocks sFirst A) = shaB b := by rw [← hAe]; exact shaB_of b (by omega)
  refine vc_fn mixed Try.func70 rfl rfl [(5, [3])] (vc_chk rfl) ?_
  repeat' (first
      | ((with_reducible refine vc_chk ?_); first | decide +kernel | rfl)
      | (with_reducible refine vc_side0 ?_; rfl)
      | (with_reducible first
           | refine vc_true ?_ | refine vc_true2 ?_ | refine vc_side ?_ ?_ | refine vc_triv | refine vc_later ?_ | refine vc_caseT ?_ | refine vc_caseF ?_ | refine vc_cons ?_ | refine vc_nil ?_ ?_ | refine vc_seq ?_
              | refine vc_region ?_ | refine vc_cond ?_ | refine vc_block ?_ | refine vc_retc ?_ | refine vc_exit ?_ | refine vc_skip ?_ | refine vc_scope ?_ | refine vc_label ?_ | refine vc_goto ?_ | refine vc_wkSl0
              | refine vc_wkHp0 | refine vc_eqAVs0 | refine vc_preG0 | refine vc_wkSl ?_ ?_ | refine vc_wkHp ?_ ?_ | refine vc_eqAVs ?_ ?_ | refine vc_preG ?_ ?_ | refine vc_side0 ?_ | refine vc_pure hp ?_ ?_ ?_
              | refine vc_pure first_ok ?_ ?_ ?_
              | refine vc_loopI (y := .seq (.seq (.region 6 _ _) _) _) 50 (fun (j : Nat) => [(2, .ptr 1000 []), (3, .d (.sl (A.map byteD))), (4, .ptr 5004 []), (5, .d (.int .i64 ((64 * j : Nat) : Int)))]) (fun j => [(1000, .var (.d (.arr 32 1 (List.replicate 32 (.int .u8 0))))), (5004, .var (.d (.arr 8 1 ((sAt A j).map wD))))]) (fun j => A.length - 64 * j) (fun j => 64 * j ≤ A.length) 0 [] ?_ ?_ ?_ ?_ ?_ (fun j hI => ?_)
              | refine vc_call [] (block_ok (sAt A j) ((A.drop (64 * j)).take 64) (sAt_length _ _) (hb2 j hI h)) ?_
              | refine vc_loopI (y := .seq (.seq (.region 11 _ _) _) _) 50 (fun (x : Nat × Unit) => [(2, .ptr 1000 []), (4, .ptr 5004 []), (6, .ptr 10000 []), (7, .d (.int .i64 (x.1 : Int)))]) (fun x => [(1000, .var (.d (.arr 32 1 (List.replicate 32 (.int .u8 0))))), (5004, .var (.d (.arr 8 1 ((sblocks sFirst A).map wD)))), (10000, .var (.d (.arr 32 1 ((dB (sblocks sFirst A) x.1).map byteD))))]) (fun x => 32 - x.1) (fun x => x.1 ≤ 32) (0, ()) [] ?_ ?_ ?_ ?_ ?_ (fun x hM => ?_)
              | refine vc_nextI (j + 1 : Nat) [] ?_ ?_ ?_ ?_ ?_ ?_ | refine vc_nextI (x.1 + 1, ()) [] ?_ ?_ ?_ ?_ ?_ ?_ | refine vc_weakf [] ?_ ?_ ?_ | refine vc_and ?_ ?_ | refine vc_ret [] [] ?_)
      | ((with_reducible first | refine vc_caseD (fun h => ?_) (fun h => ?_) | refine vc_caseN (fun h => ?_) (fun h => ?_)) <;> try (exfalso; omega))
      | ((with_reducible refine vc_case (fun h => ?_) (fun h => ?_)) <;> (try simp only [Go.Sym.vs1, reduceCtorEq] at h) <;> try (exfalso; first | omega | (simp at h; done)))
      | (conv in Vc _ => arg 1; whnf
         first
          | (with_reducible refine vc_side0 ?_; rfl)
          | (with_reducible first
              | refine vc_true ?_ | refine vc_true2 ?_ | refine vc_side ?_ ?_ | refine vc_triv | refine vc_later ?_ | refine vc_caseT ?_ | refine vc_caseF ?_ | refine vc_cons ?_ | refine vc_nil ?_ ?_ | refine vc_seq ?_
                 | refine vc_region ?_ | refine vc_cond ?_ | refine vc_block ?_ | refine vc_retc ?_ | refine vc_exit ?_ | refine vc_skip ?_ | refine vc_scope ?_ | refine vc_label ?_ | refine vc_goto ?_ | refine vc_wkSl0
                 | refine vc_wkHp0 | refine vc_eqAVs0 | refine vc_preG0 | refine vc_wkSl ?_ ?_ | refine vc_wkHp ?_ ?_ | refine vc_eqAVs ?_ ?_ | refine vc_preG ?_ ?_ | refine vc_side0 ?_ | refine vc_pure hp ?_ ?_ ?_
                 | refine vc_pure first_ok ?_ ?_ ?_
                 | refine vc_loopI (y := .seq (.seq (.region 6 _ _) _) _) 50 (fun (j : Nat) => [(2, .ptr 1000 []), (3, .d (.sl (A.map byteD))), (4, .ptr 5004 []), (5, .d (.int .i64 ((64 * j : Nat) : Int)))]) (fun j => [(1000, .var (.d (.arr 32 1 (List.replicate 32 (.int .u8 0))))), (5004, .var (.d (.arr 8 1 ((sAt A j).map wD))))]) (fun j => A.length - 64 * j) (fun j => 64 * j ≤ A.length) 0 [] ?_ ?_ ?_ ?_ ?_ (fun j hI => ?_)
                 | refine vc_call [] (block_ok (sAt A j) ((A.drop (64 * j)).take 64) (sAt_length _ _) (hb2 j hI h)) ?_
                 | refine vc_loopI (y := .seq (.seq (.region 11 _ _) _) _) 50 (fun (x : Nat × Unit) => [(2, .ptr 1000 []), (4, .ptr 5004 []), (6, .ptr 10000 []), (7, .d (.int .i64 (x.1 : Int)))]) (fun x => [(1000, .var (.d (.arr 32 1 (List.replicate 32 (.int .u8 0))))), (5004, .var (.d (.arr 8 1 ((sblocks sFirst A).map wD)))), (10000, .var (.d (.arr 32 1 ((dB (sblocks sFirst A) x.1).map byteD))))]) (fun x => 32 - x.1) (fun x => x.1 ≤ 32) (0, ()) [] ?_ ?_ ?_ ?_ ?_ (fun x hM => ?_)
                 | refine vc_nextI (j + 1 : Nat) [] ?_ ?_ ?_ ?_ ?_ ?_ | refine vc_nextI (x.1 + 1, ()) [] ?_ ?_ ?_ ?_ ?_ ?_ | refine vc_weakf [] ?_ ?_ ?_ | refine vc_and ?_ ?_ | refine vc_ret [] [] ?_)
          | ((with_reducible first | refine vc_caseD (fun h => ?_) (fun h => ?_) | refine vc_caseN (fun h => ?_) (fun h => ?_)) <;> try (exfalso; omega))
          | ((with_reducible refine vc_case (fun h => ?_) (fun h => ?_)) <;> (try simp only [Go.Sym.vs1, reduceCtorEq] at h) <;> try (exfalso; first | omega | (simp at h; done)))))
  all_goals (try dsimp only)
  all_goals first
    | with_reducible rfl
    | omega
    | skip
  all_goals first
    | (have hm := hM
       first
       | (show D.int .i64 _ = D.int .i64 _; congr 1; rw [wrap64_id (by omega) (by omega)]; omega)
       | (have e : x.1 = 32 := by omega
          rw [e, dB_all, hd]; done)
       | (have q1 : IntKind.i64.wrap ((x.1 : Int).tdiv 4) = ((x.1 / 4 : Nat) : Int) := by
            rw [Int.tdiv_eq_ediv_of_nonneg (by omega), wrap64_id (by omega) (by omega)]; omega
          have q2 : (x.1 : Int).tmod 4 = ((x.1 % 4 : Nat) : Int) := by
            rw [Int.tmod_eq_emod_of_nonneg (by omega)]; omega
          have q3 : IntKind.u64.wrap (IntKind.i64.wrap (24 - IntKind.i64.wrap (8 * ((x.1 % 4 : Nat) : Int)))) = ((24 - 8 * (x.1 % 4) : Nat) : Int) := by
            rw [wrap64_id (n := 8 * ((x.1 % 4 : Nat) : Int)) (by omega) (by omega), wrap64_id (by omega) (by omega), u64_wrap]; omega
          have a1 := w8_get (v := sblocks sFirst A) (x.1 / 4) (by rw [hS]; omega)
          have a2 : (wD ((sblocks sFirst A).getD (x.1 / 4) 0)).toInt = wI ((sblocks sFirst A).getD (x.1 / 4) 0) := rfl
          have e := wByte_eq (sblocks sFirst A) x.1 (24 - 8 * (x.1 % 4)) rfl
          simp only [q1, q2, q3, Int.toNat_natCast, a1]
          first
          | exact ⟨by omega, by omega⟩
          | omega
          | exact ⟨⟨by omega, trivial⟩, rfl⟩
          | (rw [a2, e]
             exact congrArg (D.arr 32 1) (dB_set _ (by omega)))))
    | (have hi := hI
       (try rw [w64 j hI] at h)
       (try rw [w64 j hI])
       first
       | omega
       | exact ⟨⟨by omega, by omega, by omega⟩, fun y hy => by obtain ⟨c, _, rfl⟩ := List.mem_map.1 hy; rfl⟩
       | (show D.sl _ = D.sl _
          unfold cutD
          rw [Int.toNat_natCast, Int.toNat_natCast, ← List.map_take, ← List.map_drop, List.drop_take, show 64 * j + 64 - 64 * j = 64 by omega]; done)
       | (rw [sAt_next (by omega)]; done)
       | (rw [sAt_all (by omega) (by omega)]; done)
       | rfl
       | exact congrArg (D.arr 32 1) (dB_zero _).symm)
    | exact ⟨⟨trivial, room_small rfl (by rw [List.length_map]; omega)⟩, fun y hy => by obtain ⟨c, _, rfl⟩ := List.mem_map.1 hy; rfl⟩
    | exact ⟨⟨trivial, rfl, room_small rfl (by rw [List.length_append, List.length_map, List.length_map]; omega)⟩, fun y hy => by obtain ⟨c, _, rfl⟩ := List.mem_map.1 hy; rfl⟩
    | (rw [List.drop_zero, List.take_length, ← List.map_append, hAe]; done)
    | (rw [sAt_zero]; done)
    | (rw [sAt_zero]; rfl)
    | rfl

end Go.Proofs.Ytcdjheiccefcdaa
