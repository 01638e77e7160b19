/-
The reader's numbers.
-/
import Derived.Test.YthedcaopedbpdaaCoded
namespace Go.Proofs.Ythedcaopedbpdaa
open Go.Sym
set_option maxRecDepth 10000
set_option maxHeartbeats 1000000

theorem num_read (B : List D) (bs : List UInt8) (hB : B = bs.map byteD) (k v e : Nat) (hr : rdN bs 10 k 0 0 = some (v, e)) (hl : bs.length < 2 ^ 62) :
    LocalCall Try.prog 39 [.ptr 9 []] [(9, rd B k)] [] (one [.d (.int .u64 (v : Int))]) [(9, rd B e)] := by
  refine vc_fn mixed Try.func39 rfl rfl [] (vc_chk rfl) ?_
  repeat' (first
      | ((with_reducible refine vc_chk ?_); first | decide +kernel | rfl)
      | (with_reducible refine vc_side0 ?_; rfl)
      | (with_reducible first
          
              | refine vc_loopI 36 (fun (x : Nat × Nat × Nat) => [(0, .ptr 9 []), (3, .d (.int .u64 (x.1 : Int))), (4, .d (.int .i64 ((7 * x.2.1 : Nat) : Int)))]) (fun x => [(9, rd B x.2.2)]) (fun x => 10 - x.2.1) (RdI bs (some (v, e))) (0, 0, k) [] ?_ ?_ ?_ ?_ ?_ (fun x hI => hI.ok fun c hc hi hn hj hb1 hb2 hv hx => ?_)
              | refine vc_call [] (byte_ok B bs hB x.2.2 hi hl c hc) ?_ | refine vc_nextI (x.1 + c.toNat % 128 * 2 ^ (7 * x.2.1), x.2.1 + 1, x.2.2 + 1) [] ?_ ?_ ?_ ?_ ?_ ?_ | refine vc_true ?_ | refine vc_true2 ?_
              | refine vc_side ?_ ?_ | refine vc_triv | refine vc_later ?_ | refine vc_caseT ?_ | refine vc_caseF ?_ | refine vc_cons ?_ | refine vc_nil ?_ ?_ | refine vc_seq ?_ | refine vc_region ?_ | refine vc_cond ?_
              | refine vc_block ?_ | refine vc_retc ?_ | refine vc_exit ?_ | refine vc_skip ?_ | refine vc_scope ?_ | refine vc_label ?_ | refine vc_goto ?_ | refine vc_wkSl0 | refine vc_wkHp0 | refine vc_eqAVs0 | refine vc_preG0
              | refine vc_wkSl ?_ ?_ | refine vc_wkHp ?_ ?_ | refine vc_eqAVs ?_ ?_ | refine vc_preG ?_ ?_ | refine vc_ret [] [] ?_ | refine vc_weakf [] ?_ ?_ ?_ | refine vc_side0 ?_ | refine vc_and ?_ ?_)
      | ((with_reducible first | refine vc_caseD (fun h => ?_) (fun h => ?_) | refine vc_caseN (fun h => ?_) (fun h => ?_)) <;> try (exfalso; omega))
      | ((with_reducible refine vc_case (fun h => ?_) (fun h => ?_)) <;> (try simp at h) <;> try (exfalso; omega))
      | (conv in Vc _ => arg 1; whnf
         first
          | (with_reducible refine vc_side0 ?_; rfl)
          | (with_reducible first
             
                 | refine vc_loopI 36 (fun (x : Nat × Nat × Nat) => [(0, .ptr 9 []), (3, .d (.int .u64 (x.1 : Int))), (4, .d (.int .i64 ((7 * x.2.1 : Nat) : Int)))]) (fun x => [(9, rd B x.2.2)]) (fun x => 10 - x.2.1) (RdI bs (some (v, e))) (0, 0, k) [] ?_ ?_ ?_ ?_ ?_ (fun x hI => hI.ok fun c hc hi hn hj hb1 hb2 hv hx => ?_)
                 | refine vc_call [] (byte_ok B bs hB x.2.2 hi hl c hc) ?_ | refine vc_nextI (x.1 + c.toNat % 128 * 2 ^ (7 * x.2.1), x.2.1 + 1, x.2.2 + 1) [] ?_ ?_ ?_ ?_ ?_ ?_ | refine vc_true ?_ | refine vc_true2 ?_
                 | refine vc_side ?_ ?_ | refine vc_triv | refine vc_later ?_ | refine vc_caseT ?_ | refine vc_caseF ?_ | refine vc_cons ?_ | refine vc_nil ?_ ?_ | refine vc_seq ?_ | refine vc_region ?_ | refine vc_cond ?_
                 | refine vc_block ?_ | refine vc_retc ?_ | refine vc_exit ?_ | refine vc_skip ?_ | refine vc_scope ?_ | refine vc_label ?_ | refine vc_goto ?_ | refine vc_wkSl0 | refine vc_wkHp0 | refine vc_eqAVs0
                 | refine vc_preG0 | refine vc_wkSl ?_ ?_ | refine vc_wkHp ?_ ?_ | refine vc_eqAVs ?_ ?_ | refine vc_preG ?_ ?_ | refine vc_ret [] [] ?_ | refine vc_weakf [] ?_ ?_ ?_ | refine vc_side0 ?_ | refine vc_and ?_ ?_)
          | ((with_reducible first | refine vc_caseD (fun h => ?_) (fun h => ?_) | refine vc_caseN (fun h => ?_) (fun h => ?_)) <;> try (exfalso; omega))
          | ((with_reducible refine vc_case (fun h => ?_) (fun h => ?_)) <;> (try simp at h) <;> try (exfalso; omega))))
  all_goals first
    | rfl
    | exact ⟨hr, by simp, by simp⟩
    | (simp only; omega)
    | exact hx (by omega)
    | (have hw := hv (by omega)
       rw [or_shift hn hj hb1, hw.1]; done)
    | (have hw := hv (by omega)
       rw [hw.2]; done)
    | (rw [or_shift hn hj hb1]; done)
    | (congr 1; rw [wrap64_id (by omega) (by omega)]; simp only; omega)

theorem num_nread (B : List D) (bs : List UInt8) (hB : B = bs.map byteD) (k : Nat) (hr : rdN bs 10 k 0 0 = none) (hl : bs.length < 2 ^ 62) :
    LocalPan Try.prog 39 [.ptr 9 []] [(9, rd B k)] [] fault [(9, .dead)] := by
  refine vc_fnPan mixed Try.func39 rfl rfl [] (vc_chk rfl) ?_
  repeat' (first
      | ((with_reducible refine vc_chk ?_); first | decide +kernel | rfl)
      | (with_reducible refine vc_side0 ?_; rfl)
      | (with_reducible first
          
              | refine vc_loopI 36 (fun (x : Nat × Nat × Nat) => [(0, .ptr 9 []), (3, .d (.int .u64 (x.1 : Int))), (4, .d (.int .i64 ((7 * x.2.1 : Nat) : Int)))]) (fun x => [(9, rd B x.2.2)]) (fun x => 10 - x.2.1) (RdI bs none) (0, 0, k) [] ?_ ?_ ?_ ?_ ?_ (fun x hI => hI.no (fun hi => ?_) fun c hc hi hn hj hb hx => ?_)
              | refine vc_call [] (byte_ok B bs hB x.2.2 hi hl c hc) ?_ | refine vc_pan [] (byte_pan B bs hB x.2.2 hi) ?_ | refine vc_pan [] (fail_pan B (x.2.2 + 1)) ?_
              | refine vc_nextI (x.1 + c.toNat % 128 * 2 ^ (7 * x.2.1), x.2.1 + 1, x.2.2 + 1) [] ?_ ?_ ?_ ?_ ?_ ?_ | refine vc_panc [] [] ?_ ?_ | refine vc_true ?_ | refine vc_true2 ?_ | refine vc_side ?_ ?_ | refine vc_triv
              | refine vc_later ?_ | refine vc_caseT ?_ | refine vc_caseF ?_ | refine vc_cons ?_ | refine vc_nil ?_ ?_ | refine vc_seq ?_ | refine vc_region ?_ | refine vc_cond ?_ | refine vc_block ?_ | refine vc_retc ?_
              | refine vc_exit ?_ | refine vc_skip ?_ | refine vc_scope ?_ | refine vc_label ?_ | refine vc_goto ?_ | refine vc_wkSl0 | refine vc_wkHp0 | refine vc_eqAVs0 | refine vc_preG0 | refine vc_wkSl ?_ ?_
              | refine vc_wkHp ?_ ?_ | refine vc_eqAVs ?_ ?_ | refine vc_preG ?_ ?_ | refine vc_ret [] [] ?_ | refine vc_weakf [] ?_ ?_ ?_ | refine vc_side0 ?_ | refine vc_and ?_ ?_)
      | ((with_reducible first | refine vc_caseD (fun h => ?_) (fun h => ?_) | refine vc_caseN (fun h => ?_) (fun h => ?_)) <;> try (exfalso; omega))
      | ((with_reducible refine vc_case (fun h => ?_) (fun h => ?_)) <;> (try simp at h) <;> try (exfalso; omega))
      | (conv in Vc _ => arg 1; whnf
         first
          | (with_reducible refine vc_side0 ?_; rfl)
          | (with_reducible first
             
                 | refine vc_loopI 36 (fun (x : Nat × Nat × Nat) => [(0, .ptr 9 []), (3, .d (.int .u64 (x.1 : Int))), (4, .d (.int .i64 ((7 * x.2.1 : Nat) : Int)))]) (fun x => [(9, rd B x.2.2)]) (fun x => 10 - x.2.1) (RdI bs none) (0, 0, k) [] ?_ ?_ ?_ ?_ ?_ (fun x hI => hI.no (fun hi => ?_) fun c hc hi hn hj hb hx => ?_)
                 | refine vc_call [] (byte_ok B bs hB x.2.2 hi hl c hc) ?_ | refine vc_pan [] (byte_pan B bs hB x.2.2 hi) ?_ | refine vc_pan [] (fail_pan B (x.2.2 + 1)) ?_
                 | refine vc_nextI (x.1 + c.toNat % 128 * 2 ^ (7 * x.2.1), x.2.1 + 1, x.2.2 + 1) [] ?_ ?_ ?_ ?_ ?_ ?_ | refine vc_panc [] [] ?_ ?_ | refine vc_true ?_ | refine vc_true2 ?_ | refine vc_side ?_ ?_ | refine vc_triv
                 | refine vc_later ?_ | refine vc_caseT ?_ | refine vc_caseF ?_ | refine vc_cons ?_ | refine vc_nil ?_ ?_ | refine vc_seq ?_ | refine vc_region ?_ | refine vc_cond ?_ | refine vc_block ?_ | refine vc_retc ?_
                 | refine vc_exit ?_ | refine vc_skip ?_ | refine vc_scope ?_ | refine vc_label ?_ | refine vc_goto ?_ | refine vc_wkSl0 | refine vc_wkHp0 | refine vc_eqAVs0 | refine vc_preG0 | refine vc_wkSl ?_ ?_
                 | refine vc_wkHp ?_ ?_ | refine vc_eqAVs ?_ ?_ | refine vc_preG ?_ ?_ | refine vc_ret [] [] ?_ | refine vc_weakf [] ?_ ?_ ?_ | refine vc_side0 ?_ | refine vc_and ?_ ?_)
          | ((with_reducible first | refine vc_caseD (fun h => ?_) (fun h => ?_) | refine vc_caseN (fun h => ?_) (fun h => ?_)) <;> try (exfalso; omega))
          | ((with_reducible refine vc_case (fun h => ?_) (fun h => ?_)) <;> (try simp at h) <;> try (exfalso; omega))))
  all_goals first
    | rfl
    | exact ⟨hr, by simp, by simp⟩
    | (simp only; omega)
    | exact hx (by omega) (by omega)
    | (rw [or_shift hn hj (by omega)]; done)
    | (congr 1; rw [wrap64_id (by omega) (by omega)]; simp only; omega)

end Go.Proofs.Ythedcaopedbpdaa
