/-
The laws of the path layer: each returns true.
-/
import Derived.Test.YtbapkpmmanmbdaaPathe
namespace Go.Proofs.Ytbapkpmmanmbdaa
open Go.Sym
set_option maxRecDepth 10000
set_option maxHeartbeats 1000000

theorem fits_dig (f : Nat) (a : List UInt8) : D.fits Try.prog (f + 2) 23 (.arr 32 1 (a.map byteD)) := by
  have hu : Try.prog.underlying 23 = some (.array 32 5) := rfl
  have hu2 : Try.prog.underlying 5 = some (.int .u8) := rfl
  simp only [D.fits, hu]
  refine ⟨trivial, rfl, rfl, fun y hy => ?_, fun y hy => ?_⟩
  · obtain ⟨c, _, rfl⟩ := List.mem_map.1 hy; rfl
  · obtain ⟨c, _, rfl⟩ := List.mem_map.1 hy
    simp only [hu2, byteD]

theorem beqs_bytes : ∀ a b : List UInt8, D.beqs (a.map byteD) (b.map byteD) = decide (a = b)
  | [], [] => rfl
  | [], _ :: _ => rfl
  | _ :: _, [] => rfl
  | x :: a, y :: b => by
    simp only [List.map_cons, D.beqs, beqs_bytes a b, byteD, D.beq, List.cons.injEq]
    rw [Bool.eq_iff_iff]
    simp only [Bool.and_eq_true, decide_eq_true_eq, beq_iff_eq]
    exact and_congr_left fun _ => ⟨fun h => UInt8.toNat_inj.1 (Int.ofNat_inj.1 h), fun h => by rw [h]⟩
theorem beq_dig (n e m f : Nat) (a b : List UInt8) : (D.arr n e (a.map byteD)).beq (.arr m f (b.map byteD)) = decide (a = b) := by
  simp only [D.beq]; exact beqs_bytes a b

/-- A digest of one byte and zeros. -/
def dig1 (c : UInt8) : List UInt8 := c :: List.replicate 31 0
theorem dig1_length (c : UInt8) : (dig1 c).length = 32 := rfl

theorem common_comm (a b : List UInt8) : common a b = common b a := by
  unfold common
  congr 2
  funext i
  cases bitB a i <;> cases bitB b i <;> rfl

theorem works_ok : LocalCall Try.prog 11 [] [] [] (one [.d (.bool true)]) [] := by
  refine vc_fn mixed Try.func11 rfl rfl [] (vc_chk rfl) ?_
  repeat' (first
      | ((with_reducible refine vc_chk ?_); first | decide +kernel | rfl)
      | (with_reducible refine vc_side0 ?_; rfl)
      | (with_reducible first
           | refine vc_pure (bit_ok _ (dig1 128) ?_ (dig1_length _) _) ?_ ?_ ?_ | refine vc_pure (common_ok _ _ (dig1 128) (dig1 129) ?_ ?_ (dig1_length _) (dig1_length _)) ?_ ?_ ?_
              | refine vc_pure (less_ok _ _ (dig1 1) (dig1 2) ?_ ?_ (dig1_length _) (dig1_length _)) ?_ ?_ ?_ | refine vc_pure (cut_ok _ (dig1 255) ?_ (dig1_length _) _) ?_ ?_ ?_ | refine vc_true ?_ | refine vc_true2 ?_
              | refine vc_side ?_ ?_ | refine vc_triv | refine vc_later ?_ | refine vc_caseT ?_ | refine vc_caseF ?_ | refine vc_cons ?_ | refine vc_nil ?_ ?_ | refine vc_seq ?_ | refine vc_region ?_ | refine vc_cond ?_
              | refine vc_block ?_ | refine vc_retc ?_ | refine vc_exit ?_ | refine vc_skip ?_ | refine vc_scope ?_ | refine vc_label ?_ | refine vc_goto ?_ | refine vc_wkSl0 | refine vc_wkHp0 | refine vc_eqAVs0 | refine vc_preG0
              | refine vc_wkSl ?_ ?_ | refine vc_wkHp ?_ ?_ | refine vc_eqAVs ?_ ?_ | refine vc_preG ?_ ?_ | refine vc_ret [] [] ?_ | refine vc_weakf [] ?_ ?_ ?_ | refine vc_side0 ?_ | refine vc_and ?_ ?_)
      | ((with_reducible first | refine vc_caseD (fun h => ?_) (fun h => ?_) | refine vc_caseN (fun h => ?_) (fun h => ?_)) <;> try (exfalso; omega))
      | ((with_reducible refine vc_case (fun h => ?_) (fun h => ?_)) <;> (try simp at h) <;> try (exfalso; omega))
      | (conv in Vc _ => arg 1; whnf
         first
          | (with_reducible refine vc_side0 ?_; rfl)
          | (with_reducible first
              | refine vc_pure (bit_ok _ (dig1 128) ?_ (dig1_length _) _) ?_ ?_ ?_ | refine vc_pure (common_ok _ _ (dig1 128) (dig1 129) ?_ ?_ (dig1_length _) (dig1_length _)) ?_ ?_ ?_
                 | refine vc_pure (less_ok _ _ (dig1 1) (dig1 2) ?_ ?_ (dig1_length _) (dig1_length _)) ?_ ?_ ?_ | refine vc_pure (cut_ok _ (dig1 255) ?_ (dig1_length _) _) ?_ ?_ ?_ | refine vc_true ?_ | refine vc_true2 ?_
                 | refine vc_side ?_ ?_ | refine vc_triv | refine vc_later ?_ | refine vc_caseT ?_ | refine vc_caseF ?_ | refine vc_cons ?_ | refine vc_nil ?_ ?_ | refine vc_seq ?_ | refine vc_region ?_ | refine vc_cond ?_
                 | refine vc_block ?_ | refine vc_retc ?_ | refine vc_exit ?_ | refine vc_skip ?_ | refine vc_scope ?_ | refine vc_label ?_ | refine vc_goto ?_ | refine vc_wkSl0 | refine vc_wkHp0 | refine vc_eqAVs0
                 | refine vc_preG0 | refine vc_wkSl ?_ ?_ | refine vc_wkHp ?_ ?_ | refine vc_eqAVs ?_ ?_ | refine vc_preG ?_ ?_ | refine vc_ret [] [] ?_ | refine vc_weakf [] ?_ ?_ ?_ | refine vc_side0 ?_ | refine vc_and ?_ ?_)
          | ((with_reducible first | refine vc_caseD (fun h => ?_) (fun h => ?_) | refine vc_caseN (fun h => ?_) (fun h => ?_)) <;> try (exfalso; omega))
          | ((with_reducible refine vc_case (fun h => ?_) (fun h => ?_)) <;> (try simp at h) <;> try (exfalso; omega))))
  all_goals first
    | exact ⟨by decide, trivial⟩
    | exact ⟨fits_dig 6 _, fits_dig 6 (dig1 192)⟩
    | rfl
    | (exfalso; revert h; decide +kernel)
    | decide +kernel

def isDig (x : D) (bs : List UInt8) : Prop := x = .arr 32 1 (bs.map byteD) ∧ bs.length = 32

theorem pathBits_main (d : List UInt8) (hd : d.length = 32) (i : Int) (on : Bool) : LocalCall Try.prog 3 [.d (.arr 32 1 (d.map byteD)), .d (.int .i64 i), .d (.bool on)] [] [] (one [.d (.bool true)]) [] := by
  refine vc_fn mixed Try.func3 rfl rfl [] (vc_chk rfl) ?_
  repeat' (first
      | ((with_reducible refine vc_chk ?_); first | decide +kernel | rfl)
      | (with_reducible refine vc_side0 ?_; rfl)
      | (with_reducible first
           | refine vc_pure (set_ok _ d rfl hd _ _) ?_ ?_ ?_ | refine vc_pure (rSet_ok _ d rfl hd _ _) ?_ ?_ ?_ | refine vc_pure (bit_ok _ d rfl hd _) ?_ ?_ ?_
              | refine vc_pure (bit_ok _ (setI d i on) rfl (setI_length hd _ _) _) ?_ ?_ ?_ | refine vc_pure (rBit_ok _ d rfl hd _) ?_ ?_ ?_ | refine vc_pure works_ok ?_ ?_ ?_ | refine vc_true ?_ | refine vc_true2 ?_
              | refine vc_side ?_ ?_ | refine vc_triv | refine vc_later ?_ | refine vc_caseT ?_ | refine vc_caseF ?_ | refine vc_cons ?_ | refine vc_nil ?_ ?_ | refine vc_seq ?_ | refine vc_region ?_ | refine vc_cond ?_
              | refine vc_block ?_ | refine vc_retc ?_ | refine vc_exit ?_ | refine vc_skip ?_ | refine vc_scope ?_ | refine vc_label ?_ | refine vc_goto ?_ | refine vc_wkSl0 | refine vc_wkHp0 | refine vc_eqAVs0 | refine vc_preG0
              | refine vc_wkSl ?_ ?_ | refine vc_wkHp ?_ ?_ | refine vc_eqAVs ?_ ?_ | refine vc_preG ?_ ?_ | refine vc_ret [] [] ?_ | refine vc_weakf [] ?_ ?_ ?_ | refine vc_side0 ?_ | refine vc_and ?_ ?_)
      | ((with_reducible first | refine vc_caseD (fun h => ?_) (fun h => ?_) | refine vc_caseN (fun h => ?_) (fun h => ?_)) <;> try (exfalso; omega))
      | ((with_reducible refine vc_case (fun h => ?_) (fun h => ?_)) <;> (try simp at h) <;> try (exfalso; omega))
      | (conv in Vc _ => arg 1; whnf
         first
          | (with_reducible refine vc_side0 ?_; rfl)
          | (with_reducible first
              | refine vc_pure (set_ok _ d rfl hd _ _) ?_ ?_ ?_ | refine vc_pure (rSet_ok _ d rfl hd _ _) ?_ ?_ ?_ | refine vc_pure (bit_ok _ d rfl hd _) ?_ ?_ ?_
                 | refine vc_pure (bit_ok _ (setI d i on) rfl (setI_length hd _ _) _) ?_ ?_ ?_ | refine vc_pure (rBit_ok _ d rfl hd _) ?_ ?_ ?_ | refine vc_pure works_ok ?_ ?_ ?_ | refine vc_true ?_ | refine vc_true2 ?_
                 | refine vc_side ?_ ?_ | refine vc_triv | refine vc_later ?_ | refine vc_caseT ?_ | refine vc_caseF ?_ | refine vc_cons ?_ | refine vc_nil ?_ ?_ | refine vc_seq ?_ | refine vc_region ?_ | refine vc_cond ?_
                 | refine vc_block ?_ | refine vc_retc ?_ | refine vc_exit ?_ | refine vc_skip ?_ | refine vc_scope ?_ | refine vc_label ?_ | refine vc_goto ?_ | refine vc_wkSl0 | refine vc_wkHp0 | refine vc_eqAVs0
                 | refine vc_preG0 | refine vc_wkSl ?_ ?_ | refine vc_wkHp ?_ ?_ | refine vc_eqAVs ?_ ?_ | refine vc_preG ?_ ?_ | refine vc_ret [] [] ?_ | refine vc_weakf [] ?_ ?_ ?_ | refine vc_side0 ?_ | refine vc_and ?_ ?_)
          | ((with_reducible first | refine vc_caseD (fun h => ?_) (fun h => ?_) | refine vc_caseN (fun h => ?_) (fun h => ?_)) <;> try (exfalso; omega))
          | ((with_reducible refine vc_case (fun h => ?_) (fun h => ?_)) <;> (try simp at h) <;> try (exfalso; omega))))
  all_goals first
    | exact ⟨fits_dig 6 _, fits_dig 6 _⟩
    | rfl
    | (exfalso; simp only [beq_dig, decide_true] at h; cases h)
    | (exfalso; apply h
       obtain ⟨n, rfl⟩ : ∃ n : Nat, i = n := ⟨i.toNat, by omega⟩
       have hn : n < 256 := by omega
       rw [bitI_nat _ hn, setI_nat _ hn]
       unfold setB
       rw [bitB_ofBits _ _ hn]; simp)

theorem pathGoes_main (d : List UInt8) (hd : d.length = 32) (stop : Int) : LocalCall Try.prog 4 [.d (.arr 32 1 (d.map byteD)), .d (.int .i64 stop)] [] [] (one [.d (.bool true)]) [] := by
  refine vc_fn mixed Try.func4 rfl rfl [] (vc_chk rfl) ?_
  repeat' (first
      | ((with_reducible refine vc_chk ?_); first | decide +kernel | rfl)
      | (with_reducible refine vc_side0 ?_; rfl)
      | (with_reducible first
           | refine vc_callU (bits_ok _) ?_ ?_ | refine vc_pure (rBit_ok _ d rfl hd _) ?_ ?_ ?_ | refine vc_pure works_ok ?_ ?_ ?_
              | refine vc_range 45 21 7 (.arr 32 1 (d.map byteD)) 256 (fun i => [.int .i64 (i : Int), .bool (bitB d i)]) [(2, .ptr 1000 []), (3, .ptr 1004 []), (4, .ptr 1008 []), (6, .ptr 5000 [])] (fun i => [(1000, .var (.d (.arr 32 1 (d.map byteD)))), (1004, .var (.d (.int .i64 stop))), (1008, .var (.d (.bool false))), (5000, .var (.d (.int .i64 (i : Int))))]) (fun _ => True) [] ?_ ?_ ?_ ?_ (bits_seq d hd) (fun _ => ⟨rfl, rfl⟩) ?_ ?_ ?_ ?_ ?_ (fun i hi hI => ?_) (fun hI => ?_)
              | refine vc_endc [] ?_ ?_ ?_ ?_ | refine vc_true ?_ | refine vc_true2 ?_ | refine vc_side ?_ ?_ | refine vc_triv | refine vc_later ?_ | refine vc_caseT ?_ | refine vc_caseF ?_ | refine vc_cons ?_
              | refine vc_nil ?_ ?_ | refine vc_seq ?_ | refine vc_region ?_ | refine vc_cond ?_ | refine vc_block ?_ | refine vc_retc ?_ | refine vc_exit ?_ | refine vc_skip ?_ | refine vc_scope ?_ | refine vc_label ?_
              | refine vc_goto ?_ | refine vc_wkSl0 | refine vc_wkHp0 | refine vc_eqAVs0 | refine vc_preG0 | refine vc_wkSl ?_ ?_ | refine vc_wkHp ?_ ?_ | refine vc_eqAVs ?_ ?_ | refine vc_preG ?_ ?_ | refine vc_ret [] [] ?_
              | refine vc_weakf [] ?_ ?_ ?_ | refine vc_side0 ?_ | refine vc_and ?_ ?_)
      | ((with_reducible first | refine vc_caseD (fun h => ?_) (fun h => ?_) | refine vc_caseN (fun h => ?_) (fun h => ?_)) <;> try (exfalso; omega))
      | ((with_reducible refine vc_case (fun h => ?_) (fun h => ?_)) <;> (try simp at h) <;> try (exfalso; omega))
      | (conv in Vc _ => arg 1; whnf
         first
          | (with_reducible refine vc_side0 ?_; rfl)
          | (with_reducible first
              | refine vc_callU (bits_ok _) ?_ ?_ | refine vc_pure (rBit_ok _ d rfl hd _) ?_ ?_ ?_ | refine vc_pure works_ok ?_ ?_ ?_
                 | refine vc_range 45 21 7 (.arr 32 1 (d.map byteD)) 256 (fun i => [.int .i64 (i : Int), .bool (bitB d i)]) [(2, .ptr 1000 []), (3, .ptr 1004 []), (4, .ptr 1008 []), (6, .ptr 5000 [])] (fun i => [(1000, .var (.d (.arr 32 1 (d.map byteD)))), (1004, .var (.d (.int .i64 stop))), (1008, .var (.d (.bool false))), (5000, .var (.d (.int .i64 (i : Int))))]) (fun _ => True) [] ?_ ?_ ?_ ?_ (bits_seq d hd) (fun _ => ⟨rfl, rfl⟩) ?_ ?_ ?_ ?_ ?_ (fun i hi hI => ?_) (fun hI => ?_)
                 | refine vc_endc [] ?_ ?_ ?_ ?_ | refine vc_true ?_ | refine vc_true2 ?_ | refine vc_side ?_ ?_ | refine vc_triv | refine vc_later ?_ | refine vc_caseT ?_ | refine vc_caseF ?_ | refine vc_cons ?_
                 | refine vc_nil ?_ ?_ | refine vc_seq ?_ | refine vc_region ?_ | refine vc_cond ?_ | refine vc_block ?_ | refine vc_retc ?_ | refine vc_exit ?_ | refine vc_skip ?_ | refine vc_scope ?_ | refine vc_label ?_
                 | refine vc_goto ?_ | refine vc_wkSl0 | refine vc_wkHp0 | refine vc_eqAVs0 | refine vc_preG0 | refine vc_wkSl ?_ ?_ | refine vc_wkHp ?_ ?_ | refine vc_eqAVs ?_ ?_ | refine vc_preG ?_ ?_ | refine vc_ret [] [] ?_
                 | refine vc_weakf [] ?_ ?_ ?_ | refine vc_side0 ?_ | refine vc_and ?_ ?_)
          | ((with_reducible first | refine vc_caseD (fun h => ?_) (fun h => ?_) | refine vc_caseN (fun h => ?_) (fun h => ?_)) <;> try (exfalso; omega))
          | ((with_reducible refine vc_case (fun h => ?_) (fun h => ?_)) <;> (try simp at h) <;> try (exfalso; omega))))
  all_goals first
    | trivial
    | rfl
    | (exfalso; apply h; rw [bitI_nat d hi]; done)
    | (rw [wrap64_id (by omega) (by omega)]; rfl)

end Go.Proofs.Ytbapkpmmanmbdaa
