/-
What path.Common, path.Cut, path.Under and path.Less do.
-/
import Derived.Test.YtbapkpmmanmbdaaPathb
namespace Go.Proofs.Ytbapkpmmanmbdaa
open Go.Sym
set_option maxRecDepth 10000

theorem common_ok (xs ys : List D) (a b : List UInt8) (hx : xs = a.map byteD) (hy : ys = b.map byteD) (ha : a.length = 32) (hb : b.length = 32) :
    LocalCall Try.prog 13 [.d (.arr 32 1 xs), .d (.arr 32 1 ys)] [] [] (one [.d (.int .i64 (common a b : Nat))]) [] := by
  subst hx hy
  refine vc_fn mixed Try.func13 rfl rfl [] (vc_chk rfl) ?_
  repeat' (first
      | ((with_reducible refine vc_chk ?_); first | decide +kernel | rfl)
      | (with_reducible refine vc_side0 ?_; rfl)
      | (with_reducible first
           | refine vc_callU (bits_ok _) ?_ ?_ | refine vc_pure (bit_ok _ b rfl hb _) ?_ ?_ ?_
              | refine vc_range 20 21 7 (.arr 32 1 (a.map byteD)) 256 (fun i => [.int .i64 (i : Int), .bool (bitB a i)]) [(2, .ptr 1000 []), (3, .ptr 1004 []), (5, .ptr 2000 [])] (fun i => [(1000, .var (.d (.arr 32 1 (a.map byteD)))), (1004, .var (.d (.arr 32 1 (b.map byteD)))), (2000, .var (.d (.int .i64 (i : Int))))]) (fun i => ∀ j, j < i → bitB a j = bitB b j) [] ?_ ?_ ?_ ?_ (bits_seq a ha) (fun _ => ⟨rfl, rfl⟩) ?_ ?_ ?_ ?_ ?_ (fun i hi hI => ?_) (fun hI => ?_)
              | refine vc_endc [] ?_ ?_ ?_ ?_ | refine vc_true ?_ | refine vc_true2 ?_ | refine vc_side ?_ ?_ | refine vc_triv | refine vc_later ?_ | refine vc_caseT ?_ | refine vc_caseF ?_ | refine vc_cons ?_
              | refine vc_nil ?_ ?_ | refine vc_seq ?_ | refine vc_region ?_ | refine vc_cond ?_ | refine vc_block ?_ | refine vc_retc ?_ | refine vc_exit ?_ | refine vc_skip ?_ | refine vc_scope ?_ | refine vc_label ?_
              | refine vc_goto ?_ | refine vc_wkSl0 | refine vc_wkHp0 | refine vc_eqAVs0 | refine vc_preG0 | refine vc_wkSl ?_ ?_ | refine vc_wkHp ?_ ?_ | refine vc_eqAVs ?_ ?_ | refine vc_preG ?_ ?_ | refine vc_ret [] [] ?_
              | refine vc_weakf [] ?_ ?_ ?_ | refine vc_side0 ?_ | refine vc_and ?_ ?_)
      | ((with_reducible first | refine vc_caseD (fun h => ?_) (fun h => ?_) | refine vc_caseN (fun h => ?_) (fun h => ?_)) <;> try (exfalso; omega))
      | ((with_reducible refine vc_case (fun h => ?_) (fun h => ?_)) <;> (try simp at h) <;> try (exfalso; omega))
      | (conv in Vc _ => arg 1; whnf
         first
          | (with_reducible refine vc_side0 ?_; rfl)
          | (with_reducible first
              | refine vc_callU (bits_ok _) ?_ ?_ | refine vc_pure (bit_ok _ b rfl hb _) ?_ ?_ ?_
                 | refine vc_range 20 21 7 (.arr 32 1 (a.map byteD)) 256 (fun i => [.int .i64 (i : Int), .bool (bitB a i)]) [(2, .ptr 1000 []), (3, .ptr 1004 []), (5, .ptr 2000 [])] (fun i => [(1000, .var (.d (.arr 32 1 (a.map byteD)))), (1004, .var (.d (.arr 32 1 (b.map byteD)))), (2000, .var (.d (.int .i64 (i : Int))))]) (fun i => ∀ j, j < i → bitB a j = bitB b j) [] ?_ ?_ ?_ ?_ (bits_seq a ha) (fun _ => ⟨rfl, rfl⟩) ?_ ?_ ?_ ?_ ?_ (fun i hi hI => ?_) (fun hI => ?_)
                 | refine vc_endc [] ?_ ?_ ?_ ?_ | refine vc_true ?_ | refine vc_true2 ?_ | refine vc_side ?_ ?_ | refine vc_triv | refine vc_later ?_ | refine vc_caseT ?_ | refine vc_caseF ?_ | refine vc_cons ?_
                 | refine vc_nil ?_ ?_ | refine vc_seq ?_ | refine vc_region ?_ | refine vc_cond ?_ | refine vc_block ?_ | refine vc_retc ?_ | refine vc_exit ?_ | refine vc_skip ?_ | refine vc_scope ?_ | refine vc_label ?_
                 | refine vc_goto ?_ | refine vc_wkSl0 | refine vc_wkHp0 | refine vc_eqAVs0 | refine vc_preG0 | refine vc_wkSl ?_ ?_ | refine vc_wkHp ?_ ?_ | refine vc_eqAVs ?_ ?_ | refine vc_preG ?_ ?_ | refine vc_ret [] [] ?_
                 | refine vc_weakf [] ?_ ?_ ?_ | refine vc_side0 ?_ | refine vc_and ?_ ?_)
          | ((with_reducible first | refine vc_caseD (fun h => ?_) (fun h => ?_) | refine vc_caseN (fun h => ?_) (fun h => ?_)) <;> try (exfalso; omega))
          | ((with_reducible refine vc_case (fun h => ?_) (fun h => ?_)) <;> (try simp at h) <;> try (exfalso; omega))))
  all_goals (try rfl)
  · exact fun j hj => by omega
  · rw [bitI_nat b hi] at h
    rw [common_at hI hi fun e => h e.symm]
  · rw [bitI_nat b hi] at h
    intro j hj
    by_cases hji : j < i
    · exact hI j hji
    · obtain rfl : j = i := by omega
      exact h.symm
  · rw [wrap64_id (by omega) (by omega)]; rfl
  · rw [common_all hI]

theorem cut_ok (xs : List D) (a : List UInt8) (hx : xs = a.map byteD) (ha : a.length = 32) (n : Int) :
    LocalCall Try.prog 15 [.d (.arr 32 1 xs), .d (.int .i64 n)] [] [] (one [.d (.arr 32 1 ((cutB a n).map byteD))]) [] := by
  subst hx
  refine vc_fn mixed Try.func15 rfl rfl [] (vc_chk rfl) ?_
  repeat' (first
      | ((with_reducible refine vc_chk ?_); first | decide +kernel | rfl)
      | (with_reducible refine vc_side0 ?_; rfl)
      | (with_reducible first
           | refine vc_callU (bits_ok _) ?_ ?_ | refine vc_pure (set_ok _ (ofBits fun j => decide (j < i) && bitB a j) rfl (ofBits_length _) _ _) ?_ ?_ ?_
              | refine vc_range 20 21 7 (.arr 32 1 (a.map byteD)) 256 (fun i => [.int .i64 (i : Int), .bool (bitB a i)]) [(3, .ptr 1004 []), (4, .ptr 1008 []), (5, .ptr 2000 [])] (fun i => [(1004, .var (.d (.int .i64 n))), (1008, .var (.d (.arr 32 1 (List.replicate 32 (.int .u8 0))))), (2000, .var (.d (.arr 32 1 ((ofBits fun j => decide (j < i) && bitB a j).map byteD))))]) (fun i => (i : Int) ≤ n ∨ i = 0) [] ?_ ?_ ?_ ?_ (bits_seq a ha) (fun _ => ⟨rfl, rfl⟩) ?_ ?_ ?_ ?_ ?_ (fun i hi hI => ?_) (fun hI => ?_)
              | refine vc_endc [] ?_ ?_ ?_ ?_ | refine vc_true ?_ | refine vc_true2 ?_ | refine vc_side ?_ ?_ | refine vc_triv | refine vc_later ?_ | refine vc_caseT ?_ | refine vc_caseF ?_ | refine vc_cons ?_
              | refine vc_nil ?_ ?_ | refine vc_seq ?_ | refine vc_region ?_ | refine vc_cond ?_ | refine vc_block ?_ | refine vc_retc ?_ | refine vc_exit ?_ | refine vc_skip ?_ | refine vc_scope ?_ | refine vc_label ?_
              | refine vc_goto ?_ | refine vc_wkSl0 | refine vc_wkHp0 | refine vc_eqAVs0 | refine vc_preG0 | refine vc_wkSl ?_ ?_ | refine vc_wkHp ?_ ?_ | refine vc_eqAVs ?_ ?_ | refine vc_preG ?_ ?_ | refine vc_ret [] [] ?_
              | refine vc_weakf [] ?_ ?_ ?_ | refine vc_side0 ?_ | refine vc_and ?_ ?_)
      | ((with_reducible first | refine vc_caseD (fun h => ?_) (fun h => ?_) | refine vc_caseN (fun h => ?_) (fun h => ?_)) <;> try (exfalso; omega))
      | ((with_reducible refine vc_case (fun h => ?_) (fun h => ?_)) <;> (try simp at h) <;> try (exfalso; omega))
      | (conv in Vc _ => arg 1; whnf
         first
          | (with_reducible refine vc_side0 ?_; rfl)
          | (with_reducible first
              | refine vc_callU (bits_ok _) ?_ ?_ | refine vc_pure (set_ok _ (ofBits fun j => decide (j < i) && bitB a j) rfl (ofBits_length _) _ _) ?_ ?_ ?_
                 | refine vc_range 20 21 7 (.arr 32 1 (a.map byteD)) 256 (fun i => [.int .i64 (i : Int), .bool (bitB a i)]) [(3, .ptr 1004 []), (4, .ptr 1008 []), (5, .ptr 2000 [])] (fun i => [(1004, .var (.d (.int .i64 n))), (1008, .var (.d (.arr 32 1 (List.replicate 32 (.int .u8 0))))), (2000, .var (.d (.arr 32 1 ((ofBits fun j => decide (j < i) && bitB a j).map byteD))))]) (fun i => (i : Int) ≤ n ∨ i = 0) [] ?_ ?_ ?_ ?_ (bits_seq a ha) (fun _ => ⟨rfl, rfl⟩) ?_ ?_ ?_ ?_ ?_ (fun i hi hI => ?_) (fun hI => ?_)
                 | refine vc_endc [] ?_ ?_ ?_ ?_ | refine vc_true ?_ | refine vc_true2 ?_ | refine vc_side ?_ ?_ | refine vc_triv | refine vc_later ?_ | refine vc_caseT ?_ | refine vc_caseF ?_ | refine vc_cons ?_
                 | refine vc_nil ?_ ?_ | refine vc_seq ?_ | refine vc_region ?_ | refine vc_cond ?_ | refine vc_block ?_ | refine vc_retc ?_ | refine vc_exit ?_ | refine vc_skip ?_ | refine vc_scope ?_ | refine vc_label ?_
                 | refine vc_goto ?_ | refine vc_wkSl0 | refine vc_wkHp0 | refine vc_eqAVs0 | refine vc_preG0 | refine vc_wkSl ?_ ?_ | refine vc_wkHp ?_ ?_ | refine vc_eqAVs ?_ ?_ | refine vc_preG ?_ ?_ | refine vc_ret [] [] ?_
                 | refine vc_weakf [] ?_ ?_ ?_ | refine vc_side0 ?_ | refine vc_and ?_ ?_)
          | ((with_reducible first | refine vc_caseD (fun h => ?_) (fun h => ?_) | refine vc_caseN (fun h => ?_) (fun h => ?_)) <;> try (exfalso; omega))
          | ((with_reducible refine vc_case (fun h => ?_) (fun h => ?_)) <;> (try simp at h) <;> try (exfalso; omega))))
  · rfl
  · rw [ofBits_none fun n => by simp]; rfl
  · exact .inr rfl
  · have : (ofBits fun j => decide (j < i) && bitB a j) = cutB a n := ofBits_congr fun j _ => by
      have : decide (j < i) = decide ((j : Int) < n) := decide_eq_decide.2 (by omega)
      rw [this]
    rw [this]
  · omega
  · rw [set_ofBits _ hi]
    have : (ofBits fun m => bif m.beq i then bitB a i else decide (m < i) && bitB a m) = ofBits fun j => decide (j < i + 1) && bitB a j := ofBits_congr fun m _ => by
      rw [beq_dec]
      by_cases h1 : m = i
      · subst h1; simp
      · have : decide (m < i + 1) = decide (m < i) := decide_eq_decide.2 (by omega)
        simp [h1, this]
    rw [this]
  · have : (ofBits fun j => decide (j < 256) && bitB a j) = cutB a n := ofBits_congr fun j hj => by
      have h1 : decide (j < 256) = true := decide_eq_true hj
      have h2 : decide ((j : Int) < n) = true := decide_eq_true (by omega)
      rw [h1, h2]
    rw [this]


theorem under_ok (xs ys : List D) (a b : List UInt8) (hx : xs = a.map byteD) (hy : ys = b.map byteD) (ha : a.length = 32) (hb : b.length = 32) (n : Int) :
    LocalCall Try.prog 18 [.d (.arr 32 1 xs), .d (.arr 32 1 ys), .d (.int .i64 n)] [] [] (one [.d (.bool (decide ((common a b : Int) ≥ n)))]) [] := by
  subst hx hy
  refine vc_fn mixed Try.func18 rfl rfl [] (vc_chk rfl) ?_
  repeat' (first
      | ((with_reducible refine vc_chk ?_); first | decide +kernel | rfl)
      | (with_reducible refine vc_side0 ?_; rfl)
      | (with_reducible first
           | refine vc_pure (common_ok _ _ a b rfl rfl ha hb) ?_ ?_ ?_ | refine vc_true ?_ | refine vc_true2 ?_ | refine vc_side ?_ ?_ | refine vc_triv | refine vc_later ?_ | refine vc_caseT ?_ | refine vc_caseF ?_
              | refine vc_cons ?_ | refine vc_nil ?_ ?_ | refine vc_seq ?_ | refine vc_region ?_ | refine vc_cond ?_ | refine vc_block ?_ | refine vc_retc ?_ | refine vc_exit ?_ | refine vc_skip ?_ | refine vc_scope ?_
              | refine vc_label ?_ | refine vc_goto ?_ | refine vc_wkSl0 | refine vc_wkHp0 | refine vc_eqAVs0 | refine vc_preG0 | refine vc_wkSl ?_ ?_ | refine vc_wkHp ?_ ?_ | refine vc_eqAVs ?_ ?_ | refine vc_preG ?_ ?_
              | refine vc_ret [] [] ?_ | refine vc_weakf [] ?_ ?_ ?_ | refine vc_side0 ?_ | refine vc_and ?_ ?_)
      | ((with_reducible first | refine vc_caseD (fun h => ?_) (fun h => ?_) | refine vc_caseN (fun h => ?_) (fun h => ?_)) <;> try (exfalso; omega))
      | ((with_reducible refine vc_case (fun h => ?_) (fun h => ?_)) <;> (try simp at h) <;> try (exfalso; omega))
      | (conv in Vc _ => arg 1; whnf
         first
          | (with_reducible refine vc_side0 ?_; rfl)
          | (with_reducible first
              | refine vc_pure (common_ok _ _ a b rfl rfl ha hb) ?_ ?_ ?_ | refine vc_true ?_ | refine vc_true2 ?_ | refine vc_side ?_ ?_ | refine vc_triv | refine vc_later ?_ | refine vc_caseT ?_ | refine vc_caseF ?_
                 | refine vc_cons ?_ | refine vc_nil ?_ ?_ | refine vc_seq ?_ | refine vc_region ?_ | refine vc_cond ?_ | refine vc_block ?_ | refine vc_retc ?_ | refine vc_exit ?_ | refine vc_skip ?_ | refine vc_scope ?_
                 | refine vc_label ?_ | refine vc_goto ?_ | refine vc_wkSl0 | refine vc_wkHp0 | refine vc_eqAVs0 | refine vc_preG0 | refine vc_wkSl ?_ ?_ | refine vc_wkHp ?_ ?_ | refine vc_eqAVs ?_ ?_ | refine vc_preG ?_ ?_
                 | refine vc_ret [] [] ?_ | refine vc_weakf [] ?_ ?_ ?_ | refine vc_side0 ?_ | refine vc_and ?_ ?_)
          | ((with_reducible first | refine vc_caseD (fun h => ?_) (fun h => ?_) | refine vc_caseN (fun h => ?_) (fun h => ?_)) <;> try (exfalso; omega))
          | ((with_reducible refine vc_case (fun h => ?_) (fun h => ?_)) <;> (try simp at h) <;> try (exfalso; omega))))

theorem less_ok (xs ys : List D) (a b : List UInt8) (hx : xs = a.map byteD) (hy : ys = b.map byteD) (ha : a.length = 32) (hb : b.length = 32) :
    LocalCall Try.prog 14 [.d (.arr 32 1 xs), .d (.arr 32 1 ys)] [] [] (one [.d (.bool (lessB a b))]) [] := by
  subst hx hy
  refine vc_fn mixed Try.func14 rfl rfl [] (vc_chk rfl) ?_
  repeat' (first
      | ((with_reducible refine vc_chk ?_); first | decide +kernel | rfl)
      | (with_reducible refine vc_side0 ?_; rfl)
      | (with_reducible first
           | refine vc_pure (common_ok _ _ a b rfl rfl ha hb) ?_ ?_ ?_ | refine vc_pure (bit_ok _ b rfl hb _) ?_ ?_ ?_ | refine vc_true ?_ | refine vc_true2 ?_ | refine vc_side ?_ ?_ | refine vc_triv | refine vc_later ?_
              | refine vc_caseT ?_ | refine vc_caseF ?_ | refine vc_cons ?_ | refine vc_nil ?_ ?_ | refine vc_seq ?_ | refine vc_region ?_ | refine vc_cond ?_ | refine vc_block ?_ | refine vc_retc ?_ | refine vc_exit ?_
              | refine vc_skip ?_ | refine vc_scope ?_ | refine vc_label ?_ | refine vc_goto ?_ | refine vc_wkSl0 | refine vc_wkHp0 | refine vc_eqAVs0 | refine vc_preG0 | refine vc_wkSl ?_ ?_ | refine vc_wkHp ?_ ?_
              | refine vc_eqAVs ?_ ?_ | refine vc_preG ?_ ?_ | refine vc_ret [] [] ?_ | refine vc_weakf [] ?_ ?_ ?_ | refine vc_side0 ?_ | refine vc_and ?_ ?_)
      | ((with_reducible first | refine vc_caseD (fun h => ?_) (fun h => ?_) | refine vc_caseN (fun h => ?_) (fun h => ?_)) <;> try (exfalso; omega))
      | ((with_reducible refine vc_case (fun h => ?_) (fun h => ?_)) <;> (try simp at h) <;> try (exfalso; omega))
      | (conv in Vc _ => arg 1; whnf
         first
          | (with_reducible refine vc_side0 ?_; rfl)
          | (with_reducible first
              | refine vc_pure (common_ok _ _ a b rfl rfl ha hb) ?_ ?_ ?_ | refine vc_pure (bit_ok _ b rfl hb _) ?_ ?_ ?_ | refine vc_true ?_ | refine vc_true2 ?_ | refine vc_side ?_ ?_ | refine vc_triv | refine vc_later ?_
                 | refine vc_caseT ?_ | refine vc_caseF ?_ | refine vc_cons ?_ | refine vc_nil ?_ ?_ | refine vc_seq ?_ | refine vc_region ?_ | refine vc_cond ?_ | refine vc_block ?_ | refine vc_retc ?_ | refine vc_exit ?_
                 | refine vc_skip ?_ | refine vc_scope ?_ | refine vc_label ?_ | refine vc_goto ?_ | refine vc_wkSl0 | refine vc_wkHp0 | refine vc_eqAVs0 | refine vc_preG0 | refine vc_wkSl ?_ ?_ | refine vc_wkHp ?_ ?_
                 | refine vc_eqAVs ?_ ?_ | refine vc_preG ?_ ?_ | refine vc_ret [] [] ?_ | refine vc_weakf [] ?_ ?_ ?_ | refine vc_side0 ?_ | refine vc_and ?_ ?_)
          | ((with_reducible first | refine vc_caseD (fun h => ?_) (fun h => ?_) | refine vc_caseN (fun h => ?_) (fun h => ?_)) <;> try (exfalso; omega))
          | ((with_reducible refine vc_case (fun h => ?_) (fun h => ?_)) <;> (try simp at h) <;> try (exfalso; omega))))
  · rw [bitI_nat b (by omega)]
    unfold lessB
    rw [show decide (common a b < 256) = true from decide_eq_true (by omega)]; rfl
  · unfold lessB
    rw [show decide (common a b < 256) = false from decide_eq_false (by omega)]; rfl

end Go.Proofs.Ytbapkpmmanmbdaa
