/-
What the references of the path layer do: Cut, Under, Less.
-/
import Derived.Test.YtbapkpmmanmbdaaPathd
namespace Go.Proofs.Ytbapkpmmanmbdaa
open Go.Sym
set_option maxRecDepth 10000
set_option maxHeartbeats 1000000

theorem rCut_ok (xs : List D) (a : List UInt8) (hx : xs = a.map byteD) (ha : a.length = 32) (n : Int) :
    LocalCall Try.prog 17 [.d (.arr 32 1 xs), .d (.int .i64 n)] [] [] (one [.d (.arr 32 1 ((cutB a n).map byteD))]) [] := by
  subst hx
  refine vc_fn mixed Try.func17 rfl rfl [] (vc_chk rfl) ?_
  repeat' (first
      | ((with_reducible refine vc_chk ?_); first | decide +kernel | rfl)
      | (with_reducible refine vc_side0 ?_; rfl)
      | (with_reducible first
           | refine vc_pure (rSet_ok _ (ofBits fun j => bitB a j && (decide (i ≤ j) || decide ((j : Int) < n))) rfl (ofBits_length _) _ _) ?_ ?_ ?_
              | refine vc_loopI 17 (fun (i : Nat) => [(1, .d (.int .i64 n)), (2, .ptr 1000 []), (4, .ptr 1004 []), (5, .d (.int .i64 (i : Int)))]) (fun i => [(1000, .var (.d (.arr 32 1 ((ofBits fun j => bitB a j && (decide (i ≤ j) || decide ((j : Int) < n))).map byteD)))), (1004, .var (.d (.arr 32 1 (List.replicate 32 (.int .u8 0)))))]) (fun i => 256 - i) (fun i => i ≤ 256) 0 [] ?_ ?_ ?_ ?_ ?_ (fun i hI => ?_)
              | refine vc_nextI (i + 1) [] ?_ ?_ ?_ ?_ ?_ ?_ | refine vc_true ?_ | refine vc_true2 ?_ | refine vc_side ?_ ?_ | refine vc_triv | refine vc_later ?_ | refine vc_caseT ?_ | refine vc_caseF ?_ | refine vc_cons ?_
              | refine vc_nil ?_ ?_ | refine vc_seq ?_ | refine vc_region ?_ | refine vc_cond ?_ | refine vc_block ?_ | refine vc_retc ?_ | refine vc_exit ?_ | refine vc_skip ?_ | refine vc_scope ?_ | refine vc_label ?_
              | refine vc_goto ?_ | refine vc_wkSl0 | refine vc_wkHp0 | refine vc_eqAVs0 | refine vc_preG0 | refine vc_wkSl ?_ ?_ | refine vc_wkHp ?_ ?_ | refine vc_eqAVs ?_ ?_ | refine vc_preG ?_ ?_ | refine vc_ret [] [] ?_
              | refine vc_weakf [] ?_ ?_ ?_ | refine vc_side0 ?_ | refine vc_and ?_ ?_)
      | ((with_reducible first | refine vc_caseD (fun h => ?_) (fun h => ?_) | refine vc_caseN (fun h => ?_) (fun h => ?_)) <;> try (exfalso; omega))
      | ((with_reducible refine vc_case (fun h => ?_) (fun h => ?_)) <;> (try simp at h) <;> try (exfalso; omega))
      | (conv in Vc _ => arg 1; whnf
         first
          | (with_reducible refine vc_side0 ?_; rfl)
          | (with_reducible first
              | refine vc_pure (rSet_ok _ (ofBits fun j => bitB a j && (decide (i ≤ j) || decide ((j : Int) < n))) rfl (ofBits_length _) _ _) ?_ ?_ ?_
                 | refine vc_loopI 17 (fun (i : Nat) => [(1, .d (.int .i64 n)), (2, .ptr 1000 []), (4, .ptr 1004 []), (5, .d (.int .i64 (i : Int)))]) (fun i => [(1000, .var (.d (.arr 32 1 ((ofBits fun j => bitB a j && (decide (i ≤ j) || decide ((j : Int) < n))).map byteD)))), (1004, .var (.d (.arr 32 1 (List.replicate 32 (.int .u8 0)))))]) (fun i => 256 - i) (fun i => i ≤ 256) 0 [] ?_ ?_ ?_ ?_ ?_ (fun i hI => ?_)
                 | refine vc_nextI (i + 1) [] ?_ ?_ ?_ ?_ ?_ ?_ | refine vc_true ?_ | refine vc_true2 ?_ | refine vc_side ?_ ?_ | refine vc_triv | refine vc_later ?_ | refine vc_caseT ?_ | refine vc_caseF ?_ | refine vc_cons ?_
                 | refine vc_nil ?_ ?_ | refine vc_seq ?_ | refine vc_region ?_ | refine vc_cond ?_ | refine vc_block ?_ | refine vc_retc ?_ | refine vc_exit ?_ | refine vc_skip ?_ | refine vc_scope ?_ | refine vc_label ?_
                 | refine vc_goto ?_ | refine vc_wkSl0 | refine vc_wkHp0 | refine vc_eqAVs0 | refine vc_preG0 | refine vc_wkSl ?_ ?_ | refine vc_wkHp ?_ ?_ | refine vc_eqAVs ?_ ?_ | refine vc_preG ?_ ?_ | refine vc_ret [] [] ?_
                 | refine vc_weakf [] ?_ ?_ ?_ | refine vc_side0 ?_ | refine vc_and ?_ ?_)
          | ((with_reducible first | refine vc_caseD (fun h => ?_) (fun h => ?_) | refine vc_caseN (fun h => ?_) (fun h => ?_)) <;> try (exfalso; omega))
          | ((with_reducible refine vc_case (fun h => ?_) (fun h => ?_)) <;> (try simp at h) <;> try (exfalso; omega))))
  all_goals first
    | omega
    | with_reducible rfl
    | (rw [wrap64_id (by omega) (by omega)]; rfl)
    | (rw [set_ofBits _ (by omega)]
       have : (ofBits fun m => bif m.beq i then false else (bitB a m && (decide (i ≤ m) || decide ((m : Int) < n)))) = ofBits fun j => bitB a j && (decide (i + 1 ≤ j) || decide ((j : Int) < n)) := ofBits_congr fun m _ => by
         rw [beq_dec]
         by_cases h1 : m = i
         · subst h1
           have h2 : decide (m + 1 ≤ m) = false := decide_eq_false (by omega)
           have h3 : decide ((m : Int) < n) = false := decide_eq_false (by omega)
           simp only [h2, h3, decide_true, cond_true, Bool.or_false, Bool.and_false]
         · have h2 : decide (i + 1 ≤ m) = decide (i ≤ m) := decide_eq_decide.2 (by omega)
           simp [h1, h2]
       rw [this]; done)
    | (have : (ofBits fun m => (bitB a m && (decide (i ≤ m) || decide ((m : Int) < n)))) = ofBits fun j => bitB a j && (decide (i + 1 ≤ j) || decide ((j : Int) < n)) := ofBits_congr fun m _ => by
         by_cases h1 : m = i
         · subst h1
           have h3 : decide ((m : Int) < n) = true := decide_eq_true (by omega)
           simp only [h3, Bool.or_true]
         · have h2 : decide (i + 1 ≤ m) = decide (i ≤ m) := decide_eq_decide.2 (by omega)
           simp only [h2]
       rw [this]; done)
    | (have : (ofBits fun m => (bitB a m && (decide (i ≤ m) || decide ((m : Int) < n)))) = cutB a n := ofBits_congr fun m hm => by
         have h1 : decide (i ≤ m) = false := decide_eq_false (by omega)
         rw [h1, Bool.false_or, Bool.and_comm]
       rw [this])
    | (have : (ofBits fun m => (bitB a m && (decide (0 ≤ m) || decide ((m : Int) < n)))) = a := by
         rw [← ofBits_bitB ha]
         exact ofBits_congr fun m hm => by rw [bitB_ofBits _ _ hm]; simp
       rw [this])
    | rfl


theorem rUnder_ok (xs ys : List D) (a b : List UInt8) (hx : xs = a.map byteD) (hy : ys = b.map byteD) (ha : a.length = 32) (hb : b.length = 32) (n : Int) :
    LocalCall Try.prog 19 [.d (.arr 32 1 xs), .d (.arr 32 1 ys), .d (.int .i64 n)] [] [] (one [.d (.bool (decide ((common a b : Int) ≥ n)))]) [] := by
  subst hx hy
  refine vc_fn mixed Try.func19 rfl rfl [] (vc_chk rfl) ?_
  repeat' (first
      | ((with_reducible refine vc_chk ?_); first | decide +kernel | rfl)
      | (with_reducible refine vc_side0 ?_; rfl)
      | (with_reducible first
           | refine vc_pure (rCommon_ok _ _ a b rfl rfl ha hb) ?_ ?_ ?_ | refine vc_true ?_ | refine vc_true2 ?_ | refine vc_side ?_ ?_ | refine vc_triv | refine vc_later ?_ | refine vc_caseT ?_ | refine vc_caseF ?_
              | refine vc_cons ?_ | refine vc_nil ?_ ?_ | refine vc_seq ?_ | refine vc_region ?_ | refine vc_cond ?_ | refine vc_block ?_ | refine vc_retc ?_ | refine vc_exit ?_ | refine vc_skip ?_ | refine vc_scope ?_
              | refine vc_label ?_ | refine vc_goto ?_ | refine vc_wkSl0 | refine vc_wkHp0 | refine vc_eqAVs0 | refine vc_preG0 | refine vc_wkSl ?_ ?_ | refine vc_wkHp ?_ ?_ | refine vc_eqAVs ?_ ?_ | refine vc_preG ?_ ?_
              | refine vc_ret [] [] ?_ | refine vc_weakf [] ?_ ?_ ?_ | refine vc_side0 ?_ | refine vc_and ?_ ?_)
      | ((with_reducible first | refine vc_caseD (fun h => ?_) (fun h => ?_) | refine vc_caseN (fun h => ?_) (fun h => ?_)) <;> try (exfalso; omega))
      | ((with_reducible refine vc_case (fun h => ?_) (fun h => ?_)) <;> (try simp at h) <;> try (exfalso; omega))
      | (conv in Vc _ => arg 1; whnf
         first
          | (with_reducible refine vc_side0 ?_; rfl)
          | (with_reducible first
              | refine vc_pure (rCommon_ok _ _ a b rfl rfl ha hb) ?_ ?_ ?_ | refine vc_true ?_ | refine vc_true2 ?_ | refine vc_side ?_ ?_ | refine vc_triv | refine vc_later ?_ | refine vc_caseT ?_ | refine vc_caseF ?_
                 | refine vc_cons ?_ | refine vc_nil ?_ ?_ | refine vc_seq ?_ | refine vc_region ?_ | refine vc_cond ?_ | refine vc_block ?_ | refine vc_retc ?_ | refine vc_exit ?_ | refine vc_skip ?_ | refine vc_scope ?_
                 | refine vc_label ?_ | refine vc_goto ?_ | refine vc_wkSl0 | refine vc_wkHp0 | refine vc_eqAVs0 | refine vc_preG0 | refine vc_wkSl ?_ ?_ | refine vc_wkHp ?_ ?_ | refine vc_eqAVs ?_ ?_ | refine vc_preG ?_ ?_
                 | refine vc_ret [] [] ?_ | refine vc_weakf [] ?_ ?_ ?_ | refine vc_side0 ?_ | refine vc_and ?_ ?_)
          | ((with_reducible first | refine vc_caseD (fun h => ?_) (fun h => ?_) | refine vc_caseN (fun h => ?_) (fun h => ?_)) <;> try (exfalso; omega))
          | ((with_reducible refine vc_case (fun h => ?_) (fun h => ?_)) <;> (try simp at h) <;> try (exfalso; omega))))

theorem lt_of_bits {n m : Nat} (i : Nat) (hn : n.testBit i = false) (hm : m.testBit i = true) (h : ∀ j, i < j → n.testBit j = m.testBit j) : n < m := by
  have e : n / 2 ^ (i + 1) = m / 2 ^ (i + 1) := Nat.eq_of_testBit_eq fun k => by
    rw [Nat.testBit_div_two_pow, Nat.testBit_div_two_pow]; exact h _ (by omega)
  rw [Nat.testBit_eq_decide_div_mod_eq] at hn hm
  have hn := of_decide_eq_false hn
  have hm := of_decide_eq_true hm
  rw [Nat.pow_succ, ← Nat.div_div_eq_div_mul, ← Nat.div_div_eq_div_mul] at e
  refine Nat.lt_of_not_le fun hle => ?_
  have := Nat.div_le_div_right (c := 2 ^ i) hle
  omega

theorem lessB_at {a b : List UInt8} {i : Nat} (hi : i < 32) (hI : ∀ j, j < i → a.getD j 0 = b.getD j 0) (hn : a.getD i 0 ≠ b.getD i 0) : lessB a b = decide ((a.getD i 0).toNat < (b.getD i 0).toNat) := by
  have hbit : ∀ (c : List UInt8) k j, j < 8 → bitB c (8 * k + j) = (c.getD k 0).toNat.testBit (7 - j) := fun c k j hj => by
    unfold bitB
    rw [show (8 * k + j) / 8 = k by omega, show (8 * k + j) % 8 = j by omega]
  -- the place where they part
  have hlt : common a b < 256 := by
    refine Nat.lt_of_not_le fun hge => hn ?_
    have : (a.getD i 0).toNat = (b.getD i 0).toNat := by
      rw [← byteOf_self, ← byteOf_self (b.getD i 0)]
      exact byteOf_congr fun j hj => by
        show (a.getD i 0).toNat.testBit (7 - j) = (b.getD i 0).toNat.testBit (7 - j)
        rw [← hbit a i j hj, ← hbit b i j hj]; exact common_eq a b (by omega)
    exact UInt8.toNat_inj.1 this
  have hne := common_ne a b hlt
  have heq := fun j (h : j < common a b) => common_eq a b h
  have hk : common a b / 8 = i := by
    rcases Nat.lt_trichotomy (common a b / 8) i with h | h | h
    · exfalso; apply hne; unfold bitB; rw [hI _ h]
    · exact h
    · exfalso; apply hn
      have : (a.getD i 0).toNat = (b.getD i 0).toNat := by
        rw [← byteOf_self, ← byteOf_self (b.getD i 0)]
        exact byteOf_congr fun j hj => by
          show (a.getD i 0).toNat.testBit (7 - j) = (b.getD i 0).toNat.testBit (7 - j)
          rw [← hbit a i j hj, ← hbit b i j hj]; exact heq _ (by omega)
      exact UInt8.toNat_inj.1 this
  have hm : common a b = 8 * i + common a b % 8 := by omega
  obtain ⟨n, hn0⟩ : ∃ n, n = common a b := ⟨_, rfl⟩
  rw [← hn0] at hlt hne heq hk hm
  have h7 : ∀ k, 7 - n % 8 < k → (a.getD i 0).toNat.testBit k = (b.getD i 0).toNat.testBit k := fun k hk' => by
    by_cases h8 : k < 8
    · have := heq (8 * i + (7 - k)) (by omega)
      rw [hbit a i _ (by omega), hbit b i _ (by omega), show 7 - (7 - k) = k by omega] at this
      exact this
    · have hp : 2 ^ 8 ≤ 2 ^ k := Nat.pow_le_pow_right (by omega) (by omega)
      rw [Nat.testBit_lt_two_pow (Nat.lt_of_lt_of_le (a.getD i 0).toNat_lt hp), Nat.testBit_lt_two_pow (Nat.lt_of_lt_of_le (b.getD i 0).toNat_lt hp)]
  rw [hm, hbit a i _ (by omega), hbit b i _ (by omega)] at hne
  unfold lessB
  rw [← hn0, decide_eq_true hlt, Bool.true_and]
  have hbb : bitB b n = (b.getD i 0).toNat.testBit (7 - n % 8) := by
    have := hbit b i (n % 8) (by omega)
    rw [← hm] at this; exact this
  rw [hbb]
  cases hb1 : (b.getD i 0).toNat.testBit (7 - n % 8) with
  | true =>
    have ha1 : (a.getD i 0).toNat.testBit (7 - n % 8) = false := by
      rw [hb1] at hne
      simpa using hne
    exact (decide_eq_true (lt_of_bits _ ha1 hb1 h7)).symm
  | false =>
    have ha1 : (a.getD i 0).toNat.testBit (7 - n % 8) = true := by
      rw [hb1] at hne
      simpa using hne
    have := lt_of_bits _ hb1 ha1 fun k hk => (h7 k hk).symm
    exact (decide_eq_false (by omega)).symm
theorem lessB_all {a b : List UInt8} (hI : ∀ j, j < 32 → a.getD j 0 = b.getD j 0) : lessB a b = false := by
  unfold lessB
  rw [common_all fun j hj => by unfold bitB; rw [hI (j / 8) (by omega)]]
  rfl

theorem rLess_ok (xs ys : List D) (a b : List UInt8) (hx : xs = a.map byteD) (hy : ys = b.map byteD) (ha : a.length = 32) (hb : b.length = 32) :
    LocalCall Try.prog 20 [.d (.arr 32 1 xs), .d (.arr 32 1 ys)] [] [] (one [.d (.bool (lessB a b))]) [] := by
  subst hx hy
  refine vc_fn mixed Try.func20 rfl rfl [] (vc_chk rfl) ?_
  repeat' (first
      | ((with_reducible refine vc_chk ?_); first | decide +kernel | rfl)
      | (with_reducible refine vc_side0 ?_; rfl)
      | (with_reducible first
          
              | refine vc_loopI 24 (fun (i : Nat) => [(2, .ptr 1000 []), (3, .ptr 1004 []), (5, .d (.int .i64 (i : Int)))]) (fun _ => [(1000, .var (.d (.arr 32 1 (a.map byteD)))), (1004, .var (.d (.arr 32 1 (b.map byteD))))]) (fun i => 32 - i) (fun i => i ≤ 32 ∧ ∀ j, j < i → a.getD j 0 = b.getD j 0) 0 [] ?_ ?_ ?_ ?_ ?_ (fun i hI => ?_)
              | refine vc_nextI (i + 1) [] ?_ ?_ ?_ ?_ ?_ ?_ | refine vc_true ?_ | refine vc_true2 ?_ | refine vc_side ?_ ?_ | refine vc_triv | refine vc_later ?_ | refine vc_caseT ?_ | refine vc_caseF ?_ | refine vc_cons ?_
              | refine vc_nil ?_ ?_ | refine vc_seq ?_ | refine vc_region ?_ | refine vc_cond ?_ | refine vc_block ?_ | refine vc_retc ?_ | refine vc_exit ?_ | refine vc_skip ?_ | refine vc_scope ?_ | refine vc_label ?_
              | refine vc_goto ?_ | refine vc_wkSl0 | refine vc_wkHp0 | refine vc_eqAVs0 | refine vc_preG0 | refine vc_wkSl ?_ ?_ | refine vc_wkHp ?_ ?_ | refine vc_eqAVs ?_ ?_ | refine vc_preG ?_ ?_ | refine vc_ret [] [] ?_
              | refine vc_weakf [] ?_ ?_ ?_ | refine vc_side0 ?_ | refine vc_and ?_ ?_)
      | ((with_reducible first | refine vc_caseD (fun h => ?_) (fun h => ?_) | refine vc_caseN (fun h => ?_) (fun h => ?_)) <;> try (exfalso; omega))
      | ((with_reducible refine vc_case (fun h => ?_) (fun h => ?_)) <;> (try simp at h) <;> try (exfalso; omega))
      | (conv in Vc _ => arg 1; whnf
         first
          | (with_reducible refine vc_side0 ?_; rfl)
          | (with_reducible first
             
                 | refine vc_loopI 24 (fun (i : Nat) => [(2, .ptr 1000 []), (3, .ptr 1004 []), (5, .d (.int .i64 (i : Int)))]) (fun _ => [(1000, .var (.d (.arr 32 1 (a.map byteD)))), (1004, .var (.d (.arr 32 1 (b.map byteD))))]) (fun i => 32 - i) (fun i => i ≤ 32 ∧ ∀ j, j < i → a.getD j 0 = b.getD j 0) 0 [] ?_ ?_ ?_ ?_ ?_ (fun i hI => ?_)
                 | refine vc_nextI (i + 1) [] ?_ ?_ ?_ ?_ ?_ ?_ | refine vc_true ?_ | refine vc_true2 ?_ | refine vc_side ?_ ?_ | refine vc_triv | refine vc_later ?_ | refine vc_caseT ?_ | refine vc_caseF ?_ | refine vc_cons ?_
                 | refine vc_nil ?_ ?_ | refine vc_seq ?_ | refine vc_region ?_ | refine vc_cond ?_ | refine vc_block ?_ | refine vc_retc ?_ | refine vc_exit ?_ | refine vc_skip ?_ | refine vc_scope ?_ | refine vc_label ?_
                 | refine vc_goto ?_ | refine vc_wkSl0 | refine vc_wkHp0 | refine vc_eqAVs0 | refine vc_preG0 | refine vc_wkSl ?_ ?_ | refine vc_wkHp ?_ ?_ | refine vc_eqAVs ?_ ?_ | refine vc_preG ?_ ?_ | refine vc_ret [] [] ?_
                 | refine vc_weakf [] ?_ ?_ ?_ | refine vc_side0 ?_ | refine vc_and ?_ ?_)
          | ((with_reducible first | refine vc_caseD (fun h => ?_) (fun h => ?_) | refine vc_caseN (fun h => ?_) (fun h => ?_)) <;> try (exfalso; omega))
          | ((with_reducible refine vc_case (fun h => ?_) (fun h => ?_)) <;> (try simp at h) <;> try (exfalso; omega))))
  all_goals first
    | omega
    | exact ⟨Nat.zero_le _, fun j hj => by omega⟩
    | (obtain rfl : i = 32 := by omega
       rw [lessB_all hI.2]; done)
    | skip
  all_goals (try have hga := getD_byte (show i < a.length by omega))
  all_goals (try have hgb := getD_byte (show i < b.length by omega))
  all_goals (try simp only [Int.toNat_natCast, hga, hgb])
  all_goals first
    | with_reducible rfl
    | exact ⟨⟨by omega, trivial⟩, rfl⟩
    | (rw [wrap64_id (by omega) (by omega)]; rfl)
    | skip
  all_goals (try have h2 : ((a.getD i 0).toNat : Int) ≠ (b.getD i 0).toNat := fun e => h (by rw [← List.getElem?_map, ← List.getElem?_map, ← List.getD_eq_getElem?_getD, ← List.getD_eq_getElem?_getD, hga, hgb]; exact e))
  all_goals first
    | (rw [lessB_at (by omega) hI.2 (fun e => h2 (by rw [e]))]
       simp only [byteD, D.toInt, Int.ofNat_lt]; done)
    | skip
  · rfl
  all_goals
    refine ⟨by omega, fun j hj => ?_⟩
    by_cases hji : j < i
    · exact hI.2 j hji
    · obtain rfl : j = i := by omega
      rw [← List.getElem?_map, ← List.getElem?_map, ← List.getD_eq_getElem?_getD, ← List.getD_eq_getElem?_getD, getD_byte (by omega), getD_byte (by omega)] at h
      exact UInt8.toNat_inj.1 (Int.ofNat_inj.1 h)

end Go.Proofs.Ytbapkpmmanmbdaa
