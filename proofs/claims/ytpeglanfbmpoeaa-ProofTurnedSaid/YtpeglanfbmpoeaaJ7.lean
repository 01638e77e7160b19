import Derived.Test.YtpeglanfbmpoeaaJ1
import Derived.Test.YtpeglanfbmpoeaaJ2
import Derived.Test.YtpeglanfbmpoeaaJ3
import Derived.Test.YtpeglanfbmpoeaaJ4
import Derived.Test.YtpeglanfbmpoeaaJ5
import Derived.Test.YtpeglanfbmpoeaaJ6
set_option linter.unusedSimpArgs false
set_option linter.unusedVariables false
/-
What the references of the path layer do.
-/
set_option linter.unusedSimpArgs false
set_option linter.unusedVariables false
namespace Go.Proofs.Ytpeglanfbmpoeaa
open Go.Sym
set_option maxRecDepth 10000
set_option maxHeartbeats 1000000

theorem shr_half (c : UInt8) (j : Nat) : IntKind.i64.wrap (((c.toNat >>> j : Nat) : Int).tdiv 2) = ((c.toNat >>> (j + 1) : Nat) : Int) := by
  have h1 : c.toNat >>> (j + 1) = (c.toNat >>> j) / 2 := Nat.shiftRight_succ _ _
  have h2 : c.toNat >>> j ≤ c.toNat := by rw [Nat.shiftRight_eq_div_pow]; exact Nat.div_le_self _ _
  have h3 := c.toNat_lt
  rw [h1]
  generalize c.toNat >>> j = q at h2
  rw [Int.tdiv_eq_ediv_of_nonneg (by omega), wrap64_id (by omega) (by omega)]; omega

theorem shr_bit (c m : Nat) : (((c >>> m : Nat) : Int).tmod 2 == 1) = c.testBit m := by
  rw [Nat.testBit_eq_decide_div_mod_eq, ← Nat.shiftRight_eq_div_pow]
  generalize c >>> m = q
  rw [Int.tmod_eq_emod_of_nonneg (by omega)]
  rw [Bool.eq_iff_iff]
  simp
  omega

theorem setB_same {bs : List UInt8} (hb : bs.length = 32) {n : Nat} {on : Bool} (h : bitB bs n = on) : setB bs n on = bs := by
  refine dig_ext (ofBits_length _) hb fun m hm => ?_
  unfold setB
  rw [bitB_ofBits _ _ hm, beq_dec]
  by_cases h1 : m = n
  · subst h1; simp [h]
  · simp [h1]

theorem pow_two (j : Nat) : ((2 ^ j : Nat) : Int) * 2 = ((2 ^ (j + 1) : Nat) : Int) := by
  rw [Nat.pow_succ]; omega

theorem add_byte (c : UInt8) (m : Nat) (h : m < 8) (hb : c.toNat.testBit (7 - m) = false) : IntKind.u8.wrap ((c.toNat : Int) + IntKind.u8.wrap ((2 ^ (7 - m) : Nat) : Int)) = ((c.toNat + 2 ^ (7 - m) : Nat) : Int) ∧ c.toNat + 2 ^ (7 - m) < 256 := by
  have key : ∀ n : Fin 256, ∀ m : Fin 8, n.val.testBit (7 - m.val) = false → IntKind.u8.wrap ((n.val : Int) + IntKind.u8.wrap ((2 ^ (7 - m.val) : Nat) : Int)) = ((n.val + 2 ^ (7 - m.val) : Nat) : Int) ∧ n.val + 2 ^ (7 - m.val) < 256 := by decide +kernel
  exact key ⟨c.toNat, c.toNat_lt⟩ ⟨m, h⟩ hb
theorem add_bits (c : UInt8) (m : Nat) (h : m < 8) (hb : c.toNat.testBit (7 - m) = false) (j : Nat) (hj : j < 8) : (c.toNat + 2 ^ (7 - m)).testBit (7 - j) = bif j.beq m then true else c.toNat.testBit (7 - j) := by
  have key : ∀ n : Fin 256, ∀ m : Fin 8, n.val.testBit (7 - m.val) = false → ∀ j : Fin 8, (n.val + 2 ^ (7 - m.val)).testBit (7 - j.val) = bif j.val.beq m.val then true else n.val.testBit (7 - j.val) := by decide +kernel
  exact key ⟨c.toNat, c.toNat_lt⟩ ⟨m, h⟩ hb ⟨j, hj⟩
theorem sub_byte (c : UInt8) (m : Nat) (h : m < 8) (hb : c.toNat.testBit (7 - m) = true) : IntKind.u8.wrap ((c.toNat : Int) - IntKind.u8.wrap ((2 ^ (7 - m) : Nat) : Int)) = ((c.toNat - 2 ^ (7 - m) : Nat) : Int) ∧ c.toNat - 2 ^ (7 - m) < 256 := by
  have key : ∀ n : Fin 256, ∀ m : Fin 8, n.val.testBit (7 - m.val) = true → IntKind.u8.wrap ((n.val : Int) - IntKind.u8.wrap ((2 ^ (7 - m.val) : Nat) : Int)) = ((n.val - 2 ^ (7 - m.val) : Nat) : Int) ∧ n.val - 2 ^ (7 - m.val) < 256 := by decide +kernel
  exact key ⟨c.toNat, c.toNat_lt⟩ ⟨m, h⟩ hb
theorem sub_bits (c : UInt8) (m : Nat) (h : m < 8) (hb : c.toNat.testBit (7 - m) = true) (j : Nat) (hj : j < 8) : (c.toNat - 2 ^ (7 - m)).testBit (7 - j) = bif j.beq m then false else c.toNat.testBit (7 - j) := by
  have key : ∀ n : Fin 256, ∀ m : Fin 8, n.val.testBit (7 - m.val) = true → ∀ j : Fin 8, (n.val - 2 ^ (7 - m.val)).testBit (7 - j.val) = bif j.val.beq m.val then false else n.val.testBit (7 - j.val) := by decide +kernel
  exact key ⟨c.toNat, c.toNat_lt⟩ ⟨m, h⟩ hb ⟨j, hj⟩

theorem rBit_ok (xs : List D) (bs : List UInt8) (hx : xs = bs.map byteD) (hb : bs.length = 32) (i : Int) : LocalCall Try.prog 34 [.d (.arr 32 1 xs), .d (.int .i64 i)] [] [] (one [.d (.bool (bitI bs i))]) [] := by
  subst hx
  refine vc_fn mixed Try.func34 rfl rfl [] (vc_chk rfl) ?_
  repeat' (first
      | ((with_reducible refine vc_chk ?_); first | decide +kernel | rfl)
      | (with_reducible refine vc_side0 ?_; rfl)
      | (with_reducible first
           | refine vc_true ?_ | refine vc_true2 ?_ | refine vc_side ?_ ?_ | refine vc_triv | refine vc_later ?_ | refine vc_caseT ?_ | refine vc_caseF ?_ | refine vc_cons ?_ | refine vc_nil ?_ ?_ | refine vc_seq ?_
              | refine vc_region ?_ | refine vc_cond ?_ | refine vc_block ?_ | refine vc_retc ?_ | refine vc_exit ?_ | refine vc_skip ?_ | refine vc_scope ?_ | refine vc_label ?_ | refine vc_goto ?_ | refine vc_wkSl0
              | refine vc_wkHp0 | refine vc_eqAVs0 | refine vc_preG0 | refine vc_wkSl ?_ ?_ | refine vc_wkHp ?_ ?_ | refine vc_eqAVs ?_ ?_ | refine vc_preG ?_ ?_ | refine vc_side0 ?_
              | refine vc_loopI 29 (fun (j : Nat) => [(1, .d (.int .i64 i)), (5, .d (.int .i64 (((bs.getD (i.toNat / 8) 0).toNat >>> j : Nat) : Int))), (6, .d (.int .i64 ((7 - j : Nat) : Int)))]) (fun _ => []) (fun j => 7 - j) (fun j => j ≤ 7 - i.toNat % 8) 0 [] ?_ ?_ ?_ ?_ ?_ (fun j hj => ?_)
              | refine vc_nextI (j + 1) [] ?_ ?_ ?_ ?_ ?_ ?_ | refine vc_weakf [] ?_ ?_ ?_ | refine vc_and ?_ ?_ | refine vc_ret [] [] ?_)
      | ((with_reducible first | refine vc_caseD (fun h => ?_) (fun h => ?_) | refine vc_caseN (fun h => ?_) (fun h => ?_)) <;> try (exfalso; omega))
      | ((with_reducible refine vc_case (fun h => ?_) (fun h => ?_)) <;> (try simp at h) <;> try (exfalso; omega))
      | (conv in Vc _ => arg 1; whnf
         first
          | (with_reducible refine vc_side0 ?_; rfl)
          | (with_reducible first
              | refine vc_true ?_ | refine vc_true2 ?_ | refine vc_side ?_ ?_ | refine vc_triv | refine vc_later ?_ | refine vc_caseT ?_ | refine vc_caseF ?_ | refine vc_cons ?_ | refine vc_nil ?_ ?_ | refine vc_seq ?_
                 | refine vc_region ?_ | refine vc_cond ?_ | refine vc_block ?_ | refine vc_retc ?_ | refine vc_exit ?_ | refine vc_skip ?_ | refine vc_scope ?_ | refine vc_label ?_ | refine vc_goto ?_ | refine vc_wkSl0
                 | refine vc_wkHp0 | refine vc_eqAVs0 | refine vc_preG0 | refine vc_wkSl ?_ ?_ | refine vc_wkHp ?_ ?_ | refine vc_eqAVs ?_ ?_ | refine vc_preG ?_ ?_ | refine vc_side0 ?_
                 | refine vc_loopI 29 (fun (j : Nat) => [(1, .d (.int .i64 i)), (5, .d (.int .i64 (((bs.getD (i.toNat / 8) 0).toNat >>> j : Nat) : Int))), (6, .d (.int .i64 ((7 - j : Nat) : Int)))]) (fun _ => []) (fun j => 7 - j) (fun j => j ≤ 7 - i.toNat % 8) 0 [] ?_ ?_ ?_ ?_ ?_ (fun j hj => ?_)
                 | refine vc_nextI (j + 1) [] ?_ ?_ ?_ ?_ ?_ ?_ | refine vc_weakf [] ?_ ?_ ?_ | refine vc_and ?_ ?_ | refine vc_ret [] [] ?_)
          | ((with_reducible first | refine vc_caseD (fun h => ?_) (fun h => ?_) | refine vc_caseN (fun h => ?_) (fun h => ?_)) <;> try (exfalso; omega))
          | ((with_reducible refine vc_case (fun h => ?_) (fun h => ?_)) <;> (try simp at h) <;> try (exfalso; omega))))
  all_goals first | rw [bitI_neg bs (by omega)] | rw [bitI_big bs (by omega)] | skip
  all_goals
    obtain ⟨n, rfl⟩ : ∃ n : Nat, i = n := ⟨i.toNat, by omega⟩
    have hn : n < 256 := by omega
    have hc := (bs.getD (n / 8) 0).toNat_lt
    try simp only [div8 hn, mod8, Int.toNat_natCast, getD_byte (show n / 8 < bs.length by omega)] at *
  all_goals first
    | rfl
    | omega
    | exact ⟨⟨by omega, trivial⟩, rfl⟩
    | (simp only [byteD, D.toInt]; rw [wrap64_id (by omega) (by omega)]; rfl)
    | (rw [shr_half])
    | (rw [wrap64_id (by omega) (by omega)]; congr 1; omega)
    | (obtain rfl : j = 7 - n % 8 := by omega
       rw [bitI_nat bs hn]; exact congrArg D.bool (shr_bit _ _))

theorem set_add {bs : List UInt8} (hb : bs.length = 32) {n : Nat} (hn : n < 256) (h : bitB bs n = false) :
    (bs.map byteD).set (n / 8) (.int .u8 (IntKind.u8.wrap ((byteD (bs.getD (n / 8) 0)).toInt + IntKind.u8.wrap ((2 ^ (7 - n % 8) : Nat) : Int)))) = (setB bs n true).map byteD := by
  have hbf : (bs.getD (n / 8) 0).toNat.testBit (7 - n % 8) = false := h
  have := (add_byte _ _ (show n % 8 < 8 by omega) hbf).1
  simp only [byteD, D.toInt]
  rw [this]
  exact setByte hb hn (add_byte _ _ (by omega) hbf).2 fun j hj => add_bits _ _ (by omega) hbf j hj
theorem set_sub {bs : List UInt8} (hb : bs.length = 32) {n : Nat} (hn : n < 256) (h : bitB bs n = true) :
    (bs.map byteD).set (n / 8) (.int .u8 (IntKind.u8.wrap ((byteD (bs.getD (n / 8) 0)).toInt - IntKind.u8.wrap ((2 ^ (7 - n % 8) : Nat) : Int)))) = (setB bs n false).map byteD := by
  have hbf : (bs.getD (n / 8) 0).toNat.testBit (7 - n % 8) = true := h
  have := (sub_byte _ _ (show n % 8 < 8 by omega) hbf).1
  simp only [byteD, D.toInt]
  rw [this]
  exact setByte hb hn (sub_byte _ _ (by omega) hbf).2 fun j hj => sub_bits _ _ (by omega) hbf j hj

theorem rCommon_ok (xs ys : List D) (a b : List UInt8) (hx : xs = a.map byteD) (hy : ys = b.map byteD) (ha : a.length = 32) (hb : b.length = 32) :
    LocalCall Try.prog 49 [.d (.arr 32 1 xs), .d (.arr 32 1 ys)] [] [] (one [.d (.int .i64 (common a b : Nat))]) [] := by
  subst hx hy
  refine vc_fn mixed Try.func49 rfl rfl [] (vc_chk rfl) ?_
  repeat' (first
      | ((with_reducible refine vc_chk ?_); first | decide +kernel | rfl)
      | (with_reducible refine vc_side0 ?_; rfl)
      | (with_reducible first
           | refine vc_true ?_ | refine vc_true2 ?_ | refine vc_side ?_ ?_ | refine vc_triv | refine vc_later ?_ | refine vc_caseT ?_ | refine vc_caseF ?_ | refine vc_cons ?_ | refine vc_nil ?_ ?_ | refine vc_seq ?_
              | refine vc_region ?_ | refine vc_cond ?_ | refine vc_block ?_ | refine vc_retc ?_ | refine vc_exit ?_ | refine vc_skip ?_ | refine vc_scope ?_ | refine vc_label ?_ | refine vc_goto ?_ | refine vc_wkSl0
              | refine vc_wkHp0 | refine vc_eqAVs0 | refine vc_preG0 | refine vc_wkSl ?_ ?_ | refine vc_wkHp ?_ ?_ | refine vc_eqAVs ?_ ?_ | refine vc_preG ?_ ?_ | refine vc_side0 ?_
              | refine vc_pure (rBit_ok _ a rfl ha _) ?_ ?_ ?_ | refine vc_pure (rBit_ok _ b rfl hb _) ?_ ?_ ?_
              | refine vc_loopI 20 (fun (i : Nat) => [(2, .ptr 1000 []), (3, .ptr 1004 []), (5, .d (.int .i64 (i : Int)))]) (fun _ => [(1000, .var (.d (.arr 32 1 (a.map byteD)))), (1004, .var (.d (.arr 32 1 (b.map byteD))))]) (fun i => 256 - i) (fun i => i ≤ 256 ∧ ∀ j, j < i → bitB a j = bitB b j) 0 [] ?_ ?_ ?_ ?_ ?_ (fun i hI => ?_)
              | refine vc_nextI (i + 1) [] ?_ ?_ ?_ ?_ ?_ ?_ | refine vc_weakf [] ?_ ?_ ?_ | refine vc_and ?_ ?_ | refine vc_ret [] [] ?_)
      | ((with_reducible first | refine vc_caseD (fun h => ?_) (fun h => ?_) | refine vc_caseN (fun h => ?_) (fun h => ?_)) <;> try (exfalso; omega))
      | ((with_reducible refine vc_case (fun h => ?_) (fun h => ?_)) <;> (try simp at h) <;> try (exfalso; omega))
      | (conv in Vc _ => arg 1; whnf
         first
          | (with_reducible refine vc_side0 ?_; rfl)
          | (with_reducible first
              | refine vc_true ?_ | refine vc_true2 ?_ | refine vc_side ?_ ?_ | refine vc_triv | refine vc_later ?_ | refine vc_caseT ?_ | refine vc_caseF ?_ | refine vc_cons ?_ | refine vc_nil ?_ ?_ | refine vc_seq ?_
                 | refine vc_region ?_ | refine vc_cond ?_ | refine vc_block ?_ | refine vc_retc ?_ | refine vc_exit ?_ | refine vc_skip ?_ | refine vc_scope ?_ | refine vc_label ?_ | refine vc_goto ?_ | refine vc_wkSl0
                 | refine vc_wkHp0 | refine vc_eqAVs0 | refine vc_preG0 | refine vc_wkSl ?_ ?_ | refine vc_wkHp ?_ ?_ | refine vc_eqAVs ?_ ?_ | refine vc_preG ?_ ?_ | refine vc_side0 ?_
                 | refine vc_pure (rBit_ok _ a rfl ha _) ?_ ?_ ?_ | refine vc_pure (rBit_ok _ b rfl hb _) ?_ ?_ ?_
                 | refine vc_loopI 20 (fun (i : Nat) => [(2, .ptr 1000 []), (3, .ptr 1004 []), (5, .d (.int .i64 (i : Int)))]) (fun _ => [(1000, .var (.d (.arr 32 1 (a.map byteD)))), (1004, .var (.d (.arr 32 1 (b.map byteD))))]) (fun i => 256 - i) (fun i => i ≤ 256 ∧ ∀ j, j < i → bitB a j = bitB b j) 0 [] ?_ ?_ ?_ ?_ ?_ (fun i hI => ?_)
                 | refine vc_nextI (i + 1) [] ?_ ?_ ?_ ?_ ?_ ?_ | refine vc_weakf [] ?_ ?_ ?_ | refine vc_and ?_ ?_ | refine vc_ret [] [] ?_)
          | ((with_reducible first | refine vc_caseD (fun h => ?_) (fun h => ?_) | refine vc_caseN (fun h => ?_) (fun h => ?_)) <;> try (exfalso; omega))
          | ((with_reducible refine vc_case (fun h => ?_) (fun h => ?_)) <;> (try simp at h) <;> try (exfalso; omega))))
  all_goals (try simp only [bitI_nat _ (show i < 256 by omega)] at *)
  all_goals first
    | rfl
    | omega
    | exact ⟨Nat.zero_le _, fun j hj => by omega⟩
    | (refine ⟨by omega, fun j hj => ?_⟩
       by_cases hji : j < i
       · exact hI.2 j hji
       · obtain rfl : j = i := by omega
         exact h)
    | (rw [wrap64_id (by omega) (by omega)]; rfl)
    | rw [common_at hI.2 (by omega) h]
    | (obtain rfl : i = 256 := by omega
       rw [common_all hI.2])

end Go.Proofs.Ytpeglanfbmpoeaa

/-
What the references of the path layer do: Cut, Under, Less.
-/
set_option linter.unusedSimpArgs false
set_option linter.unusedVariables false
namespace Go.Proofs.Ytpeglanfbmpoeaa
open Go.Sym
set_option maxRecDepth 10000
set_option maxHeartbeats 1000000

theorem rUnder_ok (xs ys : List D) (a b : List UInt8) (hx : xs = a.map byteD) (hy : ys = b.map byteD) (ha : a.length = 32) (hb : b.length = 32) (n : Int) :
    LocalCall Try.prog 38 [.d (.arr 32 1 xs), .d (.arr 32 1 ys), .d (.int .i64 n)] [] [] (one [.d (.bool (decide ((common a b : Int) ≥ n)))]) [] := by
  subst hx hy
  refine vc_fn mixed Try.func38 rfl rfl [] (vc_chk rfl) ?_
  repeat' (first
      | ((with_reducible refine vc_chk ?_); first | decide +kernel | rfl)
      | (with_reducible refine vc_side0 ?_; rfl)
      | (with_reducible first
           | refine vc_true ?_ | refine vc_true2 ?_ | refine vc_side ?_ ?_ | refine vc_triv | refine vc_later ?_ | refine vc_caseT ?_ | refine vc_caseF ?_ | refine vc_cons ?_ | refine vc_nil ?_ ?_ | refine vc_seq ?_
              | refine vc_region ?_ | refine vc_cond ?_ | refine vc_block ?_ | refine vc_retc ?_ | refine vc_exit ?_ | refine vc_skip ?_ | refine vc_scope ?_ | refine vc_label ?_ | refine vc_goto ?_ | refine vc_wkSl0
              | refine vc_wkHp0 | refine vc_eqAVs0 | refine vc_preG0 | refine vc_wkSl ?_ ?_ | refine vc_wkHp ?_ ?_ | refine vc_eqAVs ?_ ?_ | refine vc_preG ?_ ?_ | refine vc_side0 ?_
              | refine vc_pure (rCommon_ok _ _ a b rfl rfl ha hb) ?_ ?_ ?_ | refine vc_weakf [] ?_ ?_ ?_ | refine vc_and ?_ ?_ | refine vc_ret [] [] ?_)
      | ((with_reducible first | refine vc_caseD (fun h => ?_) (fun h => ?_) | refine vc_caseN (fun h => ?_) (fun h => ?_)) <;> try (exfalso; omega))
      | ((with_reducible refine vc_case (fun h => ?_) (fun h => ?_)) <;> (try simp at h) <;> try (exfalso; omega))
      | (conv in Vc _ => arg 1; whnf
         first
          | (with_reducible refine vc_side0 ?_; rfl)
          | (with_reducible first
              | refine vc_true ?_ | refine vc_true2 ?_ | refine vc_side ?_ ?_ | refine vc_triv | refine vc_later ?_ | refine vc_caseT ?_ | refine vc_caseF ?_ | refine vc_cons ?_ | refine vc_nil ?_ ?_ | refine vc_seq ?_
                 | refine vc_region ?_ | refine vc_cond ?_ | refine vc_block ?_ | refine vc_retc ?_ | refine vc_exit ?_ | refine vc_skip ?_ | refine vc_scope ?_ | refine vc_label ?_ | refine vc_goto ?_ | refine vc_wkSl0
                 | refine vc_wkHp0 | refine vc_eqAVs0 | refine vc_preG0 | refine vc_wkSl ?_ ?_ | refine vc_wkHp ?_ ?_ | refine vc_eqAVs ?_ ?_ | refine vc_preG ?_ ?_ | refine vc_side0 ?_
                 | refine vc_pure (rCommon_ok _ _ a b rfl rfl ha hb) ?_ ?_ ?_ | refine vc_weakf [] ?_ ?_ ?_ | refine vc_and ?_ ?_ | refine vc_ret [] [] ?_)
          | ((with_reducible first | refine vc_caseD (fun h => ?_) (fun h => ?_) | refine vc_caseN (fun h => ?_) (fun h => ?_)) <;> try (exfalso; omega))
          | ((with_reducible refine vc_case (fun h => ?_) (fun h => ?_)) <;> (try simp at h) <;> try (exfalso; omega))))

theorem lt_of_bits {n m : Nat} (i : Nat) (hn : n.testBit i = false) (hm : m.testBit i = true) (h : ∀ j, i < j → n.testBit j = m.testBit j) : n < m := by
  have e : n / 2 ^ (i + 1) = m / 2 ^ (i + 1) := Nat.eq_of_testBit_eq fun k => by
    rw [Nat.testBit_div_two_pow, Nat.testBit_div_two_pow]; exact h _ (by omega)
  rw [Nat.testBit_eq_decide_div_mod_eq] at hn hm
  have hn := of_decide_eq_false hn
  have hm := of_decide_eq_true hm
  rw [Nat.pow_succ, ← Nat.div_div_eq_div_mul, ← Nat.div_div_eq_div_mul] at e
  refine Nat.lt_of_not_le fun hle => ?_
  have := Nat.div_le_div_right (c := 2 ^ i) hle
  omega

theorem lessB_at {a b : List UInt8} {i : Nat} (hi : i < 32) (hI : ∀ j, j < i → a.getD j 0 = b.getD j 0) (hn : a.getD i 0 ≠ b.getD i 0) : lessB a b = decide ((a.getD i 0).toNat < (b.getD i 0).toNat) := by
  have hbit : ∀ (c : List UInt8) k j, j < 8 → bitB c (8 * k + j) = (c.getD k 0).toNat.testBit (7 - j) := fun c k j hj => by
    unfold bitB
    rw [show (8 * k + j) / 8 = k by omega, show (8 * k + j) % 8 = j by omega]
  -- the place where they part
  have hlt : common a b < 256 := by
    refine Nat.lt_of_not_le fun hge => hn ?_
    have : (a.getD i 0).toNat = (b.getD i 0).toNat := by
      rw [← byteOf_self, ← byteOf_self (b.getD i 0)]
      exact byteOf_congr fun j hj => by
        show (a.getD i 0).toNat.testBit (7 - j) = (b.getD i 0).toNat.testBit (7 - j)
        rw [← hbit a i j hj, ← hbit b i j hj]; exact common_eq a b (by omega)
    exact UInt8.toNat_inj.1 this
  have hne := common_ne a b hlt
  have heq := fun j (h : j < common a b) => common_eq a b h
  have hk : common a b / 8 = i := by
    rcases Nat.lt_trichotomy (common a b / 8) i with h | h | h
    · exfalso; apply hne; unfold bitB; rw [hI _ h]
    · exact h
    · exfalso; apply hn
      have : (a.getD i 0).toNat = (b.getD i 0).toNat := by
        rw [← byteOf_self, ← byteOf_self (b.getD i 0)]
        exact byteOf_congr fun j hj => by
          show (a.getD i 0).toNat.testBit (7 - j) = (b.getD i 0).toNat.testBit (7 - j)
          rw [← hbit a i j hj, ← hbit b i j hj]; exact heq _ (by omega)
      exact UInt8.toNat_inj.1 this
  have hm : common a b = 8 * i + common a b % 8 := by omega
  obtain ⟨n, hn0⟩ : ∃ n, n = common a b := ⟨_, rfl⟩
  rw [← hn0] at hlt hne heq hk hm
  have h7 : ∀ k, 7 - n % 8 < k → (a.getD i 0).toNat.testBit k = (b.getD i 0).toNat.testBit k := fun k hk' => by
    by_cases h8 : k < 8
    · have := heq (8 * i + (7 - k)) (by omega)
      rw [hbit a i _ (by omega), hbit b i _ (by omega), show 7 - (7 - k) = k by omega] at this
      exact this
    · have hp : 2 ^ 8 ≤ 2 ^ k := Nat.pow_le_pow_right (by omega) (by omega)
      rw [Nat.testBit_lt_two_pow (Nat.lt_of_lt_of_le (a.getD i 0).toNat_lt hp), Nat.testBit_lt_two_pow (Nat.lt_of_lt_of_le (b.getD i 0).toNat_lt hp)]
  rw [hm, hbit a i _ (by omega), hbit b i _ (by omega)] at hne
  unfold lessB
  rw [← hn0, decide_eq_true hlt, Bool.true_and]
  have hbb : bitB b n = (b.getD i 0).toNat.testBit (7 - n % 8) := by
    have := hbit b i (n % 8) (by omega)
    rw [← hm] at this; exact this
  rw [hbb]
  cases hb1 : (b.getD i 0).toNat.testBit (7 - n % 8) with
  | true =>
    have ha1 : (a.getD i 0).toNat.testBit (7 - n % 8) = false := by
      rw [hb1] at hne
      simpa using hne
    exact (decide_eq_true (lt_of_bits _ ha1 hb1 h7)).symm
  | false =>
    have ha1 : (a.getD i 0).toNat.testBit (7 - n % 8) = true := by
      rw [hb1] at hne
      simpa using hne
    have := lt_of_bits _ hb1 ha1 fun k hk => (h7 k hk).symm
    exact (decide_eq_false (by omega)).symm
theorem lessB_all {a b : List UInt8} (hI : ∀ j, j < 32 → a.getD j 0 = b.getD j 0) : lessB a b = false := by
  unfold lessB
  rw [common_all fun j hj => by unfold bitB; rw [hI (j / 8) (by omega)]]
  rfl

theorem rLess_ok (xs ys : List D) (a b : List UInt8) (hx : xs = a.map byteD) (hy : ys = b.map byteD) (ha : a.length = 32) (hb : b.length = 32) :
    LocalCall Try.prog 50 [.d (.arr 32 1 xs), .d (.arr 32 1 ys)] [] [] (one [.d (.bool (lessB a b))]) [] := by
  subst hx hy
  refine vc_fn mixed Try.func50 rfl rfl [] (vc_chk rfl) ?_
  repeat' (first
      | ((with_reducible refine vc_chk ?_); first | decide +kernel | rfl)
      | (with_reducible refine vc_side0 ?_; rfl)
      | (with_reducible first
           | refine vc_true ?_ | refine vc_true2 ?_ | refine vc_side ?_ ?_ | refine vc_triv | refine vc_later ?_ | refine vc_caseT ?_ | refine vc_caseF ?_ | refine vc_cons ?_ | refine vc_nil ?_ ?_ | refine vc_seq ?_
              | refine vc_region ?_ | refine vc_cond ?_ | refine vc_block ?_ | refine vc_retc ?_ | refine vc_exit ?_ | refine vc_skip ?_ | refine vc_scope ?_ | refine vc_label ?_ | refine vc_goto ?_ | refine vc_wkSl0
              | refine vc_wkHp0 | refine vc_eqAVs0 | refine vc_preG0 | refine vc_wkSl ?_ ?_ | refine vc_wkHp ?_ ?_ | refine vc_eqAVs ?_ ?_ | refine vc_preG ?_ ?_ | refine vc_side0 ?_
              | refine vc_loopI 24 (fun (i : Nat) => [(2, .ptr 1000 []), (3, .ptr 1004 []), (5, .d (.int .i64 (i : Int)))]) (fun _ => [(1000, .var (.d (.arr 32 1 (a.map byteD)))), (1004, .var (.d (.arr 32 1 (b.map byteD))))]) (fun i => 32 - i) (fun i => i ≤ 32 ∧ ∀ j, j < i → a.getD j 0 = b.getD j 0) 0 [] ?_ ?_ ?_ ?_ ?_ (fun i hI => ?_)
              | refine vc_nextI (i + 1) [] ?_ ?_ ?_ ?_ ?_ ?_ | refine vc_weakf [] ?_ ?_ ?_ | refine vc_and ?_ ?_ | refine vc_ret [] [] ?_)
      | ((with_reducible first | refine vc_caseD (fun h => ?_) (fun h => ?_) | refine vc_caseN (fun h => ?_) (fun h => ?_)) <;> try (exfalso; omega))
      | ((with_reducible refine vc_case (fun h => ?_) (fun h => ?_)) <;> (try simp at h) <;> try (exfalso; omega))
      | (conv in Vc _ => arg 1; whnf
         first
          | (with_reducible refine vc_side0 ?_; rfl)
          | (with_reducible first
              | refine vc_true ?_ | refine vc_true2 ?_ | refine vc_side ?_ ?_ | refine vc_triv | refine vc_later ?_ | refine vc_caseT ?_ | refine vc_caseF ?_ | refine vc_cons ?_ | refine vc_nil ?_ ?_ | refine vc_seq ?_
                 | refine vc_region ?_ | refine vc_cond ?_ | refine vc_block ?_ | refine vc_retc ?_ | refine vc_exit ?_ | refine vc_skip ?_ | refine vc_scope ?_ | refine vc_label ?_ | refine vc_goto ?_ | refine vc_wkSl0
                 | refine vc_wkHp0 | refine vc_eqAVs0 | refine vc_preG0 | refine vc_wkSl ?_ ?_ | refine vc_wkHp ?_ ?_ | refine vc_eqAVs ?_ ?_ | refine vc_preG ?_ ?_ | refine vc_side0 ?_
                 | refine vc_loopI 24 (fun (i : Nat) => [(2, .ptr 1000 []), (3, .ptr 1004 []), (5, .d (.int .i64 (i : Int)))]) (fun _ => [(1000, .var (.d (.arr 32 1 (a.map byteD)))), (1004, .var (.d (.arr 32 1 (b.map byteD))))]) (fun i => 32 - i) (fun i => i ≤ 32 ∧ ∀ j, j < i → a.getD j 0 = b.getD j 0) 0 [] ?_ ?_ ?_ ?_ ?_ (fun i hI => ?_)
                 | refine vc_nextI (i + 1) [] ?_ ?_ ?_ ?_ ?_ ?_ | refine vc_weakf [] ?_ ?_ ?_ | refine vc_and ?_ ?_ | refine vc_ret [] [] ?_)
          | ((with_reducible first | refine vc_caseD (fun h => ?_) (fun h => ?_) | refine vc_caseN (fun h => ?_) (fun h => ?_)) <;> try (exfalso; omega))
          | ((with_reducible refine vc_case (fun h => ?_) (fun h => ?_)) <;> (try simp at h) <;> try (exfalso; omega))))
  all_goals first
    | omega
    | exact ⟨Nat.zero_le _, fun j hj => by omega⟩
    | (obtain rfl : i = 32 := by omega
       rw [lessB_all hI.2]; done)
    | skip
  all_goals (try have hga := getD_byte (show i < a.length by omega))
  all_goals (try have hgb := getD_byte (show i < b.length by omega))
  all_goals (try simp only [Int.toNat_natCast, hga, hgb])
  all_goals first
    | with_reducible rfl
    | exact ⟨⟨by omega, trivial⟩, rfl⟩
    | (rw [wrap64_id (by omega) (by omega)]; rfl)
    | skip
  all_goals (try have h2 : ((a.getD i 0).toNat : Int) ≠ (b.getD i 0).toNat := fun e => h (by rw [← List.getElem?_map, ← List.getElem?_map, ← List.getD_eq_getElem?_getD, ← List.getD_eq_getElem?_getD, hga, hgb]; exact e))
  all_goals first
    | (rw [lessB_at (by omega) hI.2 (fun e => h2 (by rw [e]))]
       simp only [byteD, D.toInt, Int.ofNat_lt]; done)
    | skip
  · rfl
  all_goals
    refine ⟨by omega, fun j hj => ?_⟩
    by_cases hji : j < i
    · exact hI.2 j hji
    · obtain rfl : j = i := by omega
      rw [← List.getElem?_map, ← List.getElem?_map, ← List.getD_eq_getElem?_getD, ← List.getD_eq_getElem?_getD, getD_byte (by omega), getD_byte (by omega)] at h
      exact UInt8.toNat_inj.1 (Int.ofNat_inj.1 h)

end Go.Proofs.Ytpeglanfbmpoeaa
