/-
The reader: bytes and numbers.
-/
import Derived.Test.YthedcaopedbpdaaCodec
import Derived.Test.YthedcaopedbpdaaCatcha
namespace Go.Proofs.Ythedcaopedbpdaa
open Go.Sym
set_option maxRecDepth 10000
set_option maxHeartbeats 1000000

/-- A reader: bytes, and how many were read. -/
def rd (B : List D) (k : Nat) : AObj := .var (.d (.st [.sl B, .int .i64 (k : Int)]))

/-- A number read from a place on ('n': what the bytes up to now tell; 'k': how many they were). -/
def rdN (bs : List UInt8) : Nat → Nat → Nat → Nat → Option (Nat × Nat)
  | 0, _, _, _ => none
  | f + 1, at_, n, k => bif decide (at_ < bs.length) then
      bif (decide (k = 9) && decide (1 < (bs.getD at_ 0).toNat)) || (decide (0 < k) && decide ((bs.getD at_ 0).toNat = 0)) then none
      else bif decide ((bs.getD at_ 0).toNat < 128) then some (n + (bs.getD at_ 0).toNat % 128 * 2 ^ (7 * k), at_ + 1)
      else rdN bs f (at_ + 1) (n + (bs.getD at_ 0).toNat % 128 * 2 ^ (7 * k)) (k + 1)
    else none

theorem fail_pan (B : List D) (k : Nat) : LocalPan Try.prog 21 [.ptr 9 []] [(9, rd B k)] [] fault [(9, .dead)] := by
  refine vc_fnPan mixed Try.func21 rfl rfl [] (vc_chk rfl) ?_
  repeat' (first
      | ((with_reducible refine vc_chk ?_); first | decide +kernel | rfl)
      | (with_reducible refine vc_side0 ?_; rfl)
      | (with_reducible first
           | refine vc_panc [] [9] ?_ ?_ | refine vc_true ?_ | refine vc_true2 ?_ | refine vc_side ?_ ?_ | refine vc_triv | refine vc_later ?_ | refine vc_caseT ?_ | refine vc_caseF ?_ | refine vc_cons ?_ | refine vc_nil ?_ ?_
              | refine vc_seq ?_ | refine vc_region ?_ | refine vc_cond ?_ | refine vc_block ?_ | refine vc_retc ?_ | refine vc_exit ?_ | refine vc_skip ?_ | refine vc_scope ?_ | refine vc_label ?_ | refine vc_goto ?_
              | refine vc_wkSl0 | refine vc_wkHp0 | refine vc_eqAVs0 | refine vc_preG0 | refine vc_wkSl ?_ ?_ | refine vc_wkHp ?_ ?_ | refine vc_eqAVs ?_ ?_ | refine vc_preG ?_ ?_ | refine vc_ret [] [] ?_
              | refine vc_weakf [] ?_ ?_ ?_ | refine vc_side0 ?_ | refine vc_and ?_ ?_)
      | ((with_reducible first | refine vc_caseD (fun h => ?_) (fun h => ?_) | refine vc_caseN (fun h => ?_) (fun h => ?_)) <;> try (exfalso; omega))
      | ((with_reducible refine vc_case (fun h => ?_) (fun h => ?_)) <;> (try simp at h) <;> try (exfalso; omega))
      | (conv in Vc _ => arg 1; whnf
         first
          | (with_reducible refine vc_side0 ?_; rfl)
          | (with_reducible first
              | refine vc_panc [] [9] ?_ ?_ | refine vc_true ?_ | refine vc_true2 ?_ | refine vc_side ?_ ?_ | refine vc_triv | refine vc_later ?_ | refine vc_caseT ?_ | refine vc_caseF ?_ | refine vc_cons ?_ | refine vc_nil ?_ ?_
                 | refine vc_seq ?_ | refine vc_region ?_ | refine vc_cond ?_ | refine vc_block ?_ | refine vc_retc ?_ | refine vc_exit ?_ | refine vc_skip ?_ | refine vc_scope ?_ | refine vc_label ?_ | refine vc_goto ?_
                 | refine vc_wkSl0 | refine vc_wkHp0 | refine vc_eqAVs0 | refine vc_preG0 | refine vc_wkSl ?_ ?_ | refine vc_wkHp ?_ ?_ | refine vc_eqAVs ?_ ?_ | refine vc_preG ?_ ?_ | refine vc_ret [] [] ?_
                 | refine vc_weakf [] ?_ ?_ ?_ | refine vc_side0 ?_ | refine vc_and ?_ ?_)
          | ((with_reducible first | refine vc_caseD (fun h => ?_) (fun h => ?_) | refine vc_caseN (fun h => ?_) (fun h => ?_)) <;> try (exfalso; omega))
          | ((with_reducible refine vc_case (fun h => ?_) (fun h => ?_)) <;> (try simp at h) <;> try (exfalso; omega))))
  all_goals rfl

theorem byte_ok (B : List D) (bs : List UInt8) (hB : B = bs.map byteD) (k : Nat) (hk : k < bs.length) (hl : bs.length < 2 ^ 62) (c : UInt8) (hc : bs.getD k 0 = c) : LocalCall Try.prog 40 [.ptr 9 []] [(9, rd B k)] [] (one [.d (.int .u8 (c.toNat : Int))]) [(9, rd B (k + 1))] := by
  have hlen : B.length = bs.length := by rw [hB]; simp
  refine vc_fn mixed Try.func40 rfl rfl [] (vc_chk rfl) ?_
  have e1 : IntKind.i64.wrap ((k : Int) + 1) = ((k + 1 : Nat) : Int) := by rw [wrap64_id (by omega) (by omega)]; rfl
  have e2 : IntKind.i64.wrap (((k + 1 : Nat) : Int) - 1) = (k : Int) := by rw [wrap64_id (by omega) (by omega)]; omega
  have e3 : B.getD k .nilp = .int .u8 (c.toNat : Int) := by rw [hB, getD_byte hk, hc]; rfl
  repeat' (first
      | ((with_reducible refine vc_chk ?_); first | decide +kernel | rfl)
      | (with_reducible refine vc_side0 ?_; rfl)
      | (with_reducible first
           | refine vc_true ?_ | refine vc_true2 ?_ | refine vc_side ?_ ?_ | refine vc_triv | refine vc_later ?_ | refine vc_caseT ?_ | refine vc_caseF ?_ | refine vc_cons ?_ | refine vc_nil ?_ ?_ | refine vc_seq ?_
              | refine vc_region ?_ | refine vc_cond ?_ | refine vc_block ?_ | refine vc_retc ?_ | refine vc_exit ?_ | refine vc_skip ?_ | refine vc_scope ?_ | refine vc_label ?_ | refine vc_goto ?_ | refine vc_wkSl0
              | refine vc_wkHp0 | refine vc_eqAVs0 | refine vc_preG0 | refine vc_wkSl ?_ ?_ | refine vc_wkHp ?_ ?_ | refine vc_eqAVs ?_ ?_ | refine vc_preG ?_ ?_ | refine vc_ret [] [] ?_ | refine vc_weakf [] ?_ ?_ ?_
              | refine vc_side0 ?_ | refine vc_and ?_ ?_)
      | ((with_reducible first | refine vc_caseD (fun h => ?_) (fun h => ?_) | refine vc_caseN (fun h => ?_) (fun h => ?_)) <;> try (exfalso; omega))
      | ((with_reducible refine vc_case (fun h => ?_) (fun h => ?_)) <;> (try simp at h) <;> try (exfalso; omega))
      | (conv in Vc _ => arg 1; whnf
         first
          | (with_reducible refine vc_side0 ?_; rfl)
          | (with_reducible first
              | refine vc_true ?_ | refine vc_true2 ?_ | refine vc_side ?_ ?_ | refine vc_triv | refine vc_later ?_ | refine vc_caseT ?_ | refine vc_caseF ?_ | refine vc_cons ?_ | refine vc_nil ?_ ?_ | refine vc_seq ?_
                 | refine vc_region ?_ | refine vc_cond ?_ | refine vc_block ?_ | refine vc_retc ?_ | refine vc_exit ?_ | refine vc_skip ?_ | refine vc_scope ?_ | refine vc_label ?_ | refine vc_goto ?_ | refine vc_wkSl0
                 | refine vc_wkHp0 | refine vc_eqAVs0 | refine vc_preG0 | refine vc_wkSl ?_ ?_ | refine vc_wkHp ?_ ?_ | refine vc_eqAVs ?_ ?_ | refine vc_preG ?_ ?_ | refine vc_ret [] [] ?_ | refine vc_weakf [] ?_ ?_ ?_
                 | refine vc_side0 ?_ | refine vc_and ?_ ?_)
          | ((with_reducible first | refine vc_caseD (fun h => ?_) (fun h => ?_) | refine vc_caseN (fun h => ?_) (fun h => ?_)) <;> try (exfalso; omega))
          | ((with_reducible refine vc_case (fun h => ?_) (fun h => ?_)) <;> (try simp at h) <;> try (exfalso; omega))))
  all_goals simp only [e1, e2, e3, Int.toNat_natCast]
  all_goals first
    | rfl
    | exact ⟨⟨by omega, by omega⟩, rfl⟩

theorem byte_pan (B : List D) (bs : List UInt8) (hB : B = bs.map byteD) (k : Nat) (hk : ¬ k < bs.length) : LocalPan Try.prog 40 [.ptr 9 []] [(9, rd B k)] [] fault [(9, .dead)] := by
  have hlen : B.length = bs.length := by rw [hB]; simp
  refine vc_fnPan mixed Try.func40 rfl rfl [] (vc_chk rfl) ?_
  repeat' (first
      | ((with_reducible refine vc_chk ?_); first | decide +kernel | rfl)
      | (with_reducible refine vc_side0 ?_; rfl)
      | (with_reducible first
           | refine vc_pan [] (fail_pan B k) ?_ | refine vc_panc [] [] ?_ ?_ | refine vc_true ?_ | refine vc_true2 ?_ | refine vc_side ?_ ?_ | refine vc_triv | refine vc_later ?_ | refine vc_caseT ?_ | refine vc_caseF ?_
              | refine vc_cons ?_ | refine vc_nil ?_ ?_ | refine vc_seq ?_ | refine vc_region ?_ | refine vc_cond ?_ | refine vc_block ?_ | refine vc_retc ?_ | refine vc_exit ?_ | refine vc_skip ?_ | refine vc_scope ?_
              | refine vc_label ?_ | refine vc_goto ?_ | refine vc_wkSl0 | refine vc_wkHp0 | refine vc_eqAVs0 | refine vc_preG0 | refine vc_wkSl ?_ ?_ | refine vc_wkHp ?_ ?_ | refine vc_eqAVs ?_ ?_ | refine vc_preG ?_ ?_
              | refine vc_ret [] [] ?_ | refine vc_weakf [] ?_ ?_ ?_ | refine vc_side0 ?_ | refine vc_and ?_ ?_)
      | ((with_reducible first | refine vc_caseD (fun h => ?_) (fun h => ?_) | refine vc_caseN (fun h => ?_) (fun h => ?_)) <;> try (exfalso; omega))
      | ((with_reducible refine vc_case (fun h => ?_) (fun h => ?_)) <;> (try simp at h) <;> try (exfalso; omega))
      | (conv in Vc _ => arg 1; whnf
         first
          | (with_reducible refine vc_side0 ?_; rfl)
          | (with_reducible first
              | refine vc_pan [] (fail_pan B k) ?_ | refine vc_panc [] [] ?_ ?_ | refine vc_true ?_ | refine vc_true2 ?_ | refine vc_side ?_ ?_ | refine vc_triv | refine vc_later ?_ | refine vc_caseT ?_ | refine vc_caseF ?_
                 | refine vc_cons ?_ | refine vc_nil ?_ ?_ | refine vc_seq ?_ | refine vc_region ?_ | refine vc_cond ?_ | refine vc_block ?_ | refine vc_retc ?_ | refine vc_exit ?_ | refine vc_skip ?_ | refine vc_scope ?_
                 | refine vc_label ?_ | refine vc_goto ?_ | refine vc_wkSl0 | refine vc_wkHp0 | refine vc_eqAVs0 | refine vc_preG0 | refine vc_wkSl ?_ ?_ | refine vc_wkHp ?_ ?_ | refine vc_eqAVs ?_ ?_ | refine vc_preG ?_ ?_
                 | refine vc_ret [] [] ?_ | refine vc_weakf [] ?_ ?_ ?_ | refine vc_side0 ?_ | refine vc_and ?_ ?_)
          | ((with_reducible first | refine vc_caseD (fun h => ?_) (fun h => ?_) | refine vc_caseN (fun h => ?_) (fun h => ?_)) <;> try (exfalso; omega))
          | ((with_reducible refine vc_case (fun h => ?_) (fun h => ?_)) <;> (try simp at h) <;> try (exfalso; omega))))
  all_goals rfl

theorem vc_by (p : Prop) [Decidable p] {q : Prop} (h1 : p → Vc q) (h2 : ¬ p → Vc q) : Vc q := if h : p then h1 h else h2 h

theorem rdN_step (bs : List UInt8) {k : Nat} (hk : k ≤ 9) (i n : Nat) : rdN bs (10 - k) i n k = bif decide (i < bs.length) then
      bif (decide (k = 9) && decide (1 < (bs.getD i 0).toNat)) || (decide (0 < k) && decide ((bs.getD i 0).toNat = 0)) then none
      else bif decide ((bs.getD i 0).toNat < 128) then some (n + (bs.getD i 0).toNat % 128 * 2 ^ (7 * k), i + 1)
      else rdN bs (10 - (k + 1)) (i + 1) (n + (bs.getD i 0).toNat % 128 * 2 ^ (7 * k)) (k + 1)
    else none := by
  obtain ⟨f, hf⟩ : ∃ f, 10 - k = f + 1 := ⟨9 - k, by omega⟩
  rw [hf, rdN, show f = 10 - (k + 1) by omega]

structure RdI (bs : List UInt8) (R : Option (Nat × Nat)) (x : Nat × Nat × Nat) : Prop where
  h : rdN bs (10 - x.2.1) x.2.2 x.1 x.2.1 = R
  lt : x.1 < 2 ^ (7 * x.2.1)
  le : x.2.1 ≤ 9

theorem RdI.cases {bs : List UInt8} {R : Option (Nat × Nat)} {n k i : Nat} (hI : RdI bs R (n, k, i)) : n < 2 ^ (7 * k) ∧ k ≤ 9 ∧ ((¬ i < bs.length ∧ R = none) ∨ (i < bs.length ∧ ∃ c, bs.getD i 0 = c ∧
    ((((7 * k = 63 ∧ 1 < c.toNat) ∨ (0 < k ∧ c.toNat = 0)) ∧ R = none) ∨
     (¬ (7 * k = 63 ∧ 1 < c.toNat) ∧ ¬ (0 < k ∧ c.toNat = 0) ∧ c.toNat < 128 ∧ R = some (n + c.toNat % 128 * 2 ^ (7 * k), i + 1)) ∨
     (¬ (7 * k = 63 ∧ 1 < c.toNat) ∧ ¬ (0 < k ∧ c.toNat = 0) ∧ ¬ c.toNat < 128 ∧ RdI bs R (n + c.toNat % 128 * 2 ^ (7 * k), k + 1, i + 1))))) := by
  obtain ⟨h, lt, le⟩ := hI
  simp only at h lt le
  refine ⟨lt, le, ?_⟩
  rw [rdN_step bs le] at h
  by_cases hi : i < bs.length
  · refine .inr ⟨hi, _, rfl, ?_⟩
    generalize bs.getD i 0 = c at h
    simp only [hi, decide_true, cond_true] at h
    by_cases hb : (7 * k = 63 ∧ 1 < c.toNat) ∨ (0 < k ∧ c.toNat = 0)
    · have e : ((decide (k = 9) && decide (1 < c.toNat)) || (decide (0 < k) && decide (c.toNat = 0))) = true := by
        simp only [Bool.or_eq_true, Bool.and_eq_true, decide_eq_true_eq]
        exact hb.imp (fun h => ⟨by omega, h.2⟩) id
      rw [e] at h
      exact .inl ⟨hb, h.symm⟩
    · have e : ((decide (k = 9) && decide (1 < c.toNat)) || (decide (0 < k) && decide (c.toNat = 0))) = false := by
        rw [Bool.eq_false_iff]
        simp only [ne_eq, Bool.or_eq_true, Bool.and_eq_true, decide_eq_true_eq]
        exact fun hq => hb (hq.imp (fun h => ⟨by omega, h.2⟩) id)
      rw [e] at h
      have hb1 := fun hq => hb (.inl hq)
      have hb2 := fun hq => hb (.inr hq)
      by_cases hc : c.toNat < 128
      · simp only [hc, decide_true, cond_true, cond_false] at h
        exact .inr (.inl ⟨hb1, hb2, hc, h.symm⟩)
      · simp only [hc, decide_false, cond_false] at h
        refine .inr (.inr ⟨hb1, hb2, hc, h, ?_, ?_⟩)
        · have := Nat.mod_lt c.toNat (show 0 < 128 by omega)
          simp only
          rw [show 7 * (k + 1) = 7 * k + 7 by omega, Nat.pow_add]
          generalize c.toNat % 128 = d at this
          have : (d + 1) * 2 ^ (7 * k) ≤ 128 * 2 ^ (7 * k) := Nat.mul_le_mul_right _ (by omega)
          rw [Nat.add_mul] at this
          omega
        · have hlt := c.toNat_lt
          simp only
          omega
  · refine .inl ⟨hi, ?_⟩
    simp only [hi, decide_false, cond_false] at h
    exact h.symm

theorem RdI.ok {bs : List UInt8} {v e : Nat} {x : Nat × Nat × Nat} (hI : RdI bs (some (v, e)) x) {q : Prop} (h : ∀ c : UInt8, bs.getD x.2.2 0 = c → x.2.2 < bs.length → x.1 < 2 ^ (7 * x.2.1) → x.2.1 ≤ 9 → ¬ (7 * x.2.1 = 63 ∧ 1 < c.toNat) → ¬ (0 < x.2.1 ∧ c.toNat = 0) →
    (c.toNat < 128 → v = x.1 + c.toNat % 128 * 2 ^ (7 * x.2.1) ∧ e = x.2.2 + 1) → (¬ c.toNat < 128 → RdI bs (some (v, e)) (x.1 + c.toNat % 128 * 2 ^ (7 * x.2.1), x.2.1 + 1, x.2.2 + 1)) → Vc q) : Vc q := by
  obtain ⟨n, k, i⟩ := x
  obtain ⟨lt, le, ⟨_, h1⟩ | ⟨hi, c, hc, ⟨_, h1⟩ | ⟨h1, h2, h3, h4⟩ | ⟨h1, h2, h3, h4⟩⟩⟩ := hI.cases
  · cases h1
  · cases h1
  · cases h4; exact h c hc hi lt le h1 h2 (fun _ => ⟨rfl, rfl⟩) (fun h => absurd h3 h)
  · exact h c hc hi lt le h1 h2 (fun h => absurd h h3) (fun _ => h4)

theorem RdI.no {bs : List UInt8} {x : Nat × Nat × Nat} (hI : RdI bs none x) {q : Prop} (h0 : ¬ x.2.2 < bs.length → Vc q) (h : ∀ c : UInt8, bs.getD x.2.2 0 = c → x.2.2 < bs.length → x.1 < 2 ^ (7 * x.2.1) → x.2.1 ≤ 9 → ((7 * x.2.1 = 63 ∧ 1 < c.toNat) ∨ (0 < x.2.1 ∧ c.toNat = 0) ∨ ¬ c.toNat < 128) →
    (¬ (7 * x.2.1 = 63 ∧ 1 < c.toNat) → ¬ (0 < x.2.1 ∧ c.toNat = 0) → RdI bs none (x.1 + c.toNat % 128 * 2 ^ (7 * x.2.1), x.2.1 + 1, x.2.2 + 1)) → Vc q) : Vc q := by
  obtain ⟨n, k, i⟩ := x
  obtain ⟨lt, le, ⟨hi, _⟩ | ⟨hi, c, hc, ⟨hb, _⟩ | ⟨h1, h2, h3, h4⟩ | ⟨h1, h2, h3, h4⟩⟩⟩ := hI.cases
  · exact h0 hi
  · exact h c hc hi lt le (hb.imp id .inl) (fun a b => hb.elim (fun h => absurd h a) (fun h => absurd h b))
  · cases h4
  · exact h c hc hi lt le (.inr (.inr h3)) (fun _ _ => h4)

theorem and127 (c : UInt8) : aBits .and .u8 (c.toNat : Int) 127 = ((c.toNat % 128 : Nat) : Int) := by
  have key : ∀ k : Fin 256, aBits .and .u8 ((k.val : Nat) : Int) 127 = ((k.val % 128 : Nat) : Int) := by decide +kernel
  exact key ⟨c.toNat, c.toNat_lt⟩

theorem orNat {a b : Nat} (ha : a < 2 ^ 64) (hb : b < 2 ^ 64) : aBits .or .u64 (a : Int) (b : Int) = ((a ||| b : Nat) : Int) := by
  have hlt := Nat.or_lt_two_pow ha hb
  have e : (BitVec.ofInt 64 (a : Int) ||| BitVec.ofInt 64 (b : Int)).toNat = a ||| b := by
    rw [BitVec.toNat_or, BitVec.ofInt_natCast, BitVec.ofInt_natCast, BitVec.toNat_ofNat, BitVec.toNat_ofNat, Nat.mod_eq_of_lt ha, Nat.mod_eq_of_lt hb]
  show IntKind.u64.wrap (((BitVec.ofInt 64 (a : Int) ||| BitVec.ofInt 64 (b : Int)).toNat : Nat) : Int) = _
  rw [e, wrapU64_id (by omega) (by omega)]

theorem or_shift {n k : Nat} {c : UInt8} (hn : n < 2 ^ (7 * k)) (hk : k ≤ 9) (h1 : ¬ (7 * k = 63 ∧ 1 < c.toNat)) :
    aBits .or .u64 (n : Int) (shlI .u64 (IntKind.u64.wrap (aBits .and .u8 (c.toNat : Int) 127)) ((7 * k : Nat) : Int)) = ((n + c.toNat % 128 * 2 ^ (7 * k) : Nat) : Int) := by
  have hd : c.toNat % 128 < 128 := Nat.mod_lt _ (by omega)
  have hp : 2 ^ (7 * k) ≤ 2 ^ 63 := Nat.pow_le_pow_right (by omega) (by omega)
  have hbig : c.toNat % 128 * 2 ^ (7 * k) < 2 ^ 64 := by
    rcases Nat.lt_or_ge k 9 with h9 | h9
    · have h56 : 2 ^ (7 * k) ≤ 2 ^ 56 := Nat.pow_le_pow_right (by omega) (by omega)
      calc c.toNat % 128 * 2 ^ (7 * k) ≤ 127 * 2 ^ 56 := Nat.mul_le_mul (by omega) h56
        _ < 2 ^ 64 := by decide
    · obtain rfl : k = 9 := by omega
      have : c.toNat ≤ 1 := by omega
      have : c.toNat % 128 ≤ 1 := by omega
      calc c.toNat % 128 * 2 ^ (7 * 9) ≤ 1 * 2 ^ 63 := Nat.mul_le_mul this (Nat.le_refl _)
        _ < 2 ^ 64 := by decide
  have hs : shlI .u64 (IntKind.u64.wrap (aBits .and .u8 (c.toNat : Int) 127)) ((7 * k : Nat) : Int) = ((c.toNat % 128 * 2 ^ (7 * k) : Nat) : Int) := by
    rw [and127, wrapU64_id (by omega) (by omega)]
    have hm : min ((7 * k : Nat) : Int).toNat IntKind.u64.bits = 7 * k := by
      show min (7 * k) 64 = _
      omega
    unfold shlI
    rw [hm]
    have : ((c.toNat % 128 : Nat) : Int) * 2 ^ (7 * k) = ((c.toNat % 128 * 2 ^ (7 * k) : Nat) : Int) := by
      rw [Int.natCast_mul, Int.natCast_pow]; rfl
    rw [this, wrapU64_id (by omega) (by omega)]
  rw [hs, orNat (by omega) hbig]
  congr 1
  rw [Nat.or_comm, Nat.mul_comm, ← Nat.two_pow_add_eq_or_of_lt hn]
  omega

end Go.Proofs.Ythedcaopedbpdaa
