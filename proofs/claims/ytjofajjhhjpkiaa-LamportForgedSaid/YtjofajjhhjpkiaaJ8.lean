import Derived.Test.YtjofajjhhjpkiaaJ1
import Derived.Test.YtjofajjhhjpkiaaJ2
import Derived.Test.YtjofajjhhjpkiaaJ3
import Derived.Test.YtjofajjhhjpkiaaJ4
import Derived.Test.YtjofajjhhjpkiaaJ5
import Derived.Test.YtjofajjhhjpkiaaJ6
import Derived.Test.YtjofajjhhjpkiaaJ7
set_option linter.unusedSimpArgs false
set_option linter.unusedVariables false
/-
What the law of turned signatures returns.
-/
set_option linter.unusedSimpArgs false
set_option linter.unusedVariables false
namespace Go.Proofs.Ytjofajjhhjpkiaa
open Go.Sym
set_option maxRecDepth 10000
set_option maxHeartbeats 4000000

/-- The place of the byte turned, as the law tells it. -/
abbrev atI (S : List UInt8) (a : Nat) : Nat := 0 + ((IntKind.i64.wrap (a : Int)).tmod ((S.map byteD).length : Int)).toNat
abbrev rawT (S : List UInt8) (a : Nat) (c : UInt8) : List D := List.take ([] ++ S.map byteD).length (List.drop 0 (([] ++ S.map byteD).set (atI S a) (.int .u8 (aBits .xor .u8 (([] ++ S.map byteD).getD (atI S a) .nilp).toInt (c.toNat : Int)))))
theorem atI_eq {S : List UInt8} (hS : S.length = 16384) {a : Nat} (ha : a < 65536) : atI S a = a % 16384 ∧ (IntKind.i64.wrap (a : Int)).tmod ((S.map byteD).length : Int) = ((a % 16384 : Nat) : Int) := by
  have h : (IntKind.i64.wrap (a : Int)).tmod ((S.map byteD).length : Int) = ((a % 16384 : Nat) : Int) := by
    rw [wrap64_id (by omega) (by omega), List.length_map, hS, Int.tmod_eq_emod_of_nonneg (by omega)]; omega
  refine ⟨?_, h⟩
  unfold atI
  rw [h, Int.toNat_natCast, Nat.zero_add]
theorem rawT_eq {S : List UInt8} (hS : S.length = 16384) {a : Nat} (ha : a < 65536) (c : UInt8) : rawT S a c = (turnB S (a % 16384) c).map byteD := by
  unfold rawT
  rw [(atI_eq hS ha).1, List.nil_append, turnB_data (by omega), List.drop_zero, List.take_of_length_le (by rw [List.length_map, List.length_map, turnB_length]; omega)]

abbrev kI (S : List UInt8) (a : Nat) : Int := IntKind.i64.wrap (IntKind.i64.wrap (((IntKind.i64.wrap (a : Int)).tmod ((S.map byteD).length : Int)).tdiv 32) * 32)
theorem kI_eq {S : List UInt8} (hS : S.length = 16384) {a : Nat} (ha : a < 65536) : kI S a = ((a % 16384 / 32 * 32 : Nat) : Int) ∧ IntKind.i64.wrap (kI S a + 32) = ((a % 16384 / 32 * 32 + 32 : Nat) : Int) := by
  have h : kI S a = ((a % 16384 / 32 * 32 : Nat) : Int) := by
    unfold kI
    rw [(atI_eq hS ha).2, Int.tdiv_eq_ediv_of_nonneg (by omega), wrap64_id (n := ((a % 16384 : Nat) : Int) / 32) (by omega) (by omega), wrap64_id (by omega) (by omega)]; omega
  refine ⟨h, ?_⟩
  rw [h, wrap64_id (by omega) (by omega)]; omega
theorem cut_k {S : List UInt8} (hS : S.length = 16384) {a : Nat} (ha : a < 65536) (s : List UInt8) : cutD (s.map byteD) (kI S a) (IntKind.i64.wrap (kI S a + 32)) = ((s.drop (a % 16384 / 32 * 32)).take 32).map byteD := by
  rw [(kI_eq hS ha).2, (kI_eq hS ha).1]
  unfold cutD
  rw [Int.toNat_natCast, Int.toNat_natCast, List.drop_take, ← List.map_drop, ← List.map_take, show a % 16384 / 32 * 32 + 32 - a % 16384 / 32 * 32 = 32 by omega]

theorem lamportTurned_main (seed : List UInt8) (hs : seed.length = 32) (key : Nat) (hk : key < 2 ^ 64) (b : List UInt8) (a : Nat) (ha : a < 65536) (c : UInt8) :
    LocalCall Try.prog 7 [.d (.arr 32 1 (seed.map byteD)), .d (.int .u64 (key : Int)), .d (.sl (b.map byteD)), .d (.int .u16 (a : Int)), .d (.int .u8 (c.toNat : Int))] [] [] (one [.d (.bool true)]) [] := by
  have l0 := long_ok b
  have lS : (signP (keyH seed key) (shaB b)).length = 16384 := signP_length (keyH_length _ _) _
  have c4 := rPublic_ok seed hs key hk
  have hop : openP (shaB b) (signP (keyH seed key) (shaB b)) = textP (keyH seed key) := open_sign (keyH_length _ _) _
  have cs : b.length < 2 ^ 58 → _ := fun h => lsign_ok seed hs key hk b h
  have hTl := textP_length (keyH seed key)
  generalize signP (keyH seed key) (shaB b) = S at *
  generalize textP (keyH seed key) = T at *
  have hT := rawT_eq lS ha c
  have ai := (atI_eq lS ha).1
  have aj := (atI_eq lS ha).2
  have hn : a % 16384 < 16384 := Nat.mod_lt _ (by decide)
  have lt : (turnB S (a % 16384) c).length = 16384 := by rw [turnB_length, lS]
  have ck : b.length < 2 ^ 58 → LocalCall Try.prog 13 [.d (.arr 32 1 ((shaB T).map byteD)), .d (.sl (b.map byteD)), .d (.sl (rawT S a c))] [] [] (one [.d (.int .i64 (checkE (shaB T) b (turnB S (a % 16384) c)))]) [] := fun h => by
    rw [hT]; exact lcheck_ok _ _ _ (shaB_length _) h
  have k1 : LocalCall Try.prog 15 [.d (.sl (cutD (S.map byteD) (kI S a) (IntKind.i64.wrap (kI S a + 32))))] [] [] (one [.d (.arr 32 1 ((shaB ((S.drop (a % 16384 / 32 * 32)).take 32)).map byteD))]) [] := by
    rw [cut_k lS ha]; exact rOf_ok _ (Nat.lt_of_le_of_lt (List.length_take_le _ _) (by decide))
  have k2 : LocalCall Try.prog 15 [.d (.sl (cutD (rawT S a c) (kI S a) (IntKind.i64.wrap (kI S a + 32))))] [] [] (one [.d (.arr 32 1 ((shaB (((turnB S (a % 16384) c).drop (a % 16384 / 32 * 32)).take 32)).map byteD))]) [] := by
    rw [hT, cut_k lS ha]; exact rOf_ok _ (Nat.lt_of_le_of_lt (List.length_take_le _ _) (by decide))
  have o1 : b.length < 2 ^ 58 → LocalCall Try.prog 10 [.d (.sl (b.map byteD)), .d (.sl (S.map byteD))] [] [] (one [.d (.sl (T.map byteD)), .d (.int .i64 0)]) [] := fun h => by
    have k := opened_ok b S h
    unfold openT openE at k
    rw [decide_eq_true lS, cond_true, cond_true, hop] at k
    exact k
  have o2 : b.length < 2 ^ 58 → LocalCall Try.prog 10 [.d (.sl (b.map byteD)), .d (.sl (rawT S a c))] [] [] (one [.d (.sl ((openP (shaB b) (turnB S (a % 16384) c)).map byteD)), .d (.int .i64 0)]) [] := fun h => by
    have k := opened_ok b (turnB S (a % 16384) c) h
    unfold openT openE at k
    rw [decide_eq_true lt, cond_true, cond_true, ← hT] at k
    exact k
  have r1 := rOf_ok T (by rw [hTl]; decide)
  have r2 := rOf_ok (openP (shaB b) (turnB S (a % 16384) c)) (by rw [openP_length _ lt]; decide)
  have hC : ¬ checkE (shaB T) b (turnB S (a % 16384) c) = 15 → shaB (openP (shaB b) (turnB S (a % 16384) c)) = shaB T := fun h => by
    unfold checkE at h
    rw [decide_eq_true lt, Bool.true_and] at h
    by_cases hq : shaB (openP (shaB b) (turnB S (a % 16384) c)) = shaB T
    · exact hq
    · rw [decide_eq_false hq] at h; exact absurd rfl h
  have hU : ¬ (c.toNat : Int) = 0 → ¬ shaB ((S.drop (a % 16384 / 32 * 32)).take 32) = shaB (((turnB S (a % 16384) c).drop (a % 16384 / 32 * 32)).take 32) → ¬ T = openP (shaB b) (turnB S (a % 16384) c) := fun h0 h => by
    rw [← hop]
    refine open_turned lS hn (xor_ne fun e => h0 ?_) h
    rw [e]; rfl
  have hk0 : 0 ≤ kI S a ∧ kI S a ≤ IntKind.i64.wrap (kI S a + 32) ∧ IntKind.i64.wrap (kI S a + 32) ≤ ((S.map byteD).length : Int) := by
    rw [(kI_eq lS ha).2, (kI_eq lS ha).1, List.length_map, lS]; omega
  have hk1 : 0 ≤ kI S a ∧ kI S a ≤ IntKind.i64.wrap (kI S a + 32) ∧ IntKind.i64.wrap (kI S a + 32) ≤ ((rawT S a c).length : Int) := by
    rw [(kI_eq lS ha).2, (kI_eq lS ha).1, hT, List.length_map, lt]; omega
  have sz1 : ∀ y, y ∈ rawT S a c → y.size = 1 := by rw [hT]; exact size_bytes _
  generalize openP (shaB b) (turnB S (a % 16384) c) = Y at *
  generalize checkE (shaB T) b (turnB S (a % 16384) c) = E at *
  refine vc_fn mixed Try.func7 rfl rfl [(9, [13])] (vc_chk rfl) ?_
  repeat' (first
      | ((with_reducible refine vc_chk ?_); first | decide +kernel | rfl)
      | (with_reducible refine vc_side0 ?_; rfl)
      | (with_reducible first
           | refine vc_true ?_ | refine vc_true2 ?_ | refine vc_side ?_ ?_ | refine vc_triv | refine vc_later ?_ | refine vc_caseT ?_ | refine vc_caseF ?_ | refine vc_cons ?_ | refine vc_nil ?_ ?_ | refine vc_seq ?_
              | refine vc_region ?_ | refine vc_cond ?_ | refine vc_block ?_ | refine vc_retc ?_ | refine vc_exit ?_ | refine vc_skip ?_ | refine vc_scope ?_ | refine vc_label ?_ | refine vc_goto ?_ | refine vc_wkSl0
              | refine vc_wkHp0 | refine vc_eqAVs0 | refine vc_preG0 | refine vc_wkSl ?_ ?_ | refine vc_wkHp ?_ ?_ | refine vc_eqAVs ?_ ?_ | refine vc_preG ?_ ?_ | refine vc_side0 ?_ | refine vc_pure l0 ?_ ?_ ?_
              | refine vc_pure (cs (by omega)) ?_ ?_ ?_ | refine vc_pure c4 ?_ ?_ ?_ | refine vc_pure works_ok ?_ ?_ ?_ | refine vc_pure (ck (by omega)) ?_ ?_ ?_ | refine vc_pure k1 ?_ ?_ ?_ | refine vc_pure k2 ?_ ?_ ?_
              | refine vc_pure (o1 (by omega)) ?_ ?_ ?_ | refine vc_pure (o2 (by omega)) ?_ ?_ ?_ | refine vc_pure r1 ?_ ?_ ?_ | refine vc_pure r2 ?_ ?_ ?_ | refine vc_weakf [] ?_ ?_ ?_ | refine vc_and ?_ ?_
              | refine vc_ret [] [] ?_)
      | ((with_reducible first | refine vc_caseD (fun h => ?_) (fun h => ?_) | refine vc_caseN (fun h => ?_) (fun h => ?_)) <;> try (exfalso; omega))
      | ((with_reducible refine vc_case (fun h => ?_) (fun h => ?_)) <;> (try simp only [Bool.cond_true_left, Bool.cond_false_right, Bool.cond_true_right, Bool.cond_false_left, Bool.and_eq_true, Bool.or_eq_true, Bool.and_eq_false_iff, Bool.or_eq_false_iff, Bool.not_eq_true', Bool.not_eq_false', Bool.not_eq_true, Bool.not_eq_false, Bool.not_not, decide_eq_true_eq, decide_eq_false_iff_not, beq_iff_eq, beq_eq_false_iff_ne, bne_iff_ne, bne_eq_false_iff_eq, ne_eq, Classical.not_not, reduceCtorEq, false_or, or_false, true_and, and_true, Bool.false_eq_true, Bool.true_eq_false] at h) <;> try (exfalso; first | omega | (simp at h; done)))
      | (conv in Vc _ => arg 1; whnf
         first
          | (with_reducible refine vc_side0 ?_; rfl)
          | (with_reducible first
              | refine vc_true ?_ | refine vc_true2 ?_ | refine vc_side ?_ ?_ | refine vc_triv | refine vc_later ?_ | refine vc_caseT ?_ | refine vc_caseF ?_ | refine vc_cons ?_ | refine vc_nil ?_ ?_ | refine vc_seq ?_
                 | refine vc_region ?_ | refine vc_cond ?_ | refine vc_block ?_ | refine vc_retc ?_ | refine vc_exit ?_ | refine vc_skip ?_ | refine vc_scope ?_ | refine vc_label ?_ | refine vc_goto ?_ | refine vc_wkSl0
                 | refine vc_wkHp0 | refine vc_eqAVs0 | refine vc_preG0 | refine vc_wkSl ?_ ?_ | refine vc_wkHp ?_ ?_ | refine vc_eqAVs ?_ ?_ | refine vc_preG ?_ ?_ | refine vc_side0 ?_ | refine vc_pure l0 ?_ ?_ ?_
                 | refine vc_pure (cs (by omega)) ?_ ?_ ?_ | refine vc_pure c4 ?_ ?_ ?_ | refine vc_pure works_ok ?_ ?_ ?_ | refine vc_pure (ck (by omega)) ?_ ?_ ?_ | refine vc_pure k1 ?_ ?_ ?_ | refine vc_pure k2 ?_ ?_ ?_
                 | refine vc_pure (o1 (by omega)) ?_ ?_ ?_ | refine vc_pure (o2 (by omega)) ?_ ?_ ?_ | refine vc_pure r1 ?_ ?_ ?_ | refine vc_pure r2 ?_ ?_ ?_ | refine vc_weakf [] ?_ ?_ ?_ | refine vc_and ?_ ?_
                 | refine vc_ret [] [] ?_)
          | ((with_reducible first | refine vc_caseD (fun h => ?_) (fun h => ?_) | refine vc_caseN (fun h => ?_) (fun h => ?_)) <;> try (exfalso; omega))
          | ((with_reducible refine vc_case (fun h => ?_) (fun h => ?_)) <;> (try simp only [Bool.cond_true_left, Bool.cond_false_right, Bool.cond_true_right, Bool.cond_false_left, Bool.and_eq_true, Bool.or_eq_true, Bool.and_eq_false_iff, Bool.or_eq_false_iff, Bool.not_eq_true', Bool.not_eq_false', Bool.not_eq_true, Bool.not_eq_false, Bool.not_not, decide_eq_true_eq, decide_eq_false_iff_not, beq_iff_eq, beq_eq_false_iff_ne, bne_iff_ne, bne_eq_false_iff_eq, ne_eq, Classical.not_not, reduceCtorEq, false_or, or_false, true_and, and_true, Bool.false_eq_true, Bool.true_eq_false] at h) <;> try (exfalso; first | omega | (simp at h; done)))))
  all_goals (try (exfalso; exact arrNe h (hC (by assumption)).symm))
  all_goals (try simp only [beq_dig, cond_true, cond_false, Bool.false_eq_true, if_false, decide_eq_true_eq, decide_eq_false_iff_not, bytesOf_map, str_eq] at *)
  all_goals first
    | with_reducible rfl
    | exact absurd (by rw [List.length_map, lS]; rfl) h
    | (show ((S.map byteD).length : Int) ≠ 0; rw [List.length_map, lS]; decide)
    | exact ⟨⟨trivial, rfl, roomJ (by simp only [List.nil_append, List.length_map, lS]; decide)⟩, size_bytes S⟩
    | (show 0 ≤ _ ∧ _ < _; rw [aj, List.nil_append, List.length_map, lS]; omega)
    | (show atI S a < _; rw [ai, List.nil_append, List.length_map, lS]; exact hn)
    | (rw [List.length_set]; exact Nat.le_of_eq (Nat.zero_add _))
    | (show (32 : Int) ≠ 0; decide)
    | exact ⟨hk0, size_bytes S⟩
    | exact ⟨hk1, sz1⟩
    | exact ⟨fits_dig 6 _, fits_dig 6 _⟩
    | exact ⟨trivial, trivial⟩
    | exact ⟨⟨trivial, trivial, roomJ (by simp only [List.nil_append, List.length_map, lS]; decide)⟩, size_bytes S⟩
    | exact ⟨⟨(by show atI S a < _; rw [ai, List.nil_append, List.length_map, lS]; exact hn), trivial⟩, (by show List.getD _ (atI S a) _ = D.ty Try.prog 8 5 (List.getD _ (atI S a) _); rw [ai, List.nil_append, getD_byte (by omega)]; rfl)⟩
    | exact absurd (hC (by assumption)).symm h
    | (exfalso; rw [ByteArray.toList_eq, ByteArray.toList_eq] at h; exact hU (by assumption) (by assumption) h)

end Go.Proofs.Ytjofajjhhjpkiaa
