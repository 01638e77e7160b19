import Derived.Test.YtdceegllpcepnaaJ1
import Derived.Test.YtdceegllpcepnaaJ2
import Derived.Test.YtdceegllpcepnaaJ3
import Derived.Test.YtdceegllpcepnaaJ4
import Derived.Test.YtdceegllpcepnaaJ5
set_option linter.unusedSimpArgs false
set_option linter.unusedVariables false
/-
What is hashed along a way; its root; what it proves.
-/
set_option linter.unusedSimpArgs false
set_option linter.unusedVariables false
namespace Go.Proofs.Ytdceegllpcepnaa
open Go.Sym
set_option maxRecDepth 10000
set_option maxHeartbeats 4000000

theorem end_ok (p : Prf) (hw : wfP p) : LocalCall Try.prog 51 [.d (pD p)] [] [] (one [.d (.sl ((endB p).map byteD))]) [] := by
  have c1 := leafBytes_ok p.index p.value hw.2 hw.3
  have c2 := emptyBytes_ok
  refine vc_fn mixed Try.func51 rfl rfl [] (vc_chk rfl) ?_
  repeat' (first
      | ((with_reducible refine vc_chk ?_); first | decide +kernel | rfl)
      | (with_reducible refine vc_side0 ?_; rfl)
      | (with_reducible first
           | refine vc_true ?_ | refine vc_true2 ?_ | refine vc_side ?_ ?_ | refine vc_triv | refine vc_later ?_ | refine vc_caseT ?_ | refine vc_caseF ?_ | refine vc_cons ?_ | refine vc_nil ?_ ?_ | refine vc_seq ?_
              | refine vc_region ?_ | refine vc_cond ?_ | refine vc_block ?_ | refine vc_retc ?_ | refine vc_exit ?_ | refine vc_skip ?_ | refine vc_scope ?_ | refine vc_label ?_ | refine vc_goto ?_ | refine vc_wkSl0
              | refine vc_wkHp0 | refine vc_eqAVs0 | refine vc_preG0 | refine vc_wkSl ?_ ?_ | refine vc_wkHp ?_ ?_ | refine vc_eqAVs ?_ ?_ | refine vc_preG ?_ ?_ | refine vc_side0 ?_ | refine vc_pure c1 ?_ ?_ ?_
              | refine vc_pure c2 ?_ ?_ ?_ | refine vc_weakf [] ?_ ?_ ?_ | refine vc_and ?_ ?_ | refine vc_ret [] [] ?_)
      | ((with_reducible first | refine vc_caseD (fun h => ?_) (fun h => ?_) | refine vc_caseN (fun h => ?_) (fun h => ?_)) <;> try (exfalso; omega))
      | ((with_reducible refine vc_case (fun h => ?_) (fun h => ?_)) <;> (try simp only [Bool.cond_true_left, Bool.cond_false_right, Bool.cond_true_right, Bool.cond_false_left, Bool.and_eq_true, Bool.or_eq_true, Bool.and_eq_false_iff, Bool.or_eq_false_iff, Bool.not_eq_true', Bool.not_eq_false', Bool.not_eq_true, Bool.not_eq_false, Bool.not_not, decide_eq_true_eq, decide_eq_false_iff_not, beq_iff_eq, beq_eq_false_iff_ne, bne_iff_ne, bne_eq_false_iff_eq, ne_eq, Classical.not_not, reduceCtorEq, false_or, or_false, true_and, and_true, Bool.false_eq_true, Bool.true_eq_false] at h) <;> try (exfalso; first | omega | (simp at h; done)))
      | (conv in Vc _ => arg 1; whnf
         first
          | (with_reducible refine vc_side0 ?_; rfl)
          | (with_reducible first
              | refine vc_true ?_ | refine vc_true2 ?_ | refine vc_side ?_ ?_ | refine vc_triv | refine vc_later ?_ | refine vc_caseT ?_ | refine vc_caseF ?_ | refine vc_cons ?_ | refine vc_nil ?_ ?_ | refine vc_seq ?_
                 | refine vc_region ?_ | refine vc_cond ?_ | refine vc_block ?_ | refine vc_retc ?_ | refine vc_exit ?_ | refine vc_skip ?_ | refine vc_scope ?_ | refine vc_label ?_ | refine vc_goto ?_ | refine vc_wkSl0
                 | refine vc_wkHp0 | refine vc_eqAVs0 | refine vc_preG0 | refine vc_wkSl ?_ ?_ | refine vc_wkHp ?_ ?_ | refine vc_eqAVs ?_ ?_ | refine vc_preG ?_ ?_ | refine vc_side0 ?_ | refine vc_pure c1 ?_ ?_ ?_
                 | refine vc_pure c2 ?_ ?_ ?_ | refine vc_weakf [] ?_ ?_ ?_ | refine vc_and ?_ ?_ | refine vc_ret [] [] ?_)
          | ((with_reducible first | refine vc_caseD (fun h => ?_) (fun h => ?_) | refine vc_caseN (fun h => ?_) (fun h => ?_)) <;> try (exfalso; omega))
          | ((with_reducible refine vc_case (fun h => ?_) (fun h => ?_)) <;> (try simp only [Bool.cond_true_left, Bool.cond_false_right, Bool.cond_true_right, Bool.cond_false_left, Bool.and_eq_true, Bool.or_eq_true, Bool.and_eq_false_iff, Bool.or_eq_false_iff, Bool.not_eq_true', Bool.not_eq_false', Bool.not_eq_true, Bool.not_eq_false, Bool.not_not, decide_eq_true_eq, decide_eq_false_iff_not, beq_iff_eq, beq_eq_false_iff_ne, bne_iff_ne, bne_eq_false_iff_eq, ne_eq, Classical.not_not, reduceCtorEq, false_or, or_false, true_and, and_true, Bool.false_eq_true, Bool.true_eq_false] at h) <;> try (exfalso; first | omega | (simp at h; done)))))
  all_goals first
    | (unfold endB; rw [decide_eq_true h]; rfl)
    | (unfold endB; rw [decide_eq_false h]; rfl)
    | trace_state

theorem side_at {p : Prf} {i : Nat} (hi : i < p.sides.length) : (p.sides.map digD).getD i .nilp = digD (p.sides.getD i []) := (map_at (f := digD) (d := []) hi).1
theorem side_len {p : Prf} (hw : wfP p) {i : Nat} (hi : i < p.sides.length) : (p.sides.getD i []).length = 32 := hw.1 _ (by rw [List.getD_eq_getElem?_getD, List.getElem?_eq_getElem hi]; simp)
theorem rev_last (l : List (List UInt8)) (h : 0 < l.length) : (l.reverse.map tD).getD (l.length - 1) .nilp = tD (l.headD []) := by
  cases l with
  | nil => simp at h
  | cons x l => simp

theorem phashed_ok (idx : List UInt8) (hx : idx.length = 32) (p : Prf) (hw : wfP p) (hl : p.sides.length ≤ 300) : LocalCall Try.prog 34 [.d (digD idx), .d (pD p)] [] [] (one [.d (.sl ((hashedP idx p).map tD))]) [] := by
  have ls : (p.sides.map digD).length = p.sides.length := List.length_map _
  have c0 := end_ok p hw
  have cof : ∀ k, k ≤ p.sides.length → _ := fun k hk => of_ok ((wayN idx p k).headD []) (Nat.lt_of_le_of_lt (wayN_head hw hk) (by decide))
  have cb : ∀ k : Nat, _ := fun k => bit_ok (idx.map byteD) idx rfl hx ((k : Int) - 1)
  have cn1 : ∀ k, 0 < k → k ≤ p.sides.length → bitI idx ((k : Int) - 1) = true → _ := fun k h1 h2 _ => nodeBytes_ok (p.sides.getD (k - 1) []) (shaB ((wayN idx p k).headD [])) (side_len hw (show k - 1 < p.sides.length by omega)) (shaB_length _)
  have cn0 : ∀ k, 0 < k → k ≤ p.sides.length → bitI idx ((k : Int) - 1) = false → _ := fun k h1 h2 _ => nodeBytes_ok (shaB ((wayN idx p k).headD [])) (p.sides.getD (k - 1) []) (shaB_length _) (side_len hw (show k - 1 < p.sides.length by omega))
  have wl : ∀ k, k ≤ p.sides.length → ((wayN idx p k).reverse.map tD).length = p.sides.length - k + 1 := fun k hk => by rw [List.length_map, List.length_reverse, wayN_length idx p hk]
  have ix : ∀ k, k ≤ p.sides.length → IntKind.i64.wrap ((((wayN idx p k).reverse.map tD).length : Int) - 1) = ((p.sides.length - k : Nat) : Int) := fun k hk => by
    rw [wl k hk, wrap64_id (by omega) (by omega)]; omega
  have la : ∀ k, k ≤ p.sides.length → ((wayN idx p k).reverse.map tD).getD (p.sides.length - k) .nilp = tD ((wayN idx p k).headD []) := fun k hk => by
    have hw := wayN_length idx p hk
    have := rev_last (wayN idx p k) (by omega)
    rwa [hw, Nat.add_sub_cancel] at this
  have stp1 : ∀ k, 0 < k → k ≤ p.sides.length → bitI idx ((k : Int) - 1) = true → (wayN idx p k).reverse.map tD ++ [tD (nodeB (p.sides.getD (k - 1) []) (shaB ((wayN idx p k).headD [])))] = (wayN idx p (k - 1)).reverse.map tD := fun k h1 h2 hb => by
    rw [wayN_step idx p h1 h2, List.reverse_cons, List.map_append, stepB, show ((k - 1 : Nat) : Int) = (k : Int) - 1 by omega, hb]; rfl
  have stp0 : ∀ k, 0 < k → k ≤ p.sides.length → bitI idx ((k : Int) - 1) = false → (wayN idx p k).reverse.map tD ++ [tD (nodeB (shaB ((wayN idx p k).headD [])) (p.sides.getD (k - 1) []))] = (wayN idx p (k - 1)).reverse.map tD := fun k h1 h2 hb => by
    rw [wayN_step idx p h1 h2, List.reverse_cons, List.map_append, stepB, show ((k - 1 : Nat) : Int) = (k : Int) - 1 by omega, hb]; rfl
  have cr := reverse_ok (wayN idx p 0).reverse (by rw [List.length_reverse, wayN_length idx p (Nat.zero_le _)]; omega)
  refine vc_fn mixed Try.func34 rfl rfl [] (vc_chk rfl) ?_
  repeat' (first
      | ((with_reducible refine vc_chk ?_); first | decide +kernel | rfl)
      | (with_reducible refine vc_side0 ?_; rfl)
      | (with_reducible first
           | refine vc_true ?_ | refine vc_true2 ?_ | refine vc_side ?_ ?_ | refine vc_triv | refine vc_later ?_ | refine vc_caseT ?_ | refine vc_caseF ?_ | refine vc_cons ?_ | refine vc_nil ?_ ?_ | refine vc_seq ?_
              | refine vc_region ?_ | refine vc_cond ?_ | refine vc_block ?_ | refine vc_retc ?_ | refine vc_exit ?_ | refine vc_skip ?_ | refine vc_scope ?_ | refine vc_label ?_ | refine vc_goto ?_ | refine vc_wkSl0
              | refine vc_wkHp0 | refine vc_eqAVs0 | refine vc_preG0 | refine vc_wkSl ?_ ?_ | refine vc_wkHp ?_ ?_ | refine vc_eqAVs ?_ ?_ | refine vc_preG ?_ ?_ | refine vc_side0 ?_ | refine vc_pure c0 ?_ ?_ ?_
              | refine vc_call [] (cof k (by omega)) ?_ | refine vc_pure (cb k) ?_ ?_ ?_ | refine vc_call [] (cn1 k (by omega) (by omega) h) ?_ | refine vc_call [] (cn0 k (by omega) (by omega) h) ?_ | refine vc_call [] cr ?_
              | refine vc_loopI 52 (fun (k : Nat) => [(2, .ptr 1000 []), (3, .ptr 1004 []), (5, .sl 9 [] 1 0 ((wayN idx p k).reverse.map tD).length), (6, .d (.int .i64 ((k : Int) - 1)))]) (fun k => [(1000, .var (.d (digD idx))), (1004, .var (.d (pD p))), (9, .row 1 ((wayN idx p k).reverse.map tD))]) (fun k => k) (fun k => k ≤ p.sides.length) p.sides.length [(9, 2008)] ?_ ?_ ?_ ?_ ?_ (fun k hI => ?_)
              | refine vc_nextAt (k - 1) [(9, 8036)] 8036 (by with_unfolding_all rfl) ?_ ?_ ?_ ?_ ?_ ?_ | refine vc_nextAt (k - 1) [(9, 9036)] 9036 (by with_unfolding_all rfl) ?_ ?_ ?_ ?_ ?_ ?_ | refine vc_ret [true] [] ?_
              | refine vc_weakf [] ?_ ?_ ?_ | refine vc_and ?_ ?_ | refine vc_ret [] [] ?_)
      | ((with_reducible first | refine vc_caseD (fun h => ?_) (fun h => ?_) | refine vc_caseN (fun h => ?_) (fun h => ?_)) <;> try (exfalso; omega))
      | ((with_reducible refine vc_case (fun h => ?_) (fun h => ?_)) <;> (try simp only [Bool.cond_true_left, Bool.cond_false_right, Bool.cond_true_right, Bool.cond_false_left, Bool.and_eq_true, Bool.or_eq_true, Bool.and_eq_false_iff, Bool.or_eq_false_iff, Bool.not_eq_true', Bool.not_eq_false', Bool.not_eq_true, Bool.not_eq_false, Bool.not_not, decide_eq_true_eq, decide_eq_false_iff_not, beq_iff_eq, beq_eq_false_iff_ne, bne_iff_ne, bne_eq_false_iff_eq, ne_eq, Classical.not_not, reduceCtorEq, false_or, or_false, true_and, and_true, Bool.false_eq_true, Bool.true_eq_false] at h) <;> try (exfalso; first | omega | (simp at h; done)))
      | (conv in Vc _ => arg 1; whnf
         first
          | (with_reducible refine vc_side0 ?_; rfl)
          | (with_reducible first
              | refine vc_true ?_ | refine vc_true2 ?_ | refine vc_side ?_ ?_ | refine vc_triv | refine vc_later ?_ | refine vc_caseT ?_ | refine vc_caseF ?_ | refine vc_cons ?_ | refine vc_nil ?_ ?_ | refine vc_seq ?_
                 | refine vc_region ?_ | refine vc_cond ?_ | refine vc_block ?_ | refine vc_retc ?_ | refine vc_exit ?_ | refine vc_skip ?_ | refine vc_scope ?_ | refine vc_label ?_ | refine vc_goto ?_ | refine vc_wkSl0
                 | refine vc_wkHp0 | refine vc_eqAVs0 | refine vc_preG0 | refine vc_wkSl ?_ ?_ | refine vc_wkHp ?_ ?_ | refine vc_eqAVs ?_ ?_ | refine vc_preG ?_ ?_ | refine vc_side0 ?_ | refine vc_pure c0 ?_ ?_ ?_
                 | refine vc_call [] (cof k (by omega)) ?_ | refine vc_pure (cb k) ?_ ?_ ?_ | refine vc_call [] (cn1 k (by omega) (by omega) h) ?_ | refine vc_call [] (cn0 k (by omega) (by omega) h) ?_ | refine vc_call [] cr ?_
                 | refine vc_loopI 52 (fun (k : Nat) => [(2, .ptr 1000 []), (3, .ptr 1004 []), (5, .sl 9 [] 1 0 ((wayN idx p k).reverse.map tD).length), (6, .d (.int .i64 ((k : Int) - 1)))]) (fun k => [(1000, .var (.d (digD idx))), (1004, .var (.d (pD p))), (9, .row 1 ((wayN idx p k).reverse.map tD))]) (fun k => k) (fun k => k ≤ p.sides.length) p.sides.length [(9, 2008)] ?_ ?_ ?_ ?_ ?_ (fun k hI => ?_)
                 | refine vc_nextAt (k - 1) [(9, 8036)] 8036 (by with_unfolding_all rfl) ?_ ?_ ?_ ?_ ?_ ?_ | refine vc_nextAt (k - 1) [(9, 9036)] 9036 (by with_unfolding_all rfl) ?_ ?_ ?_ ?_ ?_ ?_ | refine vc_ret [true] [] ?_
                 | refine vc_weakf [] ?_ ?_ ?_ | refine vc_and ?_ ?_ | refine vc_ret [] [] ?_)
          | ((with_reducible first | refine vc_caseD (fun h => ?_) (fun h => ?_) | refine vc_caseN (fun h => ?_) (fun h => ?_)) <;> try (exfalso; omega))
          | ((with_reducible refine vc_case (fun h => ?_) (fun h => ?_)) <;> (try simp only [Bool.cond_true_left, Bool.cond_false_right, Bool.cond_true_right, Bool.cond_false_left, Bool.and_eq_true, Bool.or_eq_true, Bool.and_eq_false_iff, Bool.or_eq_false_iff, Bool.not_eq_true', Bool.not_eq_false', Bool.not_eq_true, Bool.not_eq_false, Bool.not_not, decide_eq_true_eq, decide_eq_false_iff_not, beq_iff_eq, beq_eq_false_iff_ne, bne_iff_ne, bne_eq_false_iff_eq, ne_eq, Classical.not_not, reduceCtorEq, false_or, or_false, true_and, and_true, Bool.false_eq_true, Bool.true_eq_false] at h) <;> try (exfalso; first | omega | (simp at h; done)))))
  all_goals (try have hx1 : ((k : Int) - 1).toNat = k - 1 := (by omega))
  all_goals first
    | with_reducible rfl
    | omega
    | (rw [wayN_end]; rfl)
    | (rw [List.length_map, wrap64_id (by omega) (by omega)]; done)
    | (show 0 ≤ _ ∧ _ < _; rw [ix k hI, wl k hI]; omega)
    | (rw [ix k hI]; exact ⟨⟨by rw [Int.toNat_natCast, Nat.zero_add, wl k hI]; omega, trivial⟩, by rw [Int.toNat_natCast, Nat.zero_add, la k hI]; rfl⟩)
    | (rw [ix k hI, Int.toNat_natCast, Nat.zero_add, la k hI]; rfl)
    | exact ⟨⟨by omega, by omega⟩, by rw [hx1, side_at (by omega)]; rfl⟩
    | (rw [hx1, side_at (by omega)]; rfl)
    | exact ⟨⟨Nat.le_of_eq (Nat.zero_add _), by first | trivial | rfl, (by show Room ((wayN idx p k).reverse.map tD ++ [tD _]).length 24; unfold Room; rw [List.length_append, wl k hI]; show (p.sides.length - k + 1 + 1 + (p.sides.length - k + 1 + 1) / 4 + 512) * 24 ≤ _; omega)⟩, fun y hy => (by rw [List.mem_singleton.1 hy]; rfl)⟩
    | (show k - 1 < k; omega)
    | exact congrArg List.length (stp1 k (by omega) hI h)
    | exact congrArg List.length (stp0 k (by omega) hI h)
    | exact stp1 k (by omega) hI h
    | exact stp0 k (by omega) hI h
    | (rw [wrap64_id (by omega) (by omega)]; congr 1; omega)
    | (obtain rfl : k = 0 := (by omega); first | with_reducible rfl | trivial | exact ⟨Nat.le_of_eq (by simp only [Nat.zero_add, List.length_map, List.length_reverse]), trivial⟩ | (rw [List.reverse_reverse, List.drop_zero, List.take_of_length_le (by simp only [List.length_map, List.length_reverse]; omega)]; rfl))
    | trace_state

theorem head_at (l : List (List UInt8)) (h : 0 < l.length) : (l.map tD).getD 0 .nilp = tD (l.headD []) := by
  cases l with
  | nil => simp at h
  | cons x l => rfl
theorem hashedP_pos (idx : List UInt8) (p : Prf) : 0 < (hashedP idx p).length := by unfold hashedP; rw [wayL_length]; omega
theorem hashedP_head (idx : List UInt8) {p : Prf} (hw : wfP p) : ((hashedP idx p).headD []).length ≤ 65 := wayN_head (idx := idx) hw (Nat.zero_le _)

theorem proot_ok (idx : List UInt8) (hx : idx.length = 32) (p : Prf) (hw : wfP p) (hl : p.sides.length ≤ 300) : LocalCall Try.prog 38 [.d (digD idx), .d (pD p)] [] [] (one [.d (digD (rootP idx p))]) [] := by
  have c1 := phashed_ok idx hx p hw hl
  have c2 := of_ok ((hashedP idx p).headD []) (Nat.lt_of_le_of_lt (hashedP_head idx hw) (by decide))
  have hp := hashedP_pos idx p
  refine vc_fn mixed Try.func38 rfl rfl [] (vc_chk rfl) ?_
  repeat' (first
      | ((with_reducible refine vc_chk ?_); first | decide +kernel | rfl)
      | (with_reducible refine vc_side0 ?_; rfl)
      | (with_reducible first
           | refine vc_true ?_ | refine vc_true2 ?_ | refine vc_side ?_ ?_ | refine vc_triv | refine vc_later ?_ | refine vc_caseT ?_ | refine vc_caseF ?_ | refine vc_cons ?_ | refine vc_nil ?_ ?_ | refine vc_seq ?_
              | refine vc_region ?_ | refine vc_cond ?_ | refine vc_block ?_ | refine vc_retc ?_ | refine vc_exit ?_ | refine vc_skip ?_ | refine vc_scope ?_ | refine vc_label ?_ | refine vc_goto ?_ | refine vc_wkSl0
              | refine vc_wkHp0 | refine vc_eqAVs0 | refine vc_preG0 | refine vc_wkSl ?_ ?_ | refine vc_wkHp ?_ ?_ | refine vc_eqAVs ?_ ?_ | refine vc_preG ?_ ?_ | refine vc_side0 ?_ | refine vc_pure c1 ?_ ?_ ?_
              | refine vc_call [] c2 ?_ | refine vc_weakf [] ?_ ?_ ?_ | refine vc_and ?_ ?_ | refine vc_ret [] [] ?_)
      | ((with_reducible first | refine vc_caseD (fun h => ?_) (fun h => ?_) | refine vc_caseN (fun h => ?_) (fun h => ?_)) <;> try (exfalso; omega))
      | ((with_reducible refine vc_case (fun h => ?_) (fun h => ?_)) <;> (try simp only [Bool.cond_true_left, Bool.cond_false_right, Bool.cond_true_right, Bool.cond_false_left, Bool.and_eq_true, Bool.or_eq_true, Bool.and_eq_false_iff, Bool.or_eq_false_iff, Bool.not_eq_true', Bool.not_eq_false', Bool.not_eq_true, Bool.not_eq_false, Bool.not_not, decide_eq_true_eq, decide_eq_false_iff_not, beq_iff_eq, beq_eq_false_iff_ne, bne_iff_ne, bne_eq_false_iff_eq, ne_eq, Classical.not_not, reduceCtorEq, false_or, or_false, true_and, and_true, Bool.false_eq_true, Bool.true_eq_false] at h) <;> try (exfalso; first | omega | (simp at h; done)))
      | (conv in Vc _ => arg 1; whnf
         first
          | (with_reducible refine vc_side0 ?_; rfl)
          | (with_reducible first
              | refine vc_true ?_ | refine vc_true2 ?_ | refine vc_side ?_ ?_ | refine vc_triv | refine vc_later ?_ | refine vc_caseT ?_ | refine vc_caseF ?_ | refine vc_cons ?_ | refine vc_nil ?_ ?_ | refine vc_seq ?_
                 | refine vc_region ?_ | refine vc_cond ?_ | refine vc_block ?_ | refine vc_retc ?_ | refine vc_exit ?_ | refine vc_skip ?_ | refine vc_scope ?_ | refine vc_label ?_ | refine vc_goto ?_ | refine vc_wkSl0
                 | refine vc_wkHp0 | refine vc_eqAVs0 | refine vc_preG0 | refine vc_wkSl ?_ ?_ | refine vc_wkHp ?_ ?_ | refine vc_eqAVs ?_ ?_ | refine vc_preG ?_ ?_ | refine vc_side0 ?_ | refine vc_pure c1 ?_ ?_ ?_
                 | refine vc_call [] c2 ?_ | refine vc_weakf [] ?_ ?_ ?_ | refine vc_and ?_ ?_ | refine vc_ret [] [] ?_)
          | ((with_reducible first | refine vc_caseD (fun h => ?_) (fun h => ?_) | refine vc_caseN (fun h => ?_) (fun h => ?_)) <;> try (exfalso; omega))
          | ((with_reducible refine vc_case (fun h => ?_) (fun h => ?_)) <;> (try simp only [Bool.cond_true_left, Bool.cond_false_right, Bool.cond_true_right, Bool.cond_false_left, Bool.and_eq_true, Bool.or_eq_true, Bool.and_eq_false_iff, Bool.or_eq_false_iff, Bool.not_eq_true', Bool.not_eq_false', Bool.not_eq_true, Bool.not_eq_false, Bool.not_not, decide_eq_true_eq, decide_eq_false_iff_not, beq_iff_eq, beq_eq_false_iff_ne, bne_iff_ne, bne_eq_false_iff_eq, ne_eq, Classical.not_not, reduceCtorEq, false_or, or_false, true_and, and_true, Bool.false_eq_true, Bool.true_eq_false] at h) <;> try (exfalso; first | omega | (simp at h; done)))))
  all_goals first
    | with_reducible rfl
    | omega
    | exact ⟨trivial, trivial⟩
    | exact ⟨trivial, trivial, trivial⟩
    | exact ⟨trivial, trivial, trivial, trivial⟩
    | exact ⟨⟨by decide, by decide, by decide⟩, trivial⟩
    | exact ⟨Nat.le_of_eq (Nat.zero_add _), trivial⟩
    | exact ⟨Nat.le_refl _, trivial, trivial⟩
    | (rw [wrap64_id (by omega) (by omega)]; rfl)
    | exact ⟨⟨by decide, by rw [List.length_map]; omega⟩, by rw [show Int.toNat 0 = 0 from rfl, head_at _ hp]; rfl⟩
    | (rw [show Int.toNat 0 = 0 from rfl, head_at _ hp]; rfl)
    | rfl
    | (exfalso; simp at h; done)
    | skip

/-- What a way proves of an index by a root. -/
def underP (idx : List UInt8) (p : Prf) : Bool := !decide (p.fin = 1) || decide ((common p.index idx : Int) ≥ (p.sides.length : Int))
def okP (root idx : List UInt8) (p : Prf) : Bool := decide (rightP p) && underP idx p && decide (rootP idx p = root)
def leafP (root idx : List UInt8) (p : Prf) : Bool := okP root idx p && (decide (p.fin = 1) && decide (p.index = idx))
def valP (root idx : List UInt8) (p : Prf) : List UInt8 := bif leafP root idx p then p.value else zero32
def errP (root idx : List UInt8) (p : Prf) : Int := bif okP root idx p then 0 else 15

theorem pcheck_ok (root idx : List UInt8) (hr : root.length = 32) (hx : idx.length = 32) (p : Prf) (hw : wfP p) (hl : p.sides.length ≤ 300) :
    LocalCall Try.prog 18 [.d (digD root), .d (digD idx), .d (pD p)] [] [] (one [.d (digD (valP root idx p)), .d (.bool (leafP root idx p)), .d (.int .i64 (errP root idx p))]) [] := by
  have ls : (p.sides.map digD).length = p.sides.length := List.length_map _
  have c1 := right_ok p
  have c2 := under_ok (p.index.map byteD) (idx.map byteD) p.index idx rfl rfl hw.2 hx ((p.sides.map digD).length : Nat)
  have c3 := proot_ok idx hx p hw hl
  refine vc_fn mixed Try.func18 rfl rfl [] (vc_chk rfl) ?_
  repeat' (first
      | ((with_reducible refine vc_chk ?_); first | decide +kernel | rfl)
      | (with_reducible refine vc_side0 ?_; rfl)
      | (with_reducible first
           | refine vc_true ?_ | refine vc_true2 ?_ | refine vc_side ?_ ?_ | refine vc_triv | refine vc_later ?_ | refine vc_caseT ?_ | refine vc_caseF ?_ | refine vc_cons ?_ | refine vc_nil ?_ ?_ | refine vc_seq ?_
              | refine vc_region ?_ | refine vc_cond ?_ | refine vc_block ?_ | refine vc_retc ?_ | refine vc_exit ?_ | refine vc_skip ?_ | refine vc_scope ?_ | refine vc_label ?_ | refine vc_goto ?_ | refine vc_wkSl0
              | refine vc_wkHp0 | refine vc_eqAVs0 | refine vc_preG0 | refine vc_wkSl ?_ ?_ | refine vc_wkHp ?_ ?_ | refine vc_eqAVs ?_ ?_ | refine vc_preG ?_ ?_ | refine vc_side0 ?_ | refine vc_pure c1 ?_ ?_ ?_
              | refine vc_pure c2 ?_ ?_ ?_ | refine vc_pure c3 ?_ ?_ ?_ | refine vc_weakf [] ?_ ?_ ?_ | refine vc_and ?_ ?_ | refine vc_ret [] [] ?_)
      | ((with_reducible first | refine vc_caseD (fun h => ?_) (fun h => ?_) | refine vc_caseN (fun h => ?_) (fun h => ?_)) <;> try (exfalso; omega))
      | ((with_reducible refine vc_case (fun h => ?_) (fun h => ?_)) <;> (try simp only [Bool.cond_true_left, Bool.cond_false_right, Bool.cond_true_right, Bool.cond_false_left, Bool.and_eq_true, Bool.or_eq_true, Bool.and_eq_false_iff, Bool.or_eq_false_iff, Bool.not_eq_true', Bool.not_eq_false', Bool.not_eq_true, Bool.not_eq_false, Bool.not_not, decide_eq_true_eq, decide_eq_false_iff_not, beq_iff_eq, beq_eq_false_iff_ne, bne_iff_ne, bne_eq_false_iff_eq, ne_eq, Classical.not_not, reduceCtorEq, false_or, or_false, true_and, and_true, Bool.false_eq_true, Bool.true_eq_false] at h) <;> try (exfalso; first | omega | (simp at h; done)))
      | (conv in Vc _ => arg 1; whnf
         first
          | (with_reducible refine vc_side0 ?_; rfl)
          | (with_reducible first
              | refine vc_true ?_ | refine vc_true2 ?_ | refine vc_side ?_ ?_ | refine vc_triv | refine vc_later ?_ | refine vc_caseT ?_ | refine vc_caseF ?_ | refine vc_cons ?_ | refine vc_nil ?_ ?_ | refine vc_seq ?_
                 | refine vc_region ?_ | refine vc_cond ?_ | refine vc_block ?_ | refine vc_retc ?_ | refine vc_exit ?_ | refine vc_skip ?_ | refine vc_scope ?_ | refine vc_label ?_ | refine vc_goto ?_ | refine vc_wkSl0
                 | refine vc_wkHp0 | refine vc_eqAVs0 | refine vc_preG0 | refine vc_wkSl ?_ ?_ | refine vc_wkHp ?_ ?_ | refine vc_eqAVs ?_ ?_ | refine vc_preG ?_ ?_ | refine vc_side0 ?_ | refine vc_pure c1 ?_ ?_ ?_
                 | refine vc_pure c2 ?_ ?_ ?_ | refine vc_pure c3 ?_ ?_ ?_ | refine vc_weakf [] ?_ ?_ ?_ | refine vc_and ?_ ?_ | refine vc_ret [] [] ?_)
          | ((with_reducible first | refine vc_caseD (fun h => ?_) (fun h => ?_) | refine vc_caseN (fun h => ?_) (fun h => ?_)) <;> try (exfalso; omega))
          | ((with_reducible refine vc_case (fun h => ?_) (fun h => ?_)) <;> (try simp only [Bool.cond_true_left, Bool.cond_false_right, Bool.cond_true_right, Bool.cond_false_left, Bool.and_eq_true, Bool.or_eq_true, Bool.and_eq_false_iff, Bool.or_eq_false_iff, Bool.not_eq_true', Bool.not_eq_false', Bool.not_eq_true, Bool.not_eq_false, Bool.not_not, decide_eq_true_eq, decide_eq_false_iff_not, beq_iff_eq, beq_eq_false_iff_ne, bne_iff_ne, bne_eq_false_iff_eq, ne_eq, Classical.not_not, reduceCtorEq, false_or, or_false, true_and, and_true, Bool.false_eq_true, Bool.true_eq_false] at h) <;> try (exfalso; first | omega | (simp at h; done)))))
  all_goals (try simp only [z7, beq_dig, cond_true, cond_false, Bool.not_eq_true', Bool.not_eq_false', decide_eq_true_eq, decide_eq_false_iff_not, ls] at *)
  all_goals first
    | with_reducible rfl
    | exact ⟨trivial, trivial, trivial, trivial⟩
    | exact ⟨fits_dig 6 _, fits_dig 6 _⟩
    | (simp [errP, valP, leafP, okP, underP, *]; done)
    | (subst h; simp [errP, valP, leafP, okP, underP, *]; done)
    | (simp only [errP, valP, leafP, okP, underP]; simp_all; done)
    | trace_state

end Go.Proofs.Ytdceegllpcepnaa
