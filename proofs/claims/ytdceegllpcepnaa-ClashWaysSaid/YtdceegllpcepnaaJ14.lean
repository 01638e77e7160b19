import Derived.Test.YtdceegllpcepnaaJ1
import Derived.Test.YtdceegllpcepnaaJ2
import Derived.Test.YtdceegllpcepnaaJ3
import Derived.Test.YtdceegllpcepnaaJ4
import Derived.Test.YtdceegllpcepnaaJ5
import Derived.Test.YtdceegllpcepnaaJ6
import Derived.Test.YtdceegllpcepnaaJ7
import Derived.Test.YtdceegllpcepnaaJ8
import Derived.Test.YtdceegllpcepnaaJ9
import Derived.Test.YtdceegllpcepnaaJ10
import Derived.Test.YtdceegllpcepnaaJ11
import Derived.Test.YtdceegllpcepnaaJ12
import Derived.Test.YtdceegllpcepnaaJ13
set_option linter.unusedSimpArgs false
set_option linter.unusedVariables false
/-
The document's answer of ways.
-/
set_option linter.unusedSimpArgs false
set_option linter.unusedVariables false
namespace Go.Proofs.Ytdceegllpcepnaa
open Go.Sym
set_option maxRecDepth 10000
set_option maxHeartbeats 4000000

theorem rHashed8_ok (idx : List UInt8) (hx : idx.length = 32) (p : Prf) (hw : wfP p) (hl : p.sides.length ≤ 300) : LocalCall Try.prog 35 [.d (digD idx), .d (pD p)] [] [] (one [.d (.sl ((hashedP idx p).map tD))]) [] := by
  have ls : (p.sides.map digD).length = p.sides.length := List.length_map _
  have e0 := rEmptyBytes_ok
  have e1 := rLeafBytes_ok p.index p.value hw.2 hw.3
  have cof : ∀ k, k ≤ p.sides.length → _ := fun k hk => rOf_ok ((wayN idx p k).headD []) (Nat.lt_of_le_of_lt (wayN_head hw hk) (by decide))
  have cb : ∀ k : Nat, _ := fun k => rBit_ok (idx.map byteD) idx rfl hx ((k : Int) - 1)
  have cn1 : ∀ k, 0 < k → k ≤ p.sides.length → bitI idx ((k : Int) - 1) = true → _ := fun k h1 h2 _ => rNodeBytes_ok (p.sides.getD (k - 1) []) (shaB ((wayN idx p k).headD [])) (side_len hw (show k - 1 < p.sides.length by omega)) (shaB_length _)
  have cn0 : ∀ k, 0 < k → k ≤ p.sides.length → bitI idx ((k : Int) - 1) = false → _ := fun k h1 h2 _ => rNodeBytes_ok (shaB ((wayN idx p k).headD [])) (p.sides.getD (k - 1) []) (shaB_length _) (side_len hw (show k - 1 < p.sides.length by omega))
  have wl : ∀ k, k ≤ p.sides.length → ((wayN idx p k).map tD).length = p.sides.length - k + 1 := fun k hk => by rw [List.length_map, wayN_length idx p hk]
  have hd1 : ∀ k, 0 < k → k ≤ p.sides.length → bitI idx ((k : Int) - 1) = true → (wayN idx p (k - 1)).headD [] = nodeB (p.sides.getD (k - 1) []) (shaB ((wayN idx p k).headD [])) ∧ (wayN idx p (k - 1)).map tD = tD (nodeB (p.sides.getD (k - 1) []) (shaB ((wayN idx p k).headD []))) :: (wayN idx p k).map tD := fun k h1 h2 hb => by
    rw [wayN_step idx p h1 h2, stepB, show ((k - 1 : Nat) : Int) = (k : Int) - 1 by omega, hb]; exact ⟨rfl, rfl⟩
  have hd0 : ∀ k, 0 < k → k ≤ p.sides.length → bitI idx ((k : Int) - 1) = false → (wayN idx p (k - 1)).headD [] = nodeB (shaB ((wayN idx p k).headD [])) (p.sides.getD (k - 1) []) ∧ (wayN idx p (k - 1)).map tD = tD (nodeB (shaB ((wayN idx p k).headD [])) (p.sides.getD (k - 1) [])) :: (wayN idx p k).map tD := fun k h1 h2 hb => by
    rw [wayN_step idx p h1 h2, stepB, show ((k - 1 : Nat) : Int) = (k : Int) - 1 by omega, hb]; exact ⟨rfl, rfl⟩
  refine vc_fn mixed Try.func35 rfl rfl [] (vc_chk rfl) ?_
  repeat' (first
      | ((with_reducible refine vc_chk ?_); first | decide +kernel | rfl)
      | (with_reducible refine vc_side0 ?_; rfl)
      | (with_reducible first
           | refine vc_true ?_ | refine vc_true2 ?_ | refine vc_side ?_ ?_ | refine vc_triv | refine vc_later ?_ | refine vc_caseT ?_ | refine vc_caseF ?_ | refine vc_cons ?_ | refine vc_nil ?_ ?_ | refine vc_seq ?_
              | refine vc_region ?_ | refine vc_cond ?_ | refine vc_block ?_ | refine vc_retc ?_ | refine vc_exit ?_ | refine vc_skip ?_ | refine vc_scope ?_ | refine vc_label ?_ | refine vc_goto ?_ | refine vc_wkSl0
              | refine vc_wkHp0 | refine vc_eqAVs0 | refine vc_preG0 | refine vc_wkSl ?_ ?_ | refine vc_wkHp ?_ ?_ | refine vc_eqAVs ?_ ?_ | refine vc_preG ?_ ?_ | refine vc_side0 ?_ | refine vc_pure e0 ?_ ?_ ?_
              | refine vc_pure e1 ?_ ?_ ?_ | refine vc_pure (cof k (by omega)) ?_ ?_ ?_ | refine vc_pure (cb k) ?_ ?_ ?_ | refine vc_call [] (cn1 k (by omega) (by omega) h) ?_ | refine vc_call [] (cn0 k (by omega) (by omega) h) ?_
              | refine vc_loopI 53 (fun (k : Nat) => [(2, .ptr 1000 []), (3, .ptr 1004 []), (5, .d (.sl (((wayN idx p k).headD []).map byteD))), (6, .sl 9 [] 1 0 ((wayN idx p k).map tD).length), (7, .d (.int .i64 ((k : Int) - 1)))]) (fun k => [(1000, .var (.d (digD idx))), (1004, .var (.d (pD p))), (9, .row 1 ((wayN idx p k).map tD))]) (fun k => k) (fun k => k ≤ p.sides.length) p.sides.length [(9, 5004)] ?_ ?_ ?_ ?_ ?_ (fun k hI => ?_)
              | refine vc_nextI (k - 1) [(9, 15008)] ?_ ?_ ?_ ?_ ?_ ?_ | refine vc_ret [true] [] ?_ | refine vc_weakf [] ?_ ?_ ?_ | refine vc_and ?_ ?_ | refine vc_ret [] [] ?_)
      | ((with_reducible first | refine vc_caseD (fun h => ?_) (fun h => ?_) | refine vc_caseN (fun h => ?_) (fun h => ?_)) <;> try (exfalso; omega))
      | ((with_reducible refine vc_case (fun h => ?_) (fun h => ?_)) <;> (try simp only [Bool.cond_true_left, Bool.cond_false_right, Bool.cond_true_right, Bool.cond_false_left, Bool.and_eq_true, Bool.or_eq_true, Bool.and_eq_false_iff, Bool.or_eq_false_iff, Bool.not_eq_true', Bool.not_eq_false', Bool.not_eq_true, Bool.not_eq_false, Bool.not_not, decide_eq_true_eq, decide_eq_false_iff_not, beq_iff_eq, beq_eq_false_iff_ne, bne_iff_ne, bne_eq_false_iff_eq, ne_eq, Classical.not_not, reduceCtorEq, false_or, or_false, true_and, and_true, Bool.false_eq_true, Bool.true_eq_false] at h) <;> try (exfalso; first | omega | (simp at h; done)))
      | (conv in Vc _ => arg 1; whnf
         first
          | (with_reducible refine vc_side0 ?_; rfl)
          | (with_reducible first
              | refine vc_true ?_ | refine vc_true2 ?_ | refine vc_side ?_ ?_ | refine vc_triv | refine vc_later ?_ | refine vc_caseT ?_ | refine vc_caseF ?_ | refine vc_cons ?_ | refine vc_nil ?_ ?_ | refine vc_seq ?_
                 | refine vc_region ?_ | refine vc_cond ?_ | refine vc_block ?_ | refine vc_retc ?_ | refine vc_exit ?_ | refine vc_skip ?_ | refine vc_scope ?_ | refine vc_label ?_ | refine vc_goto ?_ | refine vc_wkSl0
                 | refine vc_wkHp0 | refine vc_eqAVs0 | refine vc_preG0 | refine vc_wkSl ?_ ?_ | refine vc_wkHp ?_ ?_ | refine vc_eqAVs ?_ ?_ | refine vc_preG ?_ ?_ | refine vc_side0 ?_ | refine vc_pure e0 ?_ ?_ ?_
                 | refine vc_pure e1 ?_ ?_ ?_ | refine vc_pure (cof k (by omega)) ?_ ?_ ?_ | refine vc_pure (cb k) ?_ ?_ ?_ | refine vc_call [] (cn1 k (by omega) (by omega) h) ?_
                 | refine vc_call [] (cn0 k (by omega) (by omega) h) ?_
                 | refine vc_loopI 53 (fun (k : Nat) => [(2, .ptr 1000 []), (3, .ptr 1004 []), (5, .d (.sl (((wayN idx p k).headD []).map byteD))), (6, .sl 9 [] 1 0 ((wayN idx p k).map tD).length), (7, .d (.int .i64 ((k : Int) - 1)))]) (fun k => [(1000, .var (.d (digD idx))), (1004, .var (.d (pD p))), (9, .row 1 ((wayN idx p k).map tD))]) (fun k => k) (fun k => k ≤ p.sides.length) p.sides.length [(9, 5004)] ?_ ?_ ?_ ?_ ?_ (fun k hI => ?_)
                 | refine vc_nextI (k - 1) [(9, 15008)] ?_ ?_ ?_ ?_ ?_ ?_ | refine vc_ret [true] [] ?_ | refine vc_weakf [] ?_ ?_ ?_ | refine vc_and ?_ ?_ | refine vc_ret [] [] ?_)
          | ((with_reducible first | refine vc_caseD (fun h => ?_) (fun h => ?_) | refine vc_caseN (fun h => ?_) (fun h => ?_)) <;> try (exfalso; omega))
          | ((with_reducible refine vc_case (fun h => ?_) (fun h => ?_)) <;> (try simp only [Bool.cond_true_left, Bool.cond_false_right, Bool.cond_true_right, Bool.cond_false_left, Bool.and_eq_true, Bool.or_eq_true, Bool.and_eq_false_iff, Bool.or_eq_false_iff, Bool.not_eq_true', Bool.not_eq_false', Bool.not_eq_true, Bool.not_eq_false, Bool.not_not, decide_eq_true_eq, decide_eq_false_iff_not, beq_iff_eq, beq_eq_false_iff_ne, bne_iff_ne, bne_eq_false_iff_eq, ne_eq, Classical.not_not, reduceCtorEq, false_or, or_false, true_and, and_true, Bool.false_eq_true, Bool.true_eq_false] at h) <;> try (exfalso; first | omega | (simp at h; done)))))
  all_goals (try have hx1 : ((k : Int) - 1).toNat = k - 1 := (by omega))
  all_goals (try simp only [List.drop_zero, List.take_length])
  all_goals first
    | with_reducible rfl
    | omega
    | (rw [wayN_end]; unfold endB; rw [decide_eq_true h]; rfl)
    | (rw [wayN_end]; unfold endB; rw [decide_eq_false h]; rfl)
    | (rw [List.length_map, wrap64_id (by omega) (by omega)]; done)
    | exact ⟨⟨by omega, by omega⟩, by rw [hx1, side_at (by omega)]; rfl⟩
    | (rw [hx1, side_at (by omega)]; rfl)
    | exact ⟨⟨Nat.le_of_eq (Nat.zero_add _), by first | trivial | rfl, (by show Room ([tD _] ++ (wayN idx p k).map tD).length 24; unfold Room; rw [List.length_append, wl k hI]; show (1 + (p.sides.length - k + 1) + (1 + (p.sides.length - k + 1)) / 4 + 512) * 24 ≤ _; omega)⟩, fun y hy => (by obtain ⟨x, _, rfl⟩ := List.mem_map.1 hy; rfl)⟩
    | (show k - 1 < k; omega)
    | (rw [(hd1 k (by omega) hI h).1]; done)
    | (rw [(hd0 k (by omega) hI h).1]; done)
    | (rw [(hd1 k (by omega) hI h).2]; rfl)
    | (rw [(hd0 k (by omega) hI h).2]; rfl)
    | (rw [wrap64_id (by omega) (by omega)]; congr 1; omega)
    | (obtain rfl : k = 0 := (by omega); first | with_reducible rfl | trivial | exact ⟨Nat.le_of_eq (Nat.zero_add _), trivial⟩ | rfl)
    | trace_state

theorem rRoot8_ok (idx : List UInt8) (hx : idx.length = 32) (p : Prf) (hw : wfP p) (hl : p.sides.length ≤ 300) : LocalCall Try.prog 17 [.d (digD idx), .d (pD p)] [] [] (one [.d (digD (rootP idx p))]) [] := by
  have c1 := rHashed8_ok idx hx p hw hl
  have c2 := rOf_ok ((hashedP idx p).headD []) (Nat.lt_of_le_of_lt (hashedP_head idx hw) (by decide))
  have hp := hashedP_pos idx p
  refine vc_fn mixed Try.func17 rfl rfl [] (vc_chk rfl) ?_
  repeat' (first
      | ((with_reducible refine vc_chk ?_); first | decide +kernel | rfl)
      | (with_reducible refine vc_side0 ?_; rfl)
      | (with_reducible first
           | refine vc_true ?_ | refine vc_true2 ?_ | refine vc_side ?_ ?_ | refine vc_triv | refine vc_later ?_ | refine vc_caseT ?_ | refine vc_caseF ?_ | refine vc_cons ?_ | refine vc_nil ?_ ?_ | refine vc_seq ?_
              | refine vc_region ?_ | refine vc_cond ?_ | refine vc_block ?_ | refine vc_retc ?_ | refine vc_exit ?_ | refine vc_skip ?_ | refine vc_scope ?_ | refine vc_label ?_ | refine vc_goto ?_ | refine vc_wkSl0
              | refine vc_wkHp0 | refine vc_eqAVs0 | refine vc_preG0 | refine vc_wkSl ?_ ?_ | refine vc_wkHp ?_ ?_ | refine vc_eqAVs ?_ ?_ | refine vc_preG ?_ ?_ | refine vc_side0 ?_ | refine vc_pure c1 ?_ ?_ ?_
              | refine vc_call [] c2 ?_ | refine vc_weakf [] ?_ ?_ ?_ | refine vc_and ?_ ?_ | refine vc_ret [] [] ?_)
      | ((with_reducible first | refine vc_caseD (fun h => ?_) (fun h => ?_) | refine vc_caseN (fun h => ?_) (fun h => ?_)) <;> try (exfalso; omega))
      | ((with_reducible refine vc_case (fun h => ?_) (fun h => ?_)) <;> (try simp only [Bool.cond_true_left, Bool.cond_false_right, Bool.cond_true_right, Bool.cond_false_left, Bool.and_eq_true, Bool.or_eq_true, Bool.and_eq_false_iff, Bool.or_eq_false_iff, Bool.not_eq_true', Bool.not_eq_false', Bool.not_eq_true, Bool.not_eq_false, Bool.not_not, decide_eq_true_eq, decide_eq_false_iff_not, beq_iff_eq, beq_eq_false_iff_ne, bne_iff_ne, bne_eq_false_iff_eq, ne_eq, Classical.not_not, reduceCtorEq, false_or, or_false, true_and, and_true, Bool.false_eq_true, Bool.true_eq_false] at h) <;> try (exfalso; first | omega | (simp at h; done)))
      | (conv in Vc _ => arg 1; whnf
         first
          | (with_reducible refine vc_side0 ?_; rfl)
          | (with_reducible first
              | refine vc_true ?_ | refine vc_true2 ?_ | refine vc_side ?_ ?_ | refine vc_triv | refine vc_later ?_ | refine vc_caseT ?_ | refine vc_caseF ?_ | refine vc_cons ?_ | refine vc_nil ?_ ?_ | refine vc_seq ?_
                 | refine vc_region ?_ | refine vc_cond ?_ | refine vc_block ?_ | refine vc_retc ?_ | refine vc_exit ?_ | refine vc_skip ?_ | refine vc_scope ?_ | refine vc_label ?_ | refine vc_goto ?_ | refine vc_wkSl0
                 | refine vc_wkHp0 | refine vc_eqAVs0 | refine vc_preG0 | refine vc_wkSl ?_ ?_ | refine vc_wkHp ?_ ?_ | refine vc_eqAVs ?_ ?_ | refine vc_preG ?_ ?_ | refine vc_side0 ?_ | refine vc_pure c1 ?_ ?_ ?_
                 | refine vc_call [] c2 ?_ | refine vc_weakf [] ?_ ?_ ?_ | refine vc_and ?_ ?_ | refine vc_ret [] [] ?_)
          | ((with_reducible first | refine vc_caseD (fun h => ?_) (fun h => ?_) | refine vc_caseN (fun h => ?_) (fun h => ?_)) <;> try (exfalso; omega))
          | ((with_reducible refine vc_case (fun h => ?_) (fun h => ?_)) <;> (try simp only [Bool.cond_true_left, Bool.cond_false_right, Bool.cond_true_right, Bool.cond_false_left, Bool.and_eq_true, Bool.or_eq_true, Bool.and_eq_false_iff, Bool.or_eq_false_iff, Bool.not_eq_true', Bool.not_eq_false', Bool.not_eq_true, Bool.not_eq_false, Bool.not_not, decide_eq_true_eq, decide_eq_false_iff_not, beq_iff_eq, beq_eq_false_iff_ne, bne_iff_ne, bne_eq_false_iff_eq, ne_eq, Classical.not_not, reduceCtorEq, false_or, or_false, true_and, and_true, Bool.false_eq_true, Bool.true_eq_false] at h) <;> try (exfalso; first | omega | (simp at h; done)))))
  all_goals first
    | with_reducible rfl
    | omega
    | exact ⟨trivial, trivial⟩
    | exact ⟨trivial, trivial, trivial⟩
    | exact ⟨trivial, trivial, trivial, trivial⟩
    | exact ⟨⟨by decide, by decide, by decide⟩, trivial⟩
    | exact ⟨Nat.le_of_eq (Nat.zero_add _), trivial⟩
    | exact ⟨Nat.le_refl _, trivial, trivial⟩
    | (rw [wrap64_id (by omega) (by omega)]; rfl)
    | exact ⟨⟨by decide, by rw [List.length_map]; omega⟩, by rw [show Int.toNat 0 = 0 from rfl, head_at _ hp]; rfl⟩
    | (rw [show Int.toNat 0 = 0 from rfl, head_at _ hp]; rfl)
    | rfl
    | (exfalso; simp at h; done)
    | skip

end Go.Proofs.Ytdceegllpcepnaa
