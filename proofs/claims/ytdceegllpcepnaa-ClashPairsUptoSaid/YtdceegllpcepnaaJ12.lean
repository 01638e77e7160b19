import Derived.Test.YtdceegllpcepnaaJ1
import Derived.Test.YtdceegllpcepnaaJ2
import Derived.Test.YtdceegllpcepnaaJ3
import Derived.Test.YtdceegllpcepnaaJ4
import Derived.Test.YtdceegllpcepnaaJ5
import Derived.Test.YtdceegllpcepnaaJ6
import Derived.Test.YtdceegllpcepnaaJ7
import Derived.Test.YtdceegllpcepnaaJ8
import Derived.Test.YtdceegllpcepnaaJ9
import Derived.Test.YtdceegllpcepnaaJ10
import Derived.Test.YtdceegllpcepnaaJ11
set_option linter.unusedSimpArgs false
set_option linter.unusedVariables false
/-
Trees by definition, as the document's answer makes them: a leaf put, the way told.
-/
set_option linter.unusedSimpArgs false
set_option linter.unusedVariables false
namespace Go.Proofs.Ytdceegllpcepnaa
open Go.Sym
set_option maxRecDepth 10000
set_option maxHeartbeats 4000000

def restP (idx val : List UInt8) (b : Bool) (l : Lvs) : Lvs := bif b then l.filter fun y => !decide (y.1 = idx) else putL idx val l
def addP (idx val : List UInt8) (b : Bool) (x : List UInt8 × List UInt8) : Lvs := (bif !b && !lessB x.1 idx then [(idx, val)] else []) ++ (bif !decide (x.1 = idx) then [x] else [])
theorem restP_step (idx val : List UInt8) (b : Bool) (x : List UInt8 × List UInt8) (l : Lvs) : restP idx val b (x :: l) = addP idx val b x ++ restP idx val (b || !lessB x.1 idx) l := by
  cases b with
  | true =>
    unfold restP addP
    simp only [cond_true, Bool.true_or, Bool.not_true, Bool.false_and, cond_false, List.nil_append]
    by_cases e : x.1 = idx
    · rw [List.filter_cons_of_neg (by simp [e])]; simp [e]
    · rw [List.filter_cons_of_pos (by simp [e])]; simp [e]
  | false =>
    unfold restP addP
    simp only [cond_false, Bool.false_or, Bool.not_false, Bool.true_and]
    cases hb : lessB x.1 idx with
    | true =>
      have e : ¬ x.1 = idx := fun e => by rw [e, less_self] at hb; cases hb
      simp only [putL, hb, cond_true, Bool.not_true, cond_false, List.nil_append]
      simp [e]
    | false =>
      simp only [putL, hb, cond_false, Bool.not_false, cond_true]
      by_cases e : x.1 = idx
      · rw [List.filter_cons_of_neg (by simp [e])]; simp [e]
      · rw [List.filter_cons_of_pos (by simp [e])]; simp [e]

structure PutI (l : Lvs) (idx val : List UInt8) (x : Nat × Bool × Lvs) : Prop where
  hi : x.1 ≤ l.length
  eq : putL idx val l = x.2.2 ++ restP idx val x.2.1 (l.drop x.1)
  len : x.2.2.length ≤ 2 * x.1
theorem PutI.next {l : Lvs} {idx val : List UInt8} {x : Nat × Bool × Lvs} (h : PutI l idx val x) (hi : x.1 < l.length) :
    PutI l idx val (x.1 + 1, x.2.1 || !lessB (l.getD x.1 lf0).1 idx, x.2.2 ++ addP idx val x.2.1 (l.getD x.1 lf0)) := by
  refine ⟨hi, ?_, ?_⟩
  · have hd : l.drop x.1 = l.getD x.1 lf0 :: l.drop (x.1 + 1) := by
      rw [List.drop_eq_getElem_cons hi, List.getD_eq_getElem?_getD, List.getElem?_eq_getElem hi]; rfl
    rw [h.eq, hd, restP_step, List.append_assoc]
  · have := h.len
    have h2 : (addP idx val x.2.1 (l.getD x.1 lf0)).length ≤ 2 := by
      unfold addP
      cases !x.2.1 && !lessB (l.getD x.1 lf0).1 idx <;> cases !decide ((l.getD x.1 lf0).1 = idx) <;> simp
    simp only [List.length_append]; omega

section
variable {idx val : List UInt8} {b : Bool} {x : List UInt8 × List UInt8}
theorem addP_a (h1 : b = false) (h2 : lessB x.1 idx = false) (h3 : ¬ x.1 = idx) : addP idx val b x = [(idx, val), x] := by simp [addP, h1, h2, h3]
theorem addP_b (h1 : b = false) (h2 : lessB x.1 idx = false) (h3 : x.1 = idx) : addP idx val b x = [(idx, val)] := by unfold addP; rw [h1, h2, decide_eq_true h3]; rfl
theorem addP_c (h1 : b = true) (h3 : ¬ x.1 = idx) : addP idx val b x = [x] := by simp [addP, h1, h3]
theorem addP_d (h1 : b = false) (h2 : lessB x.1 idx = true) (h3 : ¬ x.1 = idx) : addP idx val b x = [x] := by simp [addP, h1, h2, h3]
theorem addP_e (h1 : b = true) (h3 : x.1 = idx) : addP idx val b x = [] := by unfold addP; rw [h1, decide_eq_true h3]; rfl
theorem addP_f (h1 : b = false) (h2 : lessB x.1 idx = true) (h3 : x.1 = idx) : addP idx val b x = [] := by unfold addP; rw [h1, h2, decide_eq_true h3]; rfl
end
theorem boolA {b c : Bool} (h1 : b = false) (h2 : c = false) : D.bool true = D.bool (b || !c) := by rw [h1, h2]; rfl
theorem boolB {b c : Bool} (h1 : b = false) (h2 : c = true) : D.bool b = D.bool (b || !c) := by rw [h1, h2]; rfl
theorem boolC {b c : Bool} (h1 : b = true) : D.bool b = D.bool (b || !c) := by rw [h1]; rfl
theorem keys_1 (O : Lvs) (x : List UInt8 × List UInt8) : (keysL (O ++ [x])).map digD = (keysL O).map digD ++ [digD x.1] := by simp [keysL]
theorem vals_1 (O : Lvs) (x : List UInt8 × List UInt8) : (valsL (O ++ [x])).map digD = (valsL O).map digD ++ [digD x.2] := by simp [valsL]
theorem keys_2 (O : Lvs) (x y : List UInt8 × List UInt8) : (keysL (O ++ [x, y])).map digD = (keysL O).map digD ++ [digD x.1] ++ [digD y.1] := by simp [keysL]
theorem vals_2 (O : Lvs) (x y : List UInt8 × List UInt8) : (valsL (O ++ [x, y])).map digD = (valsL O).map digD ++ [digD x.2] ++ [digD y.2] := by simp [valsL]
theorem putI_no {l : Lvs} {idx val : List UInt8} {x : Nat × Bool × Lvs} (h : PutI l idx val x) (hb : x.2.1 = false) (hi : l.length ≤ x.1) : putL idx val l = x.2.2 ++ [(idx, val)] := by
  rw [h.eq, hb, List.drop_eq_nil_of_le hi]; rfl
theorem putI_yes {l : Lvs} {idx val : List UInt8} {x : Nat × Bool × Lvs} (h : PutI l idx val x) (hb : x.2.1 = true) (hi : l.length ≤ x.1) : putL idx val l = x.2.2 := by
  rw [h.eq, hb, List.drop_eq_nil_of_le hi]; exact List.append_nil _

theorem put_ok (l : Lvs) (hw : wfL l) (hl : l.length ≤ 1000) (idx val : List UInt8) (hx : idx.length = 32) (hv : val.length = 32) : LocalCall Try.prog 39 [.d (lvD l), .d (digD idx), .d (digD val)] [] [] (one [.d (lvD (putL idx val l))]) [] := by
  have lk : ((keysL l).map digD).length = l.length := by rw [List.length_map, keysL_length]
  have lv : ((valsL l).map digD).length = l.length := by rw [List.length_map, valsL_length]
  have cl : ∀ i, i < l.length → _ := fun i hi => rLess_ok ((l.getD i lf0).1.map byteD) (idx.map byteD) (l.getD i lf0).1 idx rfl rfl (leaf_wf hw hi).1 hx
  refine vc_fn mixed Try.func39 rfl rfl [(500001, [1000000032000000009000002004, 2000000032000000010000002004])] (vc_chk rfl) ?_
  repeat' (first
      | ((with_reducible refine vc_chk ?_); first | decide +kernel | rfl)
      | (with_reducible refine vc_side0 ?_; rfl)
      | (with_reducible first
           | refine vc_true ?_ | refine vc_true2 ?_ | refine vc_side ?_ ?_ | refine vc_triv | refine vc_later ?_ | refine vc_caseT ?_ | refine vc_caseF ?_ | refine vc_cons ?_ | refine vc_nil ?_ ?_ | refine vc_seq ?_
              | refine vc_region ?_ | refine vc_cond ?_ | refine vc_block ?_ | refine vc_retc ?_ | refine vc_exit ?_ | refine vc_skip ?_ | refine vc_scope ?_ | refine vc_label ?_ | refine vc_goto ?_ | refine vc_wkSl0
              | refine vc_wkHp0 | refine vc_eqAVs0 | refine vc_preG0 | refine vc_wkSl ?_ ?_ | refine vc_wkHp ?_ ?_ | refine vc_eqAVs ?_ ?_ | refine vc_preG ?_ ?_ | refine vc_side0 ?_ | refine vc_call [] (cl x.1 (by omega)) ?_
              | refine vc_loopI 84 (fun (x : Nat × Bool × Lvs) => [(3, .ptr 1000 []), (4, .ptr 1004 []), (5, .ptr 1008 []), (6, .ptr 1012 []), (7, .ptr 2004 []), (8, .d (.bool x.2.1)), (9, .d (.int .i64 (x.1 : Int)))]) (fun x => [(1000, .var (.d (lvD l))), (1004, .var (.d (digD idx))), (1008, .var (.d (digD val))), (1012, .var (.d (.st [.nils, .nils]))), (2004, .var (.st [.sl 9 [] 32 0 ((keysL x.2.2).map digD).length, .sl 10 [] 32 0 ((valsL x.2.2).map digD).length])), (9, .row 32 ((keysL x.2.2).map digD)), (10, .row 32 ((valsL x.2.2).map digD))]) (fun x => l.length - x.1) (PutI l idx val) (0, false, []) [] ?_ ?_ ?_ ?_ ?_ (fun x hI => ?_)
              | refine vc_nextAt (x.1 + 1, x.2.1 || !lessB (l.getD x.1 lf0).1 idx, x.2.2 ++ addP idx val x.2.1 (l.getD x.1 lf0)) [(9, 12032), (10, 13032)] 12032 (by with_unfolding_all rfl) ?_ ?_ ?_ ?_ ?_ ?_
              | refine vc_nextAt (x.1 + 1, x.2.1 || !lessB (l.getD x.1 lf0).1 idx, x.2.2 ++ addP idx val x.2.1 (l.getD x.1 lf0)) [(9, 8016), (10, 9016)] 8016 (by with_unfolding_all rfl) ?_ ?_ ?_ ?_ ?_ ?_
              | refine vc_nextI (x.1 + 1, x.2.1 || !lessB (l.getD x.1 lf0).1 idx, x.2.2 ++ addP idx val x.2.1 (l.getD x.1 lf0)) [] ?_ ?_ ?_ ?_ ?_ ?_ | refine vc_ret [true] [] ?_ | refine vc_weakf [] ?_ ?_ ?_ | refine vc_and ?_ ?_
              | refine vc_ret [] [] ?_)
      | ((with_reducible first | refine vc_caseD (fun h => ?_) (fun h => ?_) | refine vc_caseN (fun h => ?_) (fun h => ?_)) <;> try (exfalso; omega))
      | ((with_reducible refine vc_case (fun h => ?_) (fun h => ?_)) <;> (try simp only [Bool.cond_true_left, Bool.cond_false_right, Bool.cond_true_right, Bool.cond_false_left, Bool.and_eq_true, Bool.or_eq_true, Bool.and_eq_false_iff, Bool.or_eq_false_iff, Bool.not_eq_true', Bool.not_eq_false', Bool.not_eq_true, Bool.not_eq_false, Bool.not_not, decide_eq_true_eq, decide_eq_false_iff_not, beq_iff_eq, beq_eq_false_iff_ne, bne_iff_ne, bne_eq_false_iff_eq, ne_eq, Classical.not_not, reduceCtorEq, false_or, or_false, true_and, and_true, Bool.false_eq_true, Bool.true_eq_false] at h) <;> try (exfalso; first | omega | (simp at h; done)))
      | (conv in Vc _ => arg 1; whnf
         first
          | (with_reducible refine vc_side0 ?_; rfl)
          | (with_reducible first
              | refine vc_true ?_ | refine vc_true2 ?_ | refine vc_side ?_ ?_ | refine vc_triv | refine vc_later ?_ | refine vc_caseT ?_ | refine vc_caseF ?_ | refine vc_cons ?_ | refine vc_nil ?_ ?_ | refine vc_seq ?_
                 | refine vc_region ?_ | refine vc_cond ?_ | refine vc_block ?_ | refine vc_retc ?_ | refine vc_exit ?_ | refine vc_skip ?_ | refine vc_scope ?_ | refine vc_label ?_ | refine vc_goto ?_ | refine vc_wkSl0
                 | refine vc_wkHp0 | refine vc_eqAVs0 | refine vc_preG0 | refine vc_wkSl ?_ ?_ | refine vc_wkHp ?_ ?_ | refine vc_eqAVs ?_ ?_ | refine vc_preG ?_ ?_ | refine vc_side0 ?_ | refine vc_call [] (cl x.1 (by omega)) ?_
                 | refine vc_loopI 84 (fun (x : Nat × Bool × Lvs) => [(3, .ptr 1000 []), (4, .ptr 1004 []), (5, .ptr 1008 []), (6, .ptr 1012 []), (7, .ptr 2004 []), (8, .d (.bool x.2.1)), (9, .d (.int .i64 (x.1 : Int)))]) (fun x => [(1000, .var (.d (lvD l))), (1004, .var (.d (digD idx))), (1008, .var (.d (digD val))), (1012, .var (.d (.st [.nils, .nils]))), (2004, .var (.st [.sl 9 [] 32 0 ((keysL x.2.2).map digD).length, .sl 10 [] 32 0 ((valsL x.2.2).map digD).length])), (9, .row 32 ((keysL x.2.2).map digD)), (10, .row 32 ((valsL x.2.2).map digD))]) (fun x => l.length - x.1) (PutI l idx val) (0, false, []) [] ?_ ?_ ?_ ?_ ?_ (fun x hI => ?_)
                 | refine vc_nextAt (x.1 + 1, x.2.1 || !lessB (l.getD x.1 lf0).1 idx, x.2.2 ++ addP idx val x.2.1 (l.getD x.1 lf0)) [(9, 12032), (10, 13032)] 12032 (by with_unfolding_all rfl) ?_ ?_ ?_ ?_ ?_ ?_
                 | refine vc_nextAt (x.1 + 1, x.2.1 || !lessB (l.getD x.1 lf0).1 idx, x.2.2 ++ addP idx val x.2.1 (l.getD x.1 lf0)) [(9, 8016), (10, 9016)] 8016 (by with_unfolding_all rfl) ?_ ?_ ?_ ?_ ?_ ?_
                 | refine vc_nextI (x.1 + 1, x.2.1 || !lessB (l.getD x.1 lf0).1 idx, x.2.2 ++ addP idx val x.2.1 (l.getD x.1 lf0)) [] ?_ ?_ ?_ ?_ ?_ ?_ | refine vc_ret [true] [] ?_ | refine vc_weakf [] ?_ ?_ ?_
                 | refine vc_and ?_ ?_ | refine vc_ret [] [] ?_)
          | ((with_reducible first | refine vc_caseD (fun h => ?_) (fun h => ?_) | refine vc_caseN (fun h => ?_) (fun h => ?_)) <;> try (exfalso; omega))
          | ((with_reducible refine vc_case (fun h => ?_) (fun h => ?_)) <;> (try simp only [Bool.cond_true_left, Bool.cond_false_right, Bool.cond_true_right, Bool.cond_false_left, Bool.and_eq_true, Bool.or_eq_true, Bool.and_eq_false_iff, Bool.or_eq_false_iff, Bool.not_eq_true', Bool.not_eq_false', Bool.not_eq_true, Bool.not_eq_false, Bool.not_not, decide_eq_true_eq, decide_eq_false_iff_not, beq_iff_eq, beq_eq_false_iff_ne, bne_iff_ne, bne_eq_false_iff_eq, ne_eq, Classical.not_not, reduceCtorEq, false_or, or_false, true_and, and_true, Bool.false_eq_true, Bool.true_eq_false] at h) <;> try (exfalso; first | omega | (simp at h; done)))))
  all_goals (try have hi : x.1 < l.length := (by omega))
  all_goals (try simp only [Int.toNat_natCast, key_at hi, val_at hi] at h ⊢)
  all_goals (try simp only [List.drop_zero, List.take_length])
  all_goals (try have hd := dgDiff h)
  all_goals (try have hs := dgSame h)
  all_goals first
    | with_reducible rfl
    | omega
    | exact ⟨Nat.zero_le _, rfl, Nat.zero_le _⟩
    | exact hI.next hi
    | exact ⟨⟨by omega, by omega⟩, rfl⟩
    | exact ⟨fits_dig 6 _, fits_dig 6 _⟩
    | exact ⟨⟨Nat.le_of_eq (Nat.zero_add _), by first | trivial | rfl, room32' (by simp only [List.length_append, List.length_map, keysL_length, valsL_length, List.length_cons, List.length_nil]; have := hI.len; have := hI.hi; omega)⟩, fun y hy => (by rw [List.mem_singleton.1 hy]; rfl)⟩
    | (show l.length - (x.1 + 1) < l.length - x.1; omega)
    | (rw [wrap64_id (by omega) (by omega)]; rfl)
    | exact boolA (by assumption) (by assumption)
    | exact boolB (by assumption) (by assumption)
    | exact boolC (by assumption)
    | rfl
    | (rw [addP_a (by assumption) (by assumption) hd, keys_2]; first | done | rfl)
    | (rw [addP_a (by assumption) (by assumption) hd, vals_2]; first | done | rfl)
    | (show AV.st [AV.sl _ [] 32 0 _, AV.sl _ [] 32 0 _] = AV.st [AV.sl _ [] 32 0 _, AV.sl _ [] 32 0 _]; rw [addP_a (by assumption) (by assumption) hd, keys_2, vals_2]; first | done | rfl)
    | (rw [addP_b (by assumption) (by assumption) hs, keys_1]; first | done | rfl)
    | (rw [addP_b (by assumption) (by assumption) hs, vals_1]; first | done | rfl)
    | (show AV.st [AV.sl _ [] 32 0 _, AV.sl _ [] 32 0 _] = AV.st [AV.sl _ [] 32 0 _, AV.sl _ [] 32 0 _]; rw [addP_b (by assumption) (by assumption) hs, keys_1, vals_1]; first | done | rfl)
    | (rw [addP_c (by assumption) hd, keys_1]; first | done | rfl)
    | (rw [addP_c (by assumption) hd, vals_1]; first | done | rfl)
    | (show AV.st [AV.sl _ [] 32 0 _, AV.sl _ [] 32 0 _] = AV.st [AV.sl _ [] 32 0 _, AV.sl _ [] 32 0 _]; rw [addP_c (by assumption) hd, keys_1, vals_1]; first | done | rfl)
    | (rw [addP_d (by assumption) (by assumption) hd, keys_1]; first | done | rfl)
    | (rw [addP_d (by assumption) (by assumption) hd, vals_1]; first | done | rfl)
    | (show AV.st [AV.sl _ [] 32 0 _, AV.sl _ [] 32 0 _] = AV.st [AV.sl _ [] 32 0 _, AV.sl _ [] 32 0 _]; rw [addP_d (by assumption) (by assumption) hd, keys_1, vals_1]; first | done | rfl)
    | (rw [addP_e (by assumption) hs, List.append_nil]; first | done | rfl)
    | (rw [addP_f (by assumption) (by assumption) hs, List.append_nil]; first | done | rfl)
    | (show D.st [D.sl _, D.sl _] = _; rw [putI_no hI (by assumption) (by omega)]; simp only [keys_1, vals_1]; first | done | rfl)
    | (show D.st [D.sl _, D.sl _] = _; rw [putI_yes hI (by assumption) (by omega)]; first | done | rfl)
    | exact ⟨⟨Nat.le_of_eq (Nat.zero_add _), Nat.le_of_eq (Nat.zero_add _), trivial⟩, trivial⟩
    | trace_state

end Go.Proofs.Ytdceegllpcepnaa
