import Derived.Test.YtpeglanfbmpoeaaJ1
import Derived.Test.YtpeglanfbmpoeaaJ2
import Derived.Test.YtpeglanfbmpoeaaJ3
import Derived.Test.YtpeglanfbmpoeaaJ4
import Derived.Test.YtpeglanfbmpoeaaJ5
import Derived.Test.YtpeglanfbmpoeaaJ6
import Derived.Test.YtpeglanfbmpoeaaJ7
import Derived.Test.YtpeglanfbmpoeaaJ8
import Derived.Test.YtpeglanfbmpoeaaJ9
import Derived.Test.YtpeglanfbmpoeaaJ10
import Derived.Test.YtpeglanfbmpoeaaJ11
import Derived.Test.YtpeglanfbmpoeaaJ12
import Derived.Test.YtpeglanfbmpoeaaJ13
import Derived.Test.YtpeglanfbmpoeaaJ14
set_option linter.unusedSimpArgs false
set_option linter.unusedVariables false
/-
A way with a side less, or a side more, than a tree tells.
-/
set_option linter.unusedSimpArgs false
set_option linter.unusedVariables false
namespace Go.Proofs.Ytpeglanfbmpoeaa
open Go.Sym
set_option maxRecDepth 10000
set_option maxHeartbeats 4000000

theorem tDe (v : List UInt8) : (tD v).els = v.map byteD := rfl
theorem pair_yes {a b : List UInt8} (h1 : ¬ a = b) (h2 : shaB a = shaB b) : pairB a b = true := by unfold pairB; rw [decide_eq_false h1, decide_eq_true h2]; rfl
theorem pair_no {a b : List UInt8} (h : a = b ∨ ¬ shaB a = shaB b) : pairB a b = false := by
  unfold pairB
  rcases h with h | h
  · rw [decide_eq_true h]; rfl
  · rw [decide_eq_false h, Bool.and_false]

theorem two_ok (a b : List (List UInt8)) (ha : ∀ t, t ∈ a → t.length ≤ 65) (hb : ∀ t, t ∈ b → t.length ≤ 65) (hl : a.length < 2 ^ 62) : LocalCall Try.prog 22 [.d (.sl (a.map tD)), .d (.sl (b.map tD))] [] [] (one [.d (.bool (twoB a b))]) [] := by
  have la : (a.map tD).length = a.length := List.length_map _
  have lb : (b.map tD).length = b.length := List.length_map _
  have at' : ∀ i, i < a.length → (a.map tD).getD i .nilp = tD (a.getD i []) := fun i hi => (map_at (f := tD) (d := []) hi).1
  have bt : ∀ i, i < b.length → (b.map tD).getD i .nilp = tD (b.getD i []) := fun i hi => (map_at (f := tD) (d := []) hi).1
  have ma : ∀ i, i < a.length → (a.getD i []).length ≤ 65 := fun i hi => ha _ (by rw [List.getD_eq_getElem?_getD, List.getElem?_eq_getElem hi]; simp)
  have mb : ∀ i, i < b.length → (b.getD i []).length ≤ 65 := fun i hi => hb _ (by rw [List.getD_eq_getElem?_getD, List.getElem?_eq_getElem hi]; simp)
  have ca : ∀ i, i < a.length → _ := fun i hi => rOf_ok (a.getD i []) (Nat.lt_of_le_of_lt (ma i hi) (by decide))
  have cb : ∀ i, i < b.length → _ := fun i hi => rOf_ok (b.getD i []) (Nat.lt_of_le_of_lt (mb i hi) (by decide))
  refine vc_fn mixed Try.func22 rfl rfl [] (vc_chk rfl) ?_
  repeat' (first
      | ((with_reducible refine vc_chk ?_); first | decide +kernel | rfl)
      | (with_reducible refine vc_side0 ?_; rfl)
      | (with_reducible first
           | refine vc_true ?_ | refine vc_true2 ?_ | refine vc_side ?_ ?_ | refine vc_triv | refine vc_later ?_ | refine vc_caseT ?_ | refine vc_caseF ?_ | refine vc_cons ?_ | refine vc_nil ?_ ?_ | refine vc_seq ?_
              | refine vc_region ?_ | refine vc_cond ?_ | refine vc_block ?_ | refine vc_retc ?_ | refine vc_exit ?_ | refine vc_skip ?_ | refine vc_scope ?_ | refine vc_label ?_ | refine vc_goto ?_ | refine vc_wkSl0
              | refine vc_wkHp0 | refine vc_eqAVs0 | refine vc_preG0 | refine vc_wkSl ?_ ?_ | refine vc_wkHp ?_ ?_ | refine vc_eqAVs ?_ ?_ | refine vc_preG ?_ ?_ | refine vc_side0 ?_
              | refine vc_loopI 42 (fun (i : Nat) => [(0, .d (.sl (a.map tD))), (1, .d (.sl (b.map tD))), (5, .d (.int .i64 (i : Int)))]) (fun _ => []) (fun i => a.length - i) (fun i => i ≤ a.length ∧ twoB a b = twoB (a.drop i) (b.drop i)) 0 [] ?_ ?_ ?_ ?_ ?_ (fun i hI => ?_)
              | refine vc_nextI (i + 1) [] ?_ ?_ ?_ ?_ ?_ ?_ | refine vc_weakf [] ?_ ?_ ?_ | refine vc_and ?_ ?_ | refine vc_ret [] [] ?_)
      | ((with_reducible first | refine vc_caseD (fun h => ?_) (fun h => ?_) | refine vc_caseN (fun h => ?_) (fun h => ?_)) <;> try (exfalso; omega))
      | ((with_reducible refine vc_case (fun h => ?_) (fun h => ?_)) <;> (try simp only [Bool.cond_true_left, Bool.cond_false_right, Bool.cond_true_right, Bool.cond_false_left, Bool.and_eq_true, Bool.or_eq_true, Bool.and_eq_false_iff, Bool.or_eq_false_iff, Bool.not_eq_true', Bool.not_eq_false', Bool.not_eq_true, Bool.not_eq_false, Bool.not_not, decide_eq_true_eq, decide_eq_false_iff_not, beq_iff_eq, beq_eq_false_iff_ne, bne_iff_ne, bne_eq_false_iff_eq, ne_eq, Classical.not_not, reduceCtorEq, false_or, or_false, true_and, and_true, Bool.false_eq_true, Bool.true_eq_false] at h) <;> try (exfalso; first | omega | (simp at h; done)))
      | (conv in Vc _ => arg 1; whnf
         first
          | (with_reducible refine vc_side0 ?_; rfl)
          | (with_reducible first
              | refine vc_true ?_ | refine vc_true2 ?_ | refine vc_side ?_ ?_ | refine vc_triv | refine vc_later ?_ | refine vc_caseT ?_ | refine vc_caseF ?_ | refine vc_cons ?_ | refine vc_nil ?_ ?_ | refine vc_seq ?_
                 | refine vc_region ?_ | refine vc_cond ?_ | refine vc_block ?_ | refine vc_retc ?_ | refine vc_exit ?_ | refine vc_skip ?_ | refine vc_scope ?_ | refine vc_label ?_ | refine vc_goto ?_ | refine vc_wkSl0
                 | refine vc_wkHp0 | refine vc_eqAVs0 | refine vc_preG0 | refine vc_wkSl ?_ ?_ | refine vc_wkHp ?_ ?_ | refine vc_eqAVs ?_ ?_ | refine vc_preG ?_ ?_ | refine vc_side0 ?_
                 | refine vc_loopI 42 (fun (i : Nat) => [(0, .d (.sl (a.map tD))), (1, .d (.sl (b.map tD))), (5, .d (.int .i64 (i : Int)))]) (fun _ => []) (fun i => a.length - i) (fun i => i ≤ a.length ∧ twoB a b = twoB (a.drop i) (b.drop i)) 0 [] ?_ ?_ ?_ ?_ ?_ (fun i hI => ?_)
                 | refine vc_nextI (i + 1) [] ?_ ?_ ?_ ?_ ?_ ?_ | refine vc_weakf [] ?_ ?_ ?_ | refine vc_and ?_ ?_ | refine vc_ret [] [] ?_)
          | ((with_reducible first | refine vc_caseD (fun h => ?_) (fun h => ?_) | refine vc_caseN (fun h => ?_) (fun h => ?_)) <;> try (exfalso; omega))
          | ((with_reducible refine vc_case (fun h => ?_) (fun h => ?_)) <;> (try simp only [Bool.cond_true_left, Bool.cond_false_right, Bool.cond_true_right, Bool.cond_false_left, Bool.and_eq_true, Bool.or_eq_true, Bool.and_eq_false_iff, Bool.or_eq_false_iff, Bool.not_eq_true', Bool.not_eq_false', Bool.not_eq_true, Bool.not_eq_false, Bool.not_not, decide_eq_true_eq, decide_eq_false_iff_not, beq_iff_eq, beq_eq_false_iff_ne, bne_iff_ne, bne_eq_false_iff_eq, ne_eq, Classical.not_not, reduceCtorEq, false_or, or_false, true_and, and_true, Bool.false_eq_true, Bool.true_eq_false] at h) <;> try (exfalso; first | omega | (simp at h; done)))))
  any_goals (conv in Vc _ => arg 1; whnf)
  any_goals (refine vc_call [] (ca i (by omega)) ?_)
  repeat' (first
      | ((with_reducible refine vc_chk ?_); first | decide +kernel | rfl)
      | (with_reducible refine vc_side0 ?_; rfl)
      | (with_reducible first
           | refine vc_true ?_ | refine vc_true2 ?_ | refine vc_side ?_ ?_ | refine vc_triv | refine vc_later ?_ | refine vc_caseT ?_ | refine vc_caseF ?_ | refine vc_cons ?_ | refine vc_nil ?_ ?_ | refine vc_seq ?_
              | refine vc_region ?_ | refine vc_cond ?_ | refine vc_block ?_ | refine vc_retc ?_ | refine vc_exit ?_ | refine vc_skip ?_ | refine vc_scope ?_ | refine vc_label ?_ | refine vc_goto ?_ | refine vc_wkSl0
              | refine vc_wkHp0 | refine vc_eqAVs0 | refine vc_preG0 | refine vc_wkSl ?_ ?_ | refine vc_wkHp ?_ ?_ | refine vc_eqAVs ?_ ?_ | refine vc_preG ?_ ?_ | refine vc_side0 ?_ | refine vc_nextI (i + 1) [] ?_ ?_ ?_ ?_ ?_ ?_
              | refine vc_weakf [] ?_ ?_ ?_ | refine vc_and ?_ ?_ | refine vc_ret [] [] ?_)
      | ((with_reducible first | refine vc_caseD (fun h => ?_) (fun h => ?_) | refine vc_caseN (fun h => ?_) (fun h => ?_)) <;> try (exfalso; omega))
      | ((with_reducible refine vc_case (fun h => ?_) (fun h => ?_)) <;> (try simp only [Bool.cond_true_left, Bool.cond_false_right, Bool.cond_true_right, Bool.cond_false_left, Bool.and_eq_true, Bool.or_eq_true, Bool.and_eq_false_iff, Bool.or_eq_false_iff, Bool.not_eq_true', Bool.not_eq_false', Bool.not_eq_true, Bool.not_eq_false, Bool.not_not, decide_eq_true_eq, decide_eq_false_iff_not, beq_iff_eq, beq_eq_false_iff_ne, bne_iff_ne, bne_eq_false_iff_eq, ne_eq, Classical.not_not, reduceCtorEq, false_or, or_false, true_and, and_true, Bool.false_eq_true, Bool.true_eq_false] at h) <;> try (exfalso; first | omega | (simp at h; done)))
      | (conv in Vc _ => arg 1; whnf
         first
          | (with_reducible refine vc_side0 ?_; rfl)
          | (with_reducible first
              | refine vc_true ?_ | refine vc_true2 ?_ | refine vc_side ?_ ?_ | refine vc_triv | refine vc_later ?_ | refine vc_caseT ?_ | refine vc_caseF ?_ | refine vc_cons ?_ | refine vc_nil ?_ ?_ | refine vc_seq ?_
                 | refine vc_region ?_ | refine vc_cond ?_ | refine vc_block ?_ | refine vc_retc ?_ | refine vc_exit ?_ | refine vc_skip ?_ | refine vc_scope ?_ | refine vc_label ?_ | refine vc_goto ?_ | refine vc_wkSl0
                 | refine vc_wkHp0 | refine vc_eqAVs0 | refine vc_preG0 | refine vc_wkSl ?_ ?_ | refine vc_wkHp ?_ ?_ | refine vc_eqAVs ?_ ?_ | refine vc_preG ?_ ?_ | refine vc_side0 ?_
                 | refine vc_nextI (i + 1) [] ?_ ?_ ?_ ?_ ?_ ?_ | refine vc_weakf [] ?_ ?_ ?_ | refine vc_and ?_ ?_ | refine vc_ret [] [] ?_)
          | ((with_reducible first | refine vc_caseD (fun h => ?_) (fun h => ?_) | refine vc_caseN (fun h => ?_) (fun h => ?_)) <;> try (exfalso; omega))
          | ((with_reducible refine vc_case (fun h => ?_) (fun h => ?_)) <;> (try simp only [Bool.cond_true_left, Bool.cond_false_right, Bool.cond_true_right, Bool.cond_false_left, Bool.and_eq_true, Bool.or_eq_true, Bool.and_eq_false_iff, Bool.or_eq_false_iff, Bool.not_eq_true', Bool.not_eq_false', Bool.not_eq_true, Bool.not_eq_false, Bool.not_not, decide_eq_true_eq, decide_eq_false_iff_not, beq_iff_eq, beq_eq_false_iff_ne, bne_iff_ne, bne_eq_false_iff_eq, ne_eq, Classical.not_not, reduceCtorEq, false_or, or_false, true_and, and_true, Bool.false_eq_true, Bool.true_eq_false] at h) <;> try (exfalso; first | omega | (simp at h; done)))))
  any_goals (conv in Vc _ => arg 1; whnf)
  any_goals (refine vc_call [] (cb i (by omega)) ?_)
  repeat' (first
      | ((with_reducible refine vc_chk ?_); first | decide +kernel | rfl)
      | (with_reducible refine vc_side0 ?_; rfl)
      | (with_reducible first
           | refine vc_true ?_ | refine vc_true2 ?_ | refine vc_side ?_ ?_ | refine vc_triv | refine vc_later ?_ | refine vc_caseT ?_ | refine vc_caseF ?_ | refine vc_cons ?_ | refine vc_nil ?_ ?_ | refine vc_seq ?_
              | refine vc_region ?_ | refine vc_cond ?_ | refine vc_block ?_ | refine vc_retc ?_ | refine vc_exit ?_ | refine vc_skip ?_ | refine vc_scope ?_ | refine vc_label ?_ | refine vc_goto ?_ | refine vc_wkSl0
              | refine vc_wkHp0 | refine vc_eqAVs0 | refine vc_preG0 | refine vc_wkSl ?_ ?_ | refine vc_wkHp ?_ ?_ | refine vc_eqAVs ?_ ?_ | refine vc_preG ?_ ?_ | refine vc_side0 ?_ | refine vc_nextI (i + 1) [] ?_ ?_ ?_ ?_ ?_ ?_
              | refine vc_weakf [] ?_ ?_ ?_ | refine vc_and ?_ ?_ | refine vc_ret [] [] ?_)
      | ((with_reducible first | refine vc_caseD (fun h => ?_) (fun h => ?_) | refine vc_caseN (fun h => ?_) (fun h => ?_)) <;> try (exfalso; omega))
      | ((with_reducible refine vc_case (fun h => ?_) (fun h => ?_)) <;> (try simp only [Bool.cond_true_left, Bool.cond_false_right, Bool.cond_true_right, Bool.cond_false_left, Bool.and_eq_true, Bool.or_eq_true, Bool.and_eq_false_iff, Bool.or_eq_false_iff, Bool.not_eq_true', Bool.not_eq_false', Bool.not_eq_true, Bool.not_eq_false, Bool.not_not, decide_eq_true_eq, decide_eq_false_iff_not, beq_iff_eq, beq_eq_false_iff_ne, bne_iff_ne, bne_eq_false_iff_eq, ne_eq, Classical.not_not, reduceCtorEq, false_or, or_false, true_and, and_true, Bool.false_eq_true, Bool.true_eq_false] at h) <;> try (exfalso; first | omega | (simp at h; done)))
      | (conv in Vc _ => arg 1; whnf
         first
          | (with_reducible refine vc_side0 ?_; rfl)
          | (with_reducible first
              | refine vc_true ?_ | refine vc_true2 ?_ | refine vc_side ?_ ?_ | refine vc_triv | refine vc_later ?_ | refine vc_caseT ?_ | refine vc_caseF ?_ | refine vc_cons ?_ | refine vc_nil ?_ ?_ | refine vc_seq ?_
                 | refine vc_region ?_ | refine vc_cond ?_ | refine vc_block ?_ | refine vc_retc ?_ | refine vc_exit ?_ | refine vc_skip ?_ | refine vc_scope ?_ | refine vc_label ?_ | refine vc_goto ?_ | refine vc_wkSl0
                 | refine vc_wkHp0 | refine vc_eqAVs0 | refine vc_preG0 | refine vc_wkSl ?_ ?_ | refine vc_wkHp ?_ ?_ | refine vc_eqAVs ?_ ?_ | refine vc_preG ?_ ?_ | refine vc_side0 ?_
                 | refine vc_nextI (i + 1) [] ?_ ?_ ?_ ?_ ?_ ?_ | refine vc_weakf [] ?_ ?_ ?_ | refine vc_and ?_ ?_ | refine vc_ret [] [] ?_)
          | ((with_reducible first | refine vc_caseD (fun h => ?_) (fun h => ?_) | refine vc_caseN (fun h => ?_) (fun h => ?_)) <;> try (exfalso; omega))
          | ((with_reducible refine vc_case (fun h => ?_) (fun h => ?_)) <;> (try simp only [Bool.cond_true_left, Bool.cond_false_right, Bool.cond_true_right, Bool.cond_false_left, Bool.and_eq_true, Bool.or_eq_true, Bool.and_eq_false_iff, Bool.or_eq_false_iff, Bool.not_eq_true', Bool.not_eq_false', Bool.not_eq_true, Bool.not_eq_false, Bool.not_not, decide_eq_true_eq, decide_eq_false_iff_not, beq_iff_eq, beq_eq_false_iff_ne, bne_iff_ne, bne_eq_false_iff_eq, ne_eq, Classical.not_not, reduceCtorEq, false_or, or_false, true_and, and_true, Bool.false_eq_true, Bool.true_eq_false] at h) <;> try (exfalso; first | omega | (simp at h; done)))))
  all_goals (try have hi : i < a.length := (by omega))
  all_goals (try have hj : i < b.length := (by omega))
  all_goals (try have hd := dgYes h)
  all_goals (try have hx := dgNo h)
  all_goals (try simp only [Int.toNat_natCast, at' i hi, bt i hj, tDe, bytesOf_map, ByteArray.toList_eq] at *)
  all_goals first
    | with_reducible rfl
    | omega
    | exact ⟨Nat.zero_le _, rfl⟩
    | exact ⟨⟨by omega, by omega⟩, rfl⟩
    | exact ⟨trivial, trivial⟩
    | exact ⟨fits_dig 6 _, fits_dig 6 _⟩
    | (rw [hI.2, twoB_drop hi hj, pair_yes (a := a.getD i []) (b := b.getD i []) (by assumption) hd]; rfl)
    | exact ⟨by omega, hI.2.trans (by rw [twoB_drop hi hj, pair_no (.inr hx)]; rfl)⟩
    | exact ⟨by omega, hI.2.trans (by rw [twoB_drop hi hj, pair_no (a := a.getD i []) (b := b.getD i []) (.inl (by assumption))]; rfl)⟩
    | (rw [hI.2, twoB_end (.inl (by omega))]; done)
    | (rw [hI.2, twoB_end (.inr (by omega))]; done)
    | (rw [wrap64_id (by omega) (by omega)]; rfl)
    | rfl
    | trace_state

theorem short_no {L : Lvs} (hw : wfL L) (hn : (keysL L).Nodup) {q : List UInt8} {x : Prf} (hx : wfP x) (hs : ¬ x.sides.length = (prfL L q).sides.length) (h : ¬ errP (rootL L) q x = 15) : twoB (hashedP q (prfL L q)) (hashedP q x) = true := by
  have ho : okP (rootL L) q x = true := by
    unfold errP at h
    cases hb : okP (rootL L) q x with
    | true => rfl
    | false => rw [hb, cond_false] at h; exact absurd rfl h
  unfold okP at ho
  simp only [Bool.and_eq_true, decide_eq_true_eq] at ho
  have hr := prfL_root hw hn q
  rcases prf_same (prfL_wf hw hn q) hx (hr.trans ho.2.symm) with h | ⟨h, _⟩
  · exact h
  · exact absurd (by rw [h]) hs

def moreP (p : Prf) (m : List UInt8) : Prf := ⟨p.sides ++ [m], p.fin, p.index, p.value⟩
def lessP (p : Prf) : Prf := ⟨p.sides.take (p.sides.length - 1), p.fin, p.index, p.value⟩
theorem moreP_wf {p : Prf} (h : wfP p) {m : List UInt8} (hm : m.length = 32) : wfP (moreP p m) := ⟨fun d hd => (List.mem_append.1 hd).elim (h.1 d) (fun q => by rw [List.mem_singleton.1 q]; exact hm), h.2, h.3⟩
theorem lessP_wf {p : Prf} (h : wfP p) : wfP (lessP p) := ⟨fun d hd => h.1 d (List.mem_of_mem_take hd), h.2, h.3⟩
theorem hashedP_le {idx : List UInt8} {p : Prf} (hw : wfP p) : ∀ t, t ∈ hashedP idx p → t.length ≤ 65 := wayL_le idx _ _ _ (endB_le hw.2 hw.3) hw.1

theorem digs_size (l : List (List UInt8)) : ∀ y, y ∈ l.map digD → y.size = 32 := fun y hy => by
  obtain ⟨d, _, rfl⟩ := List.mem_map.1 hy; rfl

theorem proofShort_main (a v : List (List UInt8)) (q m : List UInt8) (ha : ∀ x, x ∈ a → x.length = 32) (hv : ∀ x, x ∈ v → x.length = 32) (hq : q.length = 32) (hm : m.length = 32) (hvl : v.length < 2 ^ 63) :
    LocalCall Try.prog 7 [.d (.sl (a.map digD)), .d (.sl (v.map digD)), .d (digD q), .d (digD m)] [] [] (one [.d (.bool true)]) [] := by
  have la : (a.map digD).length = a.length := List.length_map _
  refine vc_fn mixed Try.func7 rfl rfl [(500010, [1000000032000000009000011028]), (16, [500014])] (vc_chk rfl) ?_
  by_cases h60 : ((a.map digD).length : Int) > 60
  · skip
    repeat' (first
        | ((with_reducible refine vc_chk ?_); first | decide +kernel | rfl)
        | (with_reducible refine vc_side0 ?_; rfl)
        | (with_reducible first
             | refine vc_true ?_ | refine vc_true2 ?_ | refine vc_side ?_ ?_ | refine vc_triv | refine vc_later ?_ | refine vc_caseT ?_ | refine vc_caseF ?_ | refine vc_cons ?_ | refine vc_nil ?_ ?_ | refine vc_seq ?_
                | refine vc_region ?_ | refine vc_cond ?_ | refine vc_block ?_ | refine vc_retc ?_ | refine vc_exit ?_ | refine vc_skip ?_ | refine vc_scope ?_ | refine vc_label ?_ | refine vc_goto ?_ | refine vc_wkSl0
                | refine vc_wkHp0 | refine vc_eqAVs0 | refine vc_preG0 | refine vc_wkSl ?_ ?_ | refine vc_wkHp ?_ ?_ | refine vc_eqAVs ?_ ?_ | refine vc_preG ?_ ?_ | refine vc_side0 ?_ | refine vc_pure works8_ok ?_ ?_ ?_
                | refine vc_weakf [] ?_ ?_ ?_ | refine vc_and ?_ ?_ | refine vc_ret [] [] ?_)
        | ((with_reducible first | refine vc_caseD (fun h => ?_) (fun h => ?_) | refine vc_caseN (fun h => ?_) (fun h => ?_)) <;> try (exfalso; omega))
        | ((with_reducible refine vc_case (fun h => ?_) (fun h => ?_)) <;> (try simp only [Bool.cond_true_left, Bool.cond_false_right, Bool.cond_true_right, Bool.cond_false_left, Bool.and_eq_true, Bool.or_eq_true, Bool.and_eq_false_iff, Bool.or_eq_false_iff, Bool.not_eq_true', Bool.not_eq_false', Bool.not_eq_true, Bool.not_eq_false, Bool.not_not, decide_eq_true_eq, decide_eq_false_iff_not, beq_iff_eq, beq_eq_false_iff_ne, bne_iff_ne, bne_eq_false_iff_eq, ne_eq, Classical.not_not, reduceCtorEq, false_or, or_false, true_and, and_true, Bool.false_eq_true, Bool.true_eq_false] at h) <;> try (exfalso; first | omega | (simp at h; done)))
        | (conv in Vc _ => arg 1; whnf
           first
            | (with_reducible refine vc_side0 ?_; rfl)
            | (with_reducible first
                | refine vc_true ?_ | refine vc_true2 ?_ | refine vc_side ?_ ?_ | refine vc_triv | refine vc_later ?_ | refine vc_caseT ?_ | refine vc_caseF ?_ | refine vc_cons ?_ | refine vc_nil ?_ ?_ | refine vc_seq ?_
                   | refine vc_region ?_ | refine vc_cond ?_ | refine vc_block ?_ | refine vc_retc ?_ | refine vc_exit ?_ | refine vc_skip ?_ | refine vc_scope ?_ | refine vc_label ?_ | refine vc_goto ?_ | refine vc_wkSl0
                   | refine vc_wkHp0 | refine vc_eqAVs0 | refine vc_preG0 | refine vc_wkSl ?_ ?_ | refine vc_wkHp ?_ ?_ | refine vc_eqAVs ?_ ?_ | refine vc_preG ?_ ?_ | refine vc_side0 ?_ | refine vc_pure works8_ok ?_ ?_ ?_
                   | refine vc_weakf [] ?_ ?_ ?_ | refine vc_and ?_ ?_ | refine vc_ret [] [] ?_)
            | ((with_reducible first | refine vc_caseD (fun h => ?_) (fun h => ?_) | refine vc_caseN (fun h => ?_) (fun h => ?_)) <;> try (exfalso; omega))
            | ((with_reducible refine vc_case (fun h => ?_) (fun h => ?_)) <;> (try simp only [Bool.cond_true_left, Bool.cond_false_right, Bool.cond_true_right, Bool.cond_false_left, Bool.and_eq_true, Bool.or_eq_true, Bool.and_eq_false_iff, Bool.or_eq_false_iff, Bool.not_eq_true', Bool.not_eq_false', Bool.not_eq_true, Bool.not_eq_false, Bool.not_not, decide_eq_true_eq, decide_eq_false_iff_not, beq_iff_eq, beq_eq_false_iff_ne, bne_iff_ne, bne_eq_false_iff_eq, ne_eq, Classical.not_not, reduceCtorEq, false_or, or_false, true_and, and_true, Bool.false_eq_true, Bool.true_eq_false] at h) <;> try (exfalso; first | omega | (simp at h; done)))))
    all_goals first
      | with_reducible rfl
      | omega
      | exact ⟨trivial, trivial⟩
      | exact ⟨trivial, trivial, trivial⟩
      | exact ⟨trivial, trivial, trivial, trivial⟩
      | exact ⟨⟨by decide, by decide, by decide⟩, trivial⟩
      | exact ⟨Nat.le_of_eq (Nat.zero_add _), trivial⟩
      | exact ⟨Nat.le_refl _, trivial, trivial⟩
      | (rw [wrap64_id (by omega) (by omega)]; rfl)
      | rfl
      | (exfalso; simp at h; done)
      | skip
  have c0 := of7_ok a v ha hv (by omega) hvl
  obtain ⟨w1, w2, w3⟩ := ofL_ok ha hv (show a.length ≤ 60 by omega)
  generalize ofL a v = L at *
  have c1 := rootL_ok w1 w2 w3
  have pv := prove_ok L w1 w2 w3 q hq
  have wp := prfL_wf w1 w2 q
  have lp := prfL_len w1 w2 q
  have sn : ∀ x : Prf, wfP x → ¬ x.sides.length = (prfL L q).sides.length → _ := fun x h1 h2 => short_no w1 w2 (q := q) h1 h2
  have lr : (rootL L).length = 32 := rootF_length _ _ _
  generalize rootL L = R at *
  generalize prfL L q = P at *
  have e0 : (moreP P m).sides.length = P.sides.length + 1 := by simp [moreP]
  have e1 : (lessP P).sides.length = P.sides.length - 1 := by simp [lessP]
  have lP : (P.sides.map digD).length = P.sides.length := List.length_map _
  have k0 : ∀ k : Nat, (k : Int) = 0 → _ := fun _ _ => pcheck_ok R q lr hq (moreP P m) (moreP_wf wp hm) (by omega)
  have k1 : ∀ k : Nat, ¬ (k : Int) = 0 → _ := fun _ _ => pcheck_ok R q lr hq (lessP P) (lessP_wf wp) (by omega)
  have h2 := phashed_ok q hq P wp (by omega)
  have h0 : ∀ k : Nat, (k : Int) = 0 → _ := fun _ _ => phashed_ok q hq (moreP P m) (moreP_wf wp hm) (by omega)
  have h1 : ∀ k : Nat, ¬ (k : Int) = 0 → _ := fun _ _ => phashed_ok q hq (lessP P) (lessP_wf wp) (by omega)
  have ll : (hashedP q P).length < 2 ^ 62 := by unfold hashedP; rw [wayL_length]; omega
  have t0 : ¬ errP R q (moreP P m) = 15 → LocalCall Try.prog 22 [.d (.sl ((hashedP q P).map tD)), .d (.sl ((hashedP q (moreP P m)).map tD))] [] [] (one [.d (.bool true)]) [] := fun h => by
    have t := two_ok (hashedP q P) (hashedP q (moreP P m)) (hashedP_le wp) (hashedP_le (moreP_wf wp hm)) ll
    rwa [sn (moreP P m) (moreP_wf wp hm) (by omega) h] at t
  have t1 : ¬ P.sides.length = 0 → ¬ errP R q (lessP P) = 15 → LocalCall Try.prog 22 [.d (.sl ((hashedP q P).map tD)), .d (.sl ((hashedP q (lessP P)).map tD))] [] [] (one [.d (.bool true)]) [] := fun h0 h => by
    have t := two_ok (hashedP q P) (hashedP q (lessP P)) (hashedP_le wp) (hashedP_le (lessP_wf wp)) ll
    rwa [sn (lessP P) (lessP_wf wp) (by omega) h] at t
  repeat' (first
      | ((with_reducible refine vc_chk ?_); first | decide +kernel | rfl)
      | (with_reducible refine vc_side0 ?_; rfl)
      | (with_reducible first
           | refine vc_true ?_ | refine vc_true2 ?_ | refine vc_side ?_ ?_ | refine vc_triv | refine vc_later ?_ | refine vc_caseT ?_ | refine vc_caseF ?_ | refine vc_cons ?_ | refine vc_nil ?_ ?_ | refine vc_seq ?_
              | refine vc_region ?_ | refine vc_cond ?_ | refine vc_block ?_ | refine vc_retc ?_ | refine vc_exit ?_ | refine vc_skip ?_ | refine vc_scope ?_ | refine vc_label ?_ | refine vc_goto ?_ | refine vc_wkSl0
              | refine vc_wkHp0 | refine vc_eqAVs0 | refine vc_preG0 | refine vc_wkSl ?_ ?_ | refine vc_wkHp ?_ ?_ | refine vc_eqAVs ?_ ?_ | refine vc_preG ?_ ?_ | refine vc_side0 ?_ | refine vc_pure c0 ?_ ?_ ?_
              | refine vc_pure c1 ?_ ?_ ?_ | refine vc_pure works8_ok ?_ ?_ ?_ | refine vc_pure pv ?_ ?_ ?_ | refine vc_pure h2 ?_ ?_ ?_ | refine vc_call [] (k0 k (by assumption)) ?_ | refine vc_call [] (k1 k (by assumption)) ?_
              | refine vc_call [] (h0 k (by assumption)) ?_ | refine vc_call [] (h1 k (by assumption)) ?_ | refine vc_pure (t0 (by assumption)) ?_ ?_ ?_ | refine vc_pure (t1 (by omega) (by assumption)) ?_ ?_ ?_
              | refine vc_loopI 87 (fun (k : Nat) => [(6, .ptr 1000 []), (7, .ptr 1004 []), (10, .ptr 5008 []), (11, .ptr 6012 []), (12, .d (.int .i64 ((P.sides.map digD).length : Nat))), (13, .d (.int .i64 (k : Int)))]) (fun _ => [(1000, .var (.d (digD q))), (1004, .var (.d (digD m))), (5008, .var (.d (digD R))), (6012, .var (.d (pD P)))]) (fun k => 2 - k) (fun k => k ≤ 2) 0 [] ?_ ?_ ?_ ?_ ?_ (fun k hI => ?_)
              | refine vc_nextI (k + 1) [] ?_ ?_ ?_ ?_ ?_ ?_ | refine vc_weakf [] ?_ ?_ ?_ | refine vc_and ?_ ?_ | refine vc_ret [] [] ?_)
      | ((with_reducible first | refine vc_caseD (fun h => ?_) (fun h => ?_) | refine vc_caseN (fun h => ?_) (fun h => ?_)) <;> try (exfalso; omega))
      | ((with_reducible refine vc_case (fun h => ?_) (fun h => ?_)) <;> (try simp only [Bool.cond_true_left, Bool.cond_false_right, Bool.cond_true_right, Bool.cond_false_left, Bool.and_eq_true, Bool.or_eq_true, Bool.and_eq_false_iff, Bool.or_eq_false_iff, Bool.not_eq_true', Bool.not_eq_false', Bool.not_eq_true, Bool.not_eq_false, Bool.not_not, decide_eq_true_eq, decide_eq_false_iff_not, beq_iff_eq, beq_eq_false_iff_ne, bne_iff_ne, bne_eq_false_iff_eq, ne_eq, Classical.not_not, reduceCtorEq, false_or, or_false, true_and, and_true, Bool.false_eq_true, Bool.true_eq_false] at h) <;> try (exfalso; first | omega | (simp at h; done)))
      | (conv in Vc _ => arg 1; whnf
         first
          | (with_reducible refine vc_side0 ?_; rfl)
          | (with_reducible first
              | refine vc_true ?_ | refine vc_true2 ?_ | refine vc_side ?_ ?_ | refine vc_triv | refine vc_later ?_ | refine vc_caseT ?_ | refine vc_caseF ?_ | refine vc_cons ?_ | refine vc_nil ?_ ?_ | refine vc_seq ?_
                 | refine vc_region ?_ | refine vc_cond ?_ | refine vc_block ?_ | refine vc_retc ?_ | refine vc_exit ?_ | refine vc_skip ?_ | refine vc_scope ?_ | refine vc_label ?_ | refine vc_goto ?_ | refine vc_wkSl0
                 | refine vc_wkHp0 | refine vc_eqAVs0 | refine vc_preG0 | refine vc_wkSl ?_ ?_ | refine vc_wkHp ?_ ?_ | refine vc_eqAVs ?_ ?_ | refine vc_preG ?_ ?_ | refine vc_side0 ?_ | refine vc_pure c0 ?_ ?_ ?_
                 | refine vc_pure c1 ?_ ?_ ?_ | refine vc_pure works8_ok ?_ ?_ ?_ | refine vc_pure pv ?_ ?_ ?_ | refine vc_pure h2 ?_ ?_ ?_ | refine vc_call [] (k0 k (by assumption)) ?_
                 | refine vc_call [] (k1 k (by assumption)) ?_ | refine vc_call [] (h0 k (by assumption)) ?_ | refine vc_call [] (h1 k (by assumption)) ?_ | refine vc_pure (t0 (by assumption)) ?_ ?_ ?_
                 | refine vc_pure (t1 (by omega) (by assumption)) ?_ ?_ ?_
                 | refine vc_loopI 87 (fun (k : Nat) => [(6, .ptr 1000 []), (7, .ptr 1004 []), (10, .ptr 5008 []), (11, .ptr 6012 []), (12, .d (.int .i64 ((P.sides.map digD).length : Nat))), (13, .d (.int .i64 (k : Int)))]) (fun _ => [(1000, .var (.d (digD q))), (1004, .var (.d (digD m))), (5008, .var (.d (digD R))), (6012, .var (.d (pD P)))]) (fun k => 2 - k) (fun k => k ≤ 2) 0 [] ?_ ?_ ?_ ?_ ?_ (fun k hI => ?_)
                 | refine vc_nextI (k + 1) [] ?_ ?_ ?_ ?_ ?_ ?_ | refine vc_weakf [] ?_ ?_ ?_ | refine vc_and ?_ ?_ | refine vc_ret [] [] ?_)
          | ((with_reducible first | refine vc_caseD (fun h => ?_) (fun h => ?_) | refine vc_caseN (fun h => ?_) (fun h => ?_)) <;> try (exfalso; omega))
          | ((with_reducible refine vc_case (fun h => ?_) (fun h => ?_)) <;> (try simp only [Bool.cond_true_left, Bool.cond_false_right, Bool.cond_true_right, Bool.cond_false_left, Bool.and_eq_true, Bool.or_eq_true, Bool.and_eq_false_iff, Bool.or_eq_false_iff, Bool.not_eq_true', Bool.not_eq_false', Bool.not_eq_true, Bool.not_eq_false, Bool.not_not, decide_eq_true_eq, decide_eq_false_iff_not, beq_iff_eq, beq_eq_false_iff_ne, bne_iff_ne, bne_eq_false_iff_eq, ne_eq, Classical.not_not, reduceCtorEq, false_or, or_false, true_and, and_true, Bool.false_eq_true, Bool.true_eq_false] at h) <;> try (exfalso; first | omega | (simp at h; done)))))
  all_goals (try have wn : IntKind.i64.wrap (((P.sides.map digD).length : Int) - 1) = ((P.sides.length - 1 : Nat) : Int) := (by rw [wrap64_id (by omega) (by omega)]; omega))
  all_goals (try simp only [wn])
  all_goals (try simp only [Int.toNat_natCast, show Int.toNat 0 = 0 from rfl, List.nil_append, List.drop_zero, List.take_length, Nat.add_zero, Nat.zero_add, Nat.sub_zero])
  all_goals first
    | with_reducible rfl
    | omega
    | exact ⟨trivial, trivial, trivial, trivial⟩
    | exact ⟨⟨trivial, rfl, room32' (by rw [lP]; omega)⟩, digs_size _⟩
    | exact ⟨⟨Nat.le_refl _, by first | trivial | rfl, room32' (by rw [List.length_append, lP]; show _ + 1 ≤ _; omega)⟩, fun y hy => (by rw [List.mem_singleton.1 hy]; rfl)⟩
    | exact ⟨Nat.le_refl _, trivial, trivial, trivial, trivial⟩
    | exact ⟨by rw [lP]; omega, trivial, trivial, trivial, trivial⟩
    | exact ⟨by omega, by omega, by rw [lP]; omega⟩
    | (show D.st [D.sl (P.sides.map digD ++ [digD m]), _, _, _] = D.st [D.sl ((P.sides ++ [m]).map digD), _, _, _]; rw [List.map_append]; rfl)
    | (show D.st [D.sl ((P.sides.map digD).take (P.sides.length - 1)), _, _, _] = D.st [D.sl ((P.sides.take (P.sides.length - 1)).map digD), _, _, _]; rw [List.map_take]; rfl)
    | (rw [wrap64_id (by omega) (by omega)]; rfl)
    | (exfalso; exact absurd rfl h)
    | (exfalso; simp at h; done)
    | rfl
    | trace_state

end Go.Proofs.Ytpeglanfbmpoeaa
