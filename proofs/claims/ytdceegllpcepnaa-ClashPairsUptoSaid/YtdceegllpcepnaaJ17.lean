import Derived.Test.YtdceegllpcepnaaJ1
import Derived.Test.YtdceegllpcepnaaJ2
import Derived.Test.YtdceegllpcepnaaJ3
import Derived.Test.YtdceegllpcepnaaJ4
import Derived.Test.YtdceegllpcepnaaJ5
import Derived.Test.YtdceegllpcepnaaJ6
import Derived.Test.YtdceegllpcepnaaJ7
import Derived.Test.YtdceegllpcepnaaJ8
import Derived.Test.YtdceegllpcepnaaJ9
import Derived.Test.YtdceegllpcepnaaJ10
import Derived.Test.YtdceegllpcepnaaJ11
import Derived.Test.YtdceegllpcepnaaJ12
import Derived.Test.YtdceegllpcepnaaJ13
import Derived.Test.YtdceegllpcepnaaJ14
import Derived.Test.YtdceegllpcepnaaJ15
import Derived.Test.YtdceegllpcepnaaJ16
set_option linter.unusedSimpArgs false
set_option linter.unusedVariables false
/-
What the laws of pairs come to: the plain part.
-/
set_option linter.unusedSimpArgs false
set_option linter.unusedVariables false
namespace Go.Proofs.Ytdceegllpcepnaa
open Go.Sym
set_option maxRecDepth 10000
set_option maxHeartbeats 4000000

theorem tell_right (a b : List UInt8) : (bif pairB a b then pairB a b && pairB (tellA a b) (tellB a b) else !pairB a b && decide ((tellA a b).length + (tellB a b).length = 0)) = true := by
  unfold tellA tellB
  cases h : pairB a b with
  | true => rw [cond_true, cond_true, cond_true, h]; rfl
  | false => rfl
theorem fir_right (a b : List (List UInt8)) : (bif (firstF a b).isSome then decide (firI a b ≥ 0) && pairB (firA a b) (firB a b) else !decide (firI a b ≥ 0) && decide ((firA a b).length + (firB a b).length = 0)) = true := by
  unfold firA firB firI
  cases h : firstF a b with
  | none => rfl
  | some i =>
    show (decide ((i : Int) ≥ 0) && pairB (a.getD i []) (b.getD i [])) = true
    rw [decide_eq_true (by omega), (firstF_at h).2.2]; rfl
theorem tell_le {a b : List UInt8} {n : Nat} (ha : a.length < n) (hb : b.length < n) (hn : 0 < n) : (tellA a b).length < n ∧ (tellB a b).length < n := by
  unfold tellA tellB
  cases pairB a b
  · exact ⟨hn, hn⟩
  · exact ⟨ha, hb⟩
theorem fir_le {a b : List (List UInt8)} {n : Nat} (ha : ∀ t, t ∈ a → t.length < n) (hb : ∀ t, t ∈ b → t.length < n) (hn : 0 < n) : (firA a b).length < n ∧ (firB a b).length < n := by
  unfold firA firB
  cases h : firstF a b with
  | none => exact ⟨hn, hn⟩
  | some i =>
    obtain ⟨h1, h2, _⟩ := firstF_at h
    exact ⟨ha _ (show a.getD i [] ∈ a by rw [List.getD_eq_getElem?_getD, List.getElem?_eq_getElem h1]; simp), hb _ (show b.getD i [] ∈ b by rw [List.getD_eq_getElem?_getD, List.getElem?_eq_getElem h2]; simp)⟩

theorem tellRight_ok (a b : List UInt8) (ha : a.length < 2 ^ 28) (hb : b.length < 2 ^ 28) : LocalCall Try.prog 10 [.d (.sl ((tellA a b).map byteD)), .d (.sl ((tellB a b).map byteD)), .d (.bool (pairB a b)), .d (.bool (pairB a b))] [] [] (one [.d (.bool true)]) [] := by
  obtain ⟨h1, h2⟩ := tell_le ha hb (by decide)
  have c := right9_ok (tellA a b) (tellB a b) (pairB a b) (pairB a b) h1 h2
  rwa [tell_right] at c
theorem firRight_ok (a b : List (List UInt8)) (ha : ∀ t, t ∈ a → t.length < 2 ^ 28) (hb : ∀ t, t ∈ b → t.length < 2 ^ 28) : LocalCall Try.prog 10 [.d (.sl ((firA a b).map byteD)), .d (.sl ((firB a b).map byteD)), .d (.bool (firstF a b).isSome), .d (.bool (decide (firI a b ≥ 0)))] [] [] (one [.d (.bool true)]) [] := by
  obtain ⟨h1, h2⟩ := fir_le ha hb (by decide)
  have c := right9_ok (firA a b) (firB a b) (firstF a b).isSome (decide (firI a b ≥ 0)) h1 h2
  rwa [fir_right] at c

theorem fir_pair {a b : List (List UInt8)} (h : (firstF a b).isSome = true) : pairB (firA a b) (firB a b) = true := by
  unfold firA firB
  cases hf : firstF a b with
  | none => rw [hf] at h; cases h
  | some i => exact (firstF_at hf).2.2
theorem firPair_ok (a b : List (List UInt8)) (ha : ∀ t, t ∈ a → t.length < 2 ^ 28) (hb : ∀ t, t ∈ b → t.length < 2 ^ 28) (h : (firstF a b).isSome = true) : LocalCall Try.prog 12 [.d (.sl ((firA a b).map byteD)), .d (.sl ((firB a b).map byteD))] [] [] (one [.d (.bool true)]) [] := by
  obtain ⟨h1, h2⟩ := fir_le ha hb (by decide)
  have c := rPair_ok (firA a b) (firB a b) h1 h2
  rwa [fir_pair h] at c
theorem isSome_none {α : Type} {o : Option α} (h : o.isSome = false) : o = none := by
  cases o with
  | none => rfl
  | some x => cases h

theorem leafB_inj {a v c w : List UInt8} (ha : a.length = 32) (hc : c.length = 32) (h : leafB a v = leafB c w) : a = c ∧ v = w := List.append_inj (List.cons.inj h).2 (by rw [ha, hc])
theorem leafB_ne (a v : List UInt8) : ¬ leafB a v = emptyB := fun h => absurd (List.cons.inj h).1 (by decide)
theorem endB_same {p q : Prf} (hp : wfP p) (hq : wfP q) (h : endB p = endB q) : decide (p.fin = 1) = decide (q.fin = 1) ∧ (p.fin = 1 → p.index = q.index ∧ p.value = q.value) := by
  unfold endB at h
  by_cases h1 : p.fin = 1
  · by_cases h2 : q.fin = 1
    · rw [decide_eq_true h1, decide_eq_true h2, cond_true, cond_true] at h
      exact ⟨by rw [decide_eq_true h1, decide_eq_true h2], fun _ => leafB_inj hp.2 hq.2 h⟩
    · rw [decide_eq_true h1, decide_eq_false h2, cond_true, cond_false] at h
      exact absurd h (leafB_ne _ _)
  · by_cases h2 : q.fin = 1
    · rw [decide_eq_false h1, decide_eq_true h2, cond_true, cond_false] at h
      exact absurd h.symm (leafB_ne _ _)
    · exact ⟨by rw [decide_eq_false h1, decide_eq_false h2], fun h => absurd h h1⟩
theorem okP_root {root idx : List UInt8} {p : Prf} (h : okP root idx p = true) : rootP idx p = root := by
  unfold okP at h
  simp only [Bool.and_eq_true, decide_eq_true_eq] at h
  exact h.2
/-- A root binds. -/
theorem bind_law {root idx : List UInt8} {p q : Prf} (hp : wfP p) (hq : wfP q) (h1 : okP root idx p = true) (h2 : okP root idx q = true) (h3 : ¬ (valP root idx p = valP root idx q ∧ leafP root idx p = leafP root idx q)) :
    firstF (hashedP idx p) (hashedP idx q) ≠ none := by
  intro hn
  have ht := twoB_first (hashedP idx p) (hashedP idx q)
  rw [hn] at ht
  rcases prf_same hp hq ((okP_root h1).trans (okP_root h2).symm) with h | ⟨_, h⟩
  · rw [ht] at h; cases h
  obtain ⟨e1, e2⟩ := endB_same hp hq h
  have e3 : leafP root idx p = leafP root idx q := by
    unfold leafP
    rw [h1, h2, ← e1]
    by_cases hf : p.fin = 1
    · rw [(e2 hf).1]
    · rw [decide_eq_false hf]; rfl
  refine h3 ⟨?_, e3⟩
  unfold valP
  rw [← e3]
  cases hl : leafP root idx p with
  | false => rfl
  | true =>
    have hf : p.fin = 1 := by
      unfold leafP at hl
      simp only [Bool.and_eq_true, decide_eq_true_eq] at hl
      exact hl.2.1
    exact (e2 hf).2
theorem errP_ok {root idx : List UInt8} {p : Prf} (h : errP root idx p = 0) : okP root idx p = true := by
  unfold errP at h
  cases hb : okP root idx p with
  | true => rfl
  | false => rw [hb, cond_false] at h; exact absurd h (by decide)

theorem ways_le {idx : List UInt8} {p : Prf} (hw : wfP p) : ∀ t, t ∈ hashedP idx p → t.length < 2 ^ 28 := fun t ht => Nat.lt_of_le_of_lt (wayL_le idx _ _ _ (endB_le hw.2 hw.3) hw.1 t ht) (by decide)

section
variable (idx : List UInt8) (hx : idx.length = 32) (p q : Prf) (hp : wfP p) (hq : wfP q) (lp : p.sides.length ≤ 300) (lq : q.sides.length ≤ 300)
include hx hp hq lp lq
theorem cways_ok : LocalCall Try.prog 15 [.d (digD idx), .d (pD p), .d (pD q)] [] [] (one [.d (.sl ((firA (hashedP idx p) (hashedP idx q)).map byteD)), .d (.sl ((firB (hashedP idx p) (hashedP idx q)).map byteD)), .d (.bool (firstF (hashedP idx p) (hashedP idx q)).isSome)]) [] := by
  have c1 := phashed_ok idx hx p hp lp
  have c2 := phashed_ok idx hx q hq lq
  have c3 := cfirst_ok (hashedP idx p) (hashedP idx q) (ways_le hp) (ways_le hq) (by unfold hashedP; rw [wayL_length]; omega)
  refine vc_fn mixed Try.func15 rfl rfl [] (vc_chk rfl) ?_
  repeat' (first
      | ((with_reducible refine vc_chk ?_); first | decide +kernel | rfl)
      | (with_reducible refine vc_side0 ?_; rfl)
      | (with_reducible first
           | refine vc_true ?_ | refine vc_true2 ?_ | refine vc_side ?_ ?_ | refine vc_triv | refine vc_later ?_ | refine vc_caseT ?_ | refine vc_caseF ?_ | refine vc_cons ?_ | refine vc_nil ?_ ?_ | refine vc_seq ?_
              | refine vc_region ?_ | refine vc_cond ?_ | refine vc_block ?_ | refine vc_retc ?_ | refine vc_exit ?_ | refine vc_skip ?_ | refine vc_scope ?_ | refine vc_label ?_ | refine vc_goto ?_ | refine vc_wkSl0
              | refine vc_wkHp0 | refine vc_eqAVs0 | refine vc_preG0 | refine vc_wkSl ?_ ?_ | refine vc_wkHp ?_ ?_ | refine vc_eqAVs ?_ ?_ | refine vc_preG ?_ ?_ | refine vc_side0 ?_ | refine vc_pure c1 ?_ ?_ ?_
              | refine vc_pure c2 ?_ ?_ ?_ | refine vc_pure c3 ?_ ?_ ?_ | refine vc_weakf [] ?_ ?_ ?_ | refine vc_and ?_ ?_ | refine vc_ret [] [] ?_)
      | ((with_reducible first | refine vc_caseD (fun h => ?_) (fun h => ?_) | refine vc_caseN (fun h => ?_) (fun h => ?_)) <;> try (exfalso; omega))
      | ((with_reducible refine vc_case (fun h => ?_) (fun h => ?_)) <;> (try simp only [Bool.cond_true_left, Bool.cond_false_right, Bool.cond_true_right, Bool.cond_false_left, Bool.and_eq_true, Bool.or_eq_true, Bool.and_eq_false_iff, Bool.or_eq_false_iff, Bool.not_eq_true', Bool.not_eq_false', Bool.not_eq_true, Bool.not_eq_false, Bool.not_not, decide_eq_true_eq, decide_eq_false_iff_not, beq_iff_eq, beq_eq_false_iff_ne, bne_iff_ne, bne_eq_false_iff_eq, ne_eq, Classical.not_not, reduceCtorEq, false_or, or_false, true_and, and_true, Bool.false_eq_true, Bool.true_eq_false] at h) <;> try (exfalso; first | omega | (simp at h; done)))
      | (conv in Vc _ => arg 1; whnf
         first
          | (with_reducible refine vc_side0 ?_; rfl)
          | (with_reducible first
              | refine vc_true ?_ | refine vc_true2 ?_ | refine vc_side ?_ ?_ | refine vc_triv | refine vc_later ?_ | refine vc_caseT ?_ | refine vc_caseF ?_ | refine vc_cons ?_ | refine vc_nil ?_ ?_ | refine vc_seq ?_
                 | refine vc_region ?_ | refine vc_cond ?_ | refine vc_block ?_ | refine vc_retc ?_ | refine vc_exit ?_ | refine vc_skip ?_ | refine vc_scope ?_ | refine vc_label ?_ | refine vc_goto ?_ | refine vc_wkSl0
                 | refine vc_wkHp0 | refine vc_eqAVs0 | refine vc_preG0 | refine vc_wkSl ?_ ?_ | refine vc_wkHp ?_ ?_ | refine vc_eqAVs ?_ ?_ | refine vc_preG ?_ ?_ | refine vc_side0 ?_ | refine vc_pure c1 ?_ ?_ ?_
                 | refine vc_pure c2 ?_ ?_ ?_ | refine vc_pure c3 ?_ ?_ ?_ | refine vc_weakf [] ?_ ?_ ?_ | refine vc_and ?_ ?_ | refine vc_ret [] [] ?_)
          | ((with_reducible first | refine vc_caseD (fun h => ?_) (fun h => ?_) | refine vc_caseN (fun h => ?_) (fun h => ?_)) <;> try (exfalso; omega))
          | ((with_reducible refine vc_case (fun h => ?_) (fun h => ?_)) <;> (try simp only [Bool.cond_true_left, Bool.cond_false_right, Bool.cond_true_right, Bool.cond_false_left, Bool.and_eq_true, Bool.or_eq_true, Bool.and_eq_false_iff, Bool.or_eq_false_iff, Bool.not_eq_true', Bool.not_eq_false', Bool.not_eq_true, Bool.not_eq_false, Bool.not_not, decide_eq_true_eq, decide_eq_false_iff_not, beq_iff_eq, beq_eq_false_iff_ne, bne_iff_ne, bne_eq_false_iff_eq, ne_eq, Classical.not_not, reduceCtorEq, false_or, or_false, true_and, and_true, Bool.false_eq_true, Bool.true_eq_false] at h) <;> try (exfalso; first | omega | (simp at h; done)))))
  all_goals first
    | with_reducible rfl
    | omega
    | exact ⟨trivial, trivial⟩
    | exact ⟨trivial, trivial, trivial⟩
    | exact ⟨trivial, trivial, trivial, trivial⟩
    | exact ⟨⟨by decide, by decide, by decide⟩, trivial⟩
    | exact ⟨Nat.le_of_eq (Nat.zero_add _), trivial⟩
    | exact ⟨Nat.le_refl _, trivial, trivial⟩
    | (rw [wrap64_id (by omega) (by omega)]; rfl)
    | rfl
    | (exfalso; simp at h; done)
    | skip
theorem rWays_ok : LocalCall Try.prog 16 [.d (digD idx), .d (pD p), .d (pD q)] [] [] (one [.d (.int .i64 (firI (hashedP idx p) (hashedP idx q)))]) [] := by
  have c1 := rHashed8_ok idx hx p hp lp
  have c2 := rHashed8_ok idx hx q hq lq
  have c3 := rFirst_ok (hashedP idx p) (hashedP idx q) (ways_le hp) (ways_le hq) (by unfold hashedP; rw [wayL_length]; omega)
  refine vc_fn mixed Try.func16 rfl rfl [] (vc_chk rfl) ?_
  repeat' (first
      | ((with_reducible refine vc_chk ?_); first | decide +kernel | rfl)
      | (with_reducible refine vc_side0 ?_; rfl)
      | (with_reducible first
           | refine vc_true ?_ | refine vc_true2 ?_ | refine vc_side ?_ ?_ | refine vc_triv | refine vc_later ?_ | refine vc_caseT ?_ | refine vc_caseF ?_ | refine vc_cons ?_ | refine vc_nil ?_ ?_ | refine vc_seq ?_
              | refine vc_region ?_ | refine vc_cond ?_ | refine vc_block ?_ | refine vc_retc ?_ | refine vc_exit ?_ | refine vc_skip ?_ | refine vc_scope ?_ | refine vc_label ?_ | refine vc_goto ?_ | refine vc_wkSl0
              | refine vc_wkHp0 | refine vc_eqAVs0 | refine vc_preG0 | refine vc_wkSl ?_ ?_ | refine vc_wkHp ?_ ?_ | refine vc_eqAVs ?_ ?_ | refine vc_preG ?_ ?_ | refine vc_side0 ?_ | refine vc_pure c1 ?_ ?_ ?_
              | refine vc_pure c2 ?_ ?_ ?_ | refine vc_pure c3 ?_ ?_ ?_ | refine vc_weakf [] ?_ ?_ ?_ | refine vc_and ?_ ?_ | refine vc_ret [] [] ?_)
      | ((with_reducible first | refine vc_caseD (fun h => ?_) (fun h => ?_) | refine vc_caseN (fun h => ?_) (fun h => ?_)) <;> try (exfalso; omega))
      | ((with_reducible refine vc_case (fun h => ?_) (fun h => ?_)) <;> (try simp only [Bool.cond_true_left, Bool.cond_false_right, Bool.cond_true_right, Bool.cond_false_left, Bool.and_eq_true, Bool.or_eq_true, Bool.and_eq_false_iff, Bool.or_eq_false_iff, Bool.not_eq_true', Bool.not_eq_false', Bool.not_eq_true, Bool.not_eq_false, Bool.not_not, decide_eq_true_eq, decide_eq_false_iff_not, beq_iff_eq, beq_eq_false_iff_ne, bne_iff_ne, bne_eq_false_iff_eq, ne_eq, Classical.not_not, reduceCtorEq, false_or, or_false, true_and, and_true, Bool.false_eq_true, Bool.true_eq_false] at h) <;> try (exfalso; first | omega | (simp at h; done)))
      | (conv in Vc _ => arg 1; whnf
         first
          | (with_reducible refine vc_side0 ?_; rfl)
          | (with_reducible first
              | refine vc_true ?_ | refine vc_true2 ?_ | refine vc_side ?_ ?_ | refine vc_triv | refine vc_later ?_ | refine vc_caseT ?_ | refine vc_caseF ?_ | refine vc_cons ?_ | refine vc_nil ?_ ?_ | refine vc_seq ?_
                 | refine vc_region ?_ | refine vc_cond ?_ | refine vc_block ?_ | refine vc_retc ?_ | refine vc_exit ?_ | refine vc_skip ?_ | refine vc_scope ?_ | refine vc_label ?_ | refine vc_goto ?_ | refine vc_wkSl0
                 | refine vc_wkHp0 | refine vc_eqAVs0 | refine vc_preG0 | refine vc_wkSl ?_ ?_ | refine vc_wkHp ?_ ?_ | refine vc_eqAVs ?_ ?_ | refine vc_preG ?_ ?_ | refine vc_side0 ?_ | refine vc_pure c1 ?_ ?_ ?_
                 | refine vc_pure c2 ?_ ?_ ?_ | refine vc_pure c3 ?_ ?_ ?_ | refine vc_weakf [] ?_ ?_ ?_ | refine vc_and ?_ ?_ | refine vc_ret [] [] ?_)
          | ((with_reducible first | refine vc_caseD (fun h => ?_) (fun h => ?_) | refine vc_caseN (fun h => ?_) (fun h => ?_)) <;> try (exfalso; omega))
          | ((with_reducible refine vc_case (fun h => ?_) (fun h => ?_)) <;> (try simp only [Bool.cond_true_left, Bool.cond_false_right, Bool.cond_true_right, Bool.cond_false_left, Bool.and_eq_true, Bool.or_eq_true, Bool.and_eq_false_iff, Bool.or_eq_false_iff, Bool.not_eq_true', Bool.not_eq_false', Bool.not_eq_true, Bool.not_eq_false, Bool.not_not, decide_eq_true_eq, decide_eq_false_iff_not, beq_iff_eq, beq_eq_false_iff_ne, bne_iff_ne, bne_eq_false_iff_eq, ne_eq, Classical.not_not, reduceCtorEq, false_or, or_false, true_and, and_true, Bool.false_eq_true, Bool.true_eq_false] at h) <;> try (exfalso; first | omega | (simp at h; done)))))
  all_goals first
    | with_reducible rfl
    | omega
    | exact ⟨trivial, trivial⟩
    | exact ⟨trivial, trivial, trivial⟩
    | exact ⟨trivial, trivial, trivial, trivial⟩
    | exact ⟨⟨by decide, by decide, by decide⟩, trivial⟩
    | exact ⟨Nat.le_of_eq (Nat.zero_add _), trivial⟩
    | exact ⟨Nat.le_refl _, trivial, trivial⟩
    | (rw [wrap64_id (by omega) (by omega)]; rfl)
    | rfl
    | (exfalso; simp at h; done)
    | skip
end

theorem few9_ok (p : Prf) : LocalCall Try.prog 14 [.d (pD p)] [] [] (one [.d (.bool (decide ((p.sides.length : Int) ≤ 300)))]) [] := by
  refine vc_fn mixed Try.func14 rfl rfl [] (vc_chk rfl) ?_
  repeat' (first
      | ((with_reducible refine vc_chk ?_); first | decide +kernel | rfl)
      | (with_reducible refine vc_side0 ?_; rfl)
      | (with_reducible first
           | refine vc_true ?_ | refine vc_true2 ?_ | refine vc_side ?_ ?_ | refine vc_triv | refine vc_later ?_ | refine vc_caseT ?_ | refine vc_caseF ?_ | refine vc_cons ?_ | refine vc_nil ?_ ?_ | refine vc_seq ?_
              | refine vc_region ?_ | refine vc_cond ?_ | refine vc_block ?_ | refine vc_retc ?_ | refine vc_exit ?_ | refine vc_skip ?_ | refine vc_scope ?_ | refine vc_label ?_ | refine vc_goto ?_ | refine vc_wkSl0
              | refine vc_wkHp0 | refine vc_eqAVs0 | refine vc_preG0 | refine vc_wkSl ?_ ?_ | refine vc_wkHp ?_ ?_ | refine vc_eqAVs ?_ ?_ | refine vc_preG ?_ ?_ | refine vc_side0 ?_ | refine vc_weakf [] ?_ ?_ ?_
              | refine vc_and ?_ ?_ | refine vc_ret [] [] ?_)
      | ((with_reducible first | refine vc_caseD (fun h => ?_) (fun h => ?_) | refine vc_caseN (fun h => ?_) (fun h => ?_)) <;> try (exfalso; omega))
      | ((with_reducible refine vc_case (fun h => ?_) (fun h => ?_)) <;> (try simp only [Bool.cond_true_left, Bool.cond_false_right, Bool.cond_true_right, Bool.cond_false_left, Bool.and_eq_true, Bool.or_eq_true, Bool.and_eq_false_iff, Bool.or_eq_false_iff, Bool.not_eq_true', Bool.not_eq_false', Bool.not_eq_true, Bool.not_eq_false, Bool.not_not, decide_eq_true_eq, decide_eq_false_iff_not, beq_iff_eq, beq_eq_false_iff_ne, bne_iff_ne, bne_eq_false_iff_eq, ne_eq, Classical.not_not, reduceCtorEq, false_or, or_false, true_and, and_true, Bool.false_eq_true, Bool.true_eq_false] at h) <;> try (exfalso; first | omega | (simp at h; done)))
      | (conv in Vc _ => arg 1; whnf
         first
          | (with_reducible refine vc_side0 ?_; rfl)
          | (with_reducible first
              | refine vc_true ?_ | refine vc_true2 ?_ | refine vc_side ?_ ?_ | refine vc_triv | refine vc_later ?_ | refine vc_caseT ?_ | refine vc_caseF ?_ | refine vc_cons ?_ | refine vc_nil ?_ ?_ | refine vc_seq ?_
                 | refine vc_region ?_ | refine vc_cond ?_ | refine vc_block ?_ | refine vc_retc ?_ | refine vc_exit ?_ | refine vc_skip ?_ | refine vc_scope ?_ | refine vc_label ?_ | refine vc_goto ?_ | refine vc_wkSl0
                 | refine vc_wkHp0 | refine vc_eqAVs0 | refine vc_preG0 | refine vc_wkSl ?_ ?_ | refine vc_wkHp ?_ ?_ | refine vc_eqAVs ?_ ?_ | refine vc_preG ?_ ?_ | refine vc_side0 ?_ | refine vc_weakf [] ?_ ?_ ?_
                 | refine vc_and ?_ ?_ | refine vc_ret [] [] ?_)
          | ((with_reducible first | refine vc_caseD (fun h => ?_) (fun h => ?_) | refine vc_caseN (fun h => ?_) (fun h => ?_)) <;> try (exfalso; omega))
          | ((with_reducible refine vc_case (fun h => ?_) (fun h => ?_)) <;> (try simp only [Bool.cond_true_left, Bool.cond_false_right, Bool.cond_true_right, Bool.cond_false_left, Bool.and_eq_true, Bool.or_eq_true, Bool.and_eq_false_iff, Bool.or_eq_false_iff, Bool.not_eq_true', Bool.not_eq_false', Bool.not_eq_true, Bool.not_eq_false, Bool.not_not, decide_eq_true_eq, decide_eq_false_iff_not, beq_iff_eq, beq_eq_false_iff_ne, bne_iff_ne, bne_eq_false_iff_eq, ne_eq, Classical.not_not, reduceCtorEq, false_or, or_false, true_and, and_true, Bool.false_eq_true, Bool.true_eq_false] at h) <;> try (exfalso; first | omega | (simp at h; done)))))
  all_goals first
    | with_reducible rfl
    | (rw [List.length_map]; done)
    | rfl

set_option maxRecDepth 100000 in
theorem ab_bits : (wBytes (sblock sFirst ([97] ++ spad 1)) = wBytes (sblock sFirst ([98] ++ spad 1))) = False := by
  refine eq_false ?_
  decide +kernel
theorem sha_one (c : UInt8) : shaB [c] = wBytes (sblock sFirst ([c] ++ spad 1)) := by
  unfold shaB
  have hl : ([c] ++ spad (([c] : List UInt8).length % 2 ^ 64)) = [c] ++ spad 1 := rfl
  have h64 : ([c] ++ spad 1).length = 64 := rfl
  have t : ([c] ++ spad 1).take 64 = [c] ++ spad 1 := List.take_of_length_le (by omega)
  have d : ([c] ++ spad 1).drop 64 = [] := List.drop_of_length_le (by omega)
  rw [hl, sblocks_big (by omega), t, d, sblocks_small (by simp)]
theorem ab_none : pairB [97] [98] = false := by
  unfold pairB
  rw [show decide (([97] : List UInt8) = [98]) = false from by decide, sha_one, sha_one, decide_eq_false (fun h => by rw [ab_bits] at h; exact h)]; rfl
theorem aa_none : pairB [97] [97] = false := by unfold pairB; rw [decide_eq_true rfl]; rfl

theorem works9_ok : LocalCall Try.prog 13 [] [] [] (one [.d (.bool true)]) [] := by
  have c0 := rLeaf_ok oneD oneD rfl rfl
  have c1 : LocalCall Try.prog 18 [.d (digD (shaB (leafB oneD oneD))), .d (digD oneD), .d (.st [.nils, .int .i64 1, digD oneD, digD oneD])] [] [] (one [.d (digD oneD), .d (.bool true), .d (.int .i64 0)]) [] := by
    have c := pcheck_ok (shaB (leafB oneD oneD)) oneD (shaB_length _) rfl prf1 ⟨nofun, rfl, rfl⟩ (by decide)
    have e : okP (shaB (leafB oneD oneD)) oneD prf1 = true := by
      unfold okP
      rw [decide_eq_true (show rootP oneD prf1 = shaB (leafB oneD oneD) from rfl)]
      decide +kernel
    have e2 : leafP (shaB (leafB oneD oneD)) oneD prf1 = true := by unfold leafP; rw [e]; decide +kernel
    unfold valP errP at c
    rw [e, e2, cond_true, cond_true] at c
    exact local_dna c
  have q0 := cpair_ok [97] [97] (by decide) (by decide)
  have q1 := cpair_ok [97] [98] (by decide) (by decide)
  have e0 := aa_none
  have e1 := ab_none
  unfold tellA tellB at q0 q1
  rw [e0, cond_false] at q0
  rw [e1, cond_false] at q1
  generalize shaB (leafB oneD oneD) = z at *
  refine vc_fn mixed Try.func13 rfl rfl [] (vc_chk rfl) ?_
  repeat' (first
      | ((with_reducible refine vc_chk ?_); first | decide +kernel | rfl)
      | (with_reducible refine vc_side0 ?_; rfl)
      | (with_reducible first
           | refine vc_true ?_ | refine vc_true2 ?_ | refine vc_side ?_ ?_ | refine vc_triv | refine vc_later ?_ | refine vc_caseT ?_ | refine vc_caseF ?_ | refine vc_cons ?_ | refine vc_nil ?_ ?_ | refine vc_seq ?_
              | refine vc_region ?_ | refine vc_cond ?_ | refine vc_block ?_ | refine vc_retc ?_ | refine vc_exit ?_ | refine vc_skip ?_ | refine vc_scope ?_ | refine vc_label ?_ | refine vc_goto ?_ | refine vc_wkSl0
              | refine vc_wkHp0 | refine vc_eqAVs0 | refine vc_preG0 | refine vc_wkSl ?_ ?_ | refine vc_wkHp ?_ ?_ | refine vc_eqAVs ?_ ?_ | refine vc_preG ?_ ?_ | refine vc_side0 ?_ | refine vc_call [] c0 ?_
              | refine vc_weakf [] ?_ ?_ ?_ | refine vc_and ?_ ?_ | refine vc_ret [] [] ?_)
      | ((with_reducible first | refine vc_caseD (fun h => ?_) (fun h => ?_) | refine vc_caseN (fun h => ?_) (fun h => ?_)) <;> try (exfalso; omega))
      | ((with_reducible refine vc_case (fun h => ?_) (fun h => ?_)) <;> (try simp only [Bool.cond_true_left, Bool.cond_false_right, Bool.cond_true_right, Bool.cond_false_left, Bool.and_eq_true, Bool.or_eq_true, Bool.and_eq_false_iff, Bool.or_eq_false_iff, Bool.not_eq_true', Bool.not_eq_false', Bool.not_eq_true, Bool.not_eq_false, Bool.not_not, decide_eq_true_eq, decide_eq_false_iff_not, beq_iff_eq, beq_eq_false_iff_ne, bne_iff_ne, bne_eq_false_iff_eq, ne_eq, Classical.not_not, reduceCtorEq, false_or, or_false, true_and, and_true, Bool.false_eq_true, Bool.true_eq_false] at h) <;> try (exfalso; first | omega | (simp at h; done)))
      | (conv in Vc _ => arg 1; whnf
         first
          | (with_reducible refine vc_side0 ?_; rfl)
          | (with_reducible first
              | refine vc_true ?_ | refine vc_true2 ?_ | refine vc_side ?_ ?_ | refine vc_triv | refine vc_later ?_ | refine vc_caseT ?_ | refine vc_caseF ?_ | refine vc_cons ?_ | refine vc_nil ?_ ?_ | refine vc_seq ?_
                 | refine vc_region ?_ | refine vc_cond ?_ | refine vc_block ?_ | refine vc_retc ?_ | refine vc_exit ?_ | refine vc_skip ?_ | refine vc_scope ?_ | refine vc_label ?_ | refine vc_goto ?_ | refine vc_wkSl0
                 | refine vc_wkHp0 | refine vc_eqAVs0 | refine vc_preG0 | refine vc_wkSl ?_ ?_ | refine vc_wkHp ?_ ?_ | refine vc_eqAVs ?_ ?_ | refine vc_preG ?_ ?_ | refine vc_side0 ?_ | refine vc_call [] c0 ?_
                 | refine vc_weakf [] ?_ ?_ ?_ | refine vc_and ?_ ?_ | refine vc_ret [] [] ?_)
          | ((with_reducible first | refine vc_caseD (fun h => ?_) (fun h => ?_) | refine vc_caseN (fun h => ?_) (fun h => ?_)) <;> try (exfalso; omega))
          | ((with_reducible refine vc_case (fun h => ?_) (fun h => ?_)) <;> (try simp only [Bool.cond_true_left, Bool.cond_false_right, Bool.cond_true_right, Bool.cond_false_left, Bool.and_eq_true, Bool.or_eq_true, Bool.and_eq_false_iff, Bool.or_eq_false_iff, Bool.not_eq_true', Bool.not_eq_false', Bool.not_eq_true, Bool.not_eq_false, Bool.not_not, decide_eq_true_eq, decide_eq_false_iff_not, beq_iff_eq, beq_eq_false_iff_ne, bne_iff_ne, bne_eq_false_iff_eq, ne_eq, Classical.not_not, reduceCtorEq, false_or, or_false, true_and, and_true, Bool.false_eq_true, Bool.true_eq_false] at h) <;> try (exfalso; first | omega | (simp at h; done)))))
  any_goals (conv in Vc _ => arg 1; whnf)
  any_goals (refine vc_call [true, true] q0 ?_)
  repeat' (first
      | ((with_reducible refine vc_chk ?_); first | decide +kernel | rfl)
      | (with_reducible refine vc_side0 ?_; rfl)
      | (with_reducible first
           | refine vc_true ?_ | refine vc_true2 ?_ | refine vc_side ?_ ?_ | refine vc_triv | refine vc_later ?_ | refine vc_caseT ?_ | refine vc_caseF ?_ | refine vc_cons ?_ | refine vc_nil ?_ ?_ | refine vc_seq ?_
              | refine vc_region ?_ | refine vc_cond ?_ | refine vc_block ?_ | refine vc_retc ?_ | refine vc_exit ?_ | refine vc_skip ?_ | refine vc_scope ?_ | refine vc_label ?_ | refine vc_goto ?_ | refine vc_wkSl0
              | refine vc_wkHp0 | refine vc_eqAVs0 | refine vc_preG0 | refine vc_wkSl ?_ ?_ | refine vc_wkHp ?_ ?_ | refine vc_eqAVs ?_ ?_ | refine vc_preG ?_ ?_ | refine vc_side0 ?_ | refine vc_call [] c0 ?_
              | refine vc_weakf [] ?_ ?_ ?_ | refine vc_and ?_ ?_ | refine vc_ret [] [] ?_)
      | ((with_reducible first | refine vc_caseD (fun h => ?_) (fun h => ?_) | refine vc_caseN (fun h => ?_) (fun h => ?_)) <;> try (exfalso; omega))
      | ((with_reducible refine vc_case (fun h => ?_) (fun h => ?_)) <;> (try simp only [Bool.cond_true_left, Bool.cond_false_right, Bool.cond_true_right, Bool.cond_false_left, Bool.and_eq_true, Bool.or_eq_true, Bool.and_eq_false_iff, Bool.or_eq_false_iff, Bool.not_eq_true', Bool.not_eq_false', Bool.not_eq_true, Bool.not_eq_false, Bool.not_not, decide_eq_true_eq, decide_eq_false_iff_not, beq_iff_eq, beq_eq_false_iff_ne, bne_iff_ne, bne_eq_false_iff_eq, ne_eq, Classical.not_not, reduceCtorEq, false_or, or_false, true_and, and_true, Bool.false_eq_true, Bool.true_eq_false] at h) <;> try (exfalso; first | omega | (simp at h; done)))
      | (conv in Vc _ => arg 1; whnf
         first
          | (with_reducible refine vc_side0 ?_; rfl)
          | (with_reducible first
              | refine vc_true ?_ | refine vc_true2 ?_ | refine vc_side ?_ ?_ | refine vc_triv | refine vc_later ?_ | refine vc_caseT ?_ | refine vc_caseF ?_ | refine vc_cons ?_ | refine vc_nil ?_ ?_ | refine vc_seq ?_
                 | refine vc_region ?_ | refine vc_cond ?_ | refine vc_block ?_ | refine vc_retc ?_ | refine vc_exit ?_ | refine vc_skip ?_ | refine vc_scope ?_ | refine vc_label ?_ | refine vc_goto ?_ | refine vc_wkSl0
                 | refine vc_wkHp0 | refine vc_eqAVs0 | refine vc_preG0 | refine vc_wkSl ?_ ?_ | refine vc_wkHp ?_ ?_ | refine vc_eqAVs ?_ ?_ | refine vc_preG ?_ ?_ | refine vc_side0 ?_ | refine vc_call [] c0 ?_
                 | refine vc_weakf [] ?_ ?_ ?_ | refine vc_and ?_ ?_ | refine vc_ret [] [] ?_)
          | ((with_reducible first | refine vc_caseD (fun h => ?_) (fun h => ?_) | refine vc_caseN (fun h => ?_) (fun h => ?_)) <;> try (exfalso; omega))
          | ((with_reducible refine vc_case (fun h => ?_) (fun h => ?_)) <;> (try simp only [Bool.cond_true_left, Bool.cond_false_right, Bool.cond_true_right, Bool.cond_false_left, Bool.and_eq_true, Bool.or_eq_true, Bool.and_eq_false_iff, Bool.or_eq_false_iff, Bool.not_eq_true', Bool.not_eq_false', Bool.not_eq_true, Bool.not_eq_false, Bool.not_not, decide_eq_true_eq, decide_eq_false_iff_not, beq_iff_eq, beq_eq_false_iff_ne, bne_iff_ne, bne_eq_false_iff_eq, ne_eq, Classical.not_not, reduceCtorEq, false_or, or_false, true_and, and_true, Bool.false_eq_true, Bool.true_eq_false] at h) <;> try (exfalso; first | omega | (simp at h; done)))))
  any_goals (conv in Vc _ => arg 1; whnf)
  any_goals (refine vc_call [true, true] q1 ?_)
  repeat' (first
      | ((with_reducible refine vc_chk ?_); first | decide +kernel | rfl)
      | (with_reducible refine vc_side0 ?_; rfl)
      | (with_reducible first
           | refine vc_true ?_ | refine vc_true2 ?_ | refine vc_side ?_ ?_ | refine vc_triv | refine vc_later ?_ | refine vc_caseT ?_ | refine vc_caseF ?_ | refine vc_cons ?_ | refine vc_nil ?_ ?_ | refine vc_seq ?_
              | refine vc_region ?_ | refine vc_cond ?_ | refine vc_block ?_ | refine vc_retc ?_ | refine vc_exit ?_ | refine vc_skip ?_ | refine vc_scope ?_ | refine vc_label ?_ | refine vc_goto ?_ | refine vc_wkSl0
              | refine vc_wkHp0 | refine vc_eqAVs0 | refine vc_preG0 | refine vc_wkSl ?_ ?_ | refine vc_wkHp ?_ ?_ | refine vc_eqAVs ?_ ?_ | refine vc_preG ?_ ?_ | refine vc_side0 ?_ | refine vc_call [] c0 ?_
              | refine vc_call [] c1 ?_ | refine vc_weakf [] ?_ ?_ ?_ | refine vc_and ?_ ?_ | refine vc_ret [] [] ?_)
      | ((with_reducible first | refine vc_caseD (fun h => ?_) (fun h => ?_) | refine vc_caseN (fun h => ?_) (fun h => ?_)) <;> try (exfalso; omega))
      | ((with_reducible refine vc_case (fun h => ?_) (fun h => ?_)) <;> (try simp only [Bool.cond_true_left, Bool.cond_false_right, Bool.cond_true_right, Bool.cond_false_left, Bool.and_eq_true, Bool.or_eq_true, Bool.and_eq_false_iff, Bool.or_eq_false_iff, Bool.not_eq_true', Bool.not_eq_false', Bool.not_eq_true, Bool.not_eq_false, Bool.not_not, decide_eq_true_eq, decide_eq_false_iff_not, beq_iff_eq, beq_eq_false_iff_ne, bne_iff_ne, bne_eq_false_iff_eq, ne_eq, Classical.not_not, reduceCtorEq, false_or, or_false, true_and, and_true, Bool.false_eq_true, Bool.true_eq_false] at h) <;> try (exfalso; first | omega | (simp at h; done)))
      | (conv in Vc _ => arg 1; whnf
         first
          | (with_reducible refine vc_side0 ?_; rfl)
          | (with_reducible first
              | refine vc_true ?_ | refine vc_true2 ?_ | refine vc_side ?_ ?_ | refine vc_triv | refine vc_later ?_ | refine vc_caseT ?_ | refine vc_caseF ?_ | refine vc_cons ?_ | refine vc_nil ?_ ?_ | refine vc_seq ?_
                 | refine vc_region ?_ | refine vc_cond ?_ | refine vc_block ?_ | refine vc_retc ?_ | refine vc_exit ?_ | refine vc_skip ?_ | refine vc_scope ?_ | refine vc_label ?_ | refine vc_goto ?_ | refine vc_wkSl0
                 | refine vc_wkHp0 | refine vc_eqAVs0 | refine vc_preG0 | refine vc_wkSl ?_ ?_ | refine vc_wkHp ?_ ?_ | refine vc_eqAVs ?_ ?_ | refine vc_preG ?_ ?_ | refine vc_side0 ?_ | refine vc_call [] c0 ?_
                 | refine vc_call [] c1 ?_ | refine vc_weakf [] ?_ ?_ ?_ | refine vc_and ?_ ?_ | refine vc_ret [] [] ?_)
          | ((with_reducible first | refine vc_caseD (fun h => ?_) (fun h => ?_) | refine vc_caseN (fun h => ?_) (fun h => ?_)) <;> try (exfalso; omega))
          | ((with_reducible refine vc_case (fun h => ?_) (fun h => ?_)) <;> (try simp only [Bool.cond_true_left, Bool.cond_false_right, Bool.cond_true_right, Bool.cond_false_left, Bool.and_eq_true, Bool.or_eq_true, Bool.and_eq_false_iff, Bool.or_eq_false_iff, Bool.not_eq_true', Bool.not_eq_false', Bool.not_eq_true, Bool.not_eq_false, Bool.not_not, decide_eq_true_eq, decide_eq_false_iff_not, beq_iff_eq, beq_eq_false_iff_ne, bne_iff_ne, bne_eq_false_iff_eq, ne_eq, Classical.not_not, reduceCtorEq, false_or, or_false, true_and, and_true, Bool.false_eq_true, Bool.true_eq_false] at h) <;> try (exfalso; first | omega | (simp at h; done)))))
  all_goals first
    | exact ⟨by decide, rfl⟩
    | exact ⟨by decide, by decide, trivial⟩
    | exact ⟨by decide, trivial⟩
    | exact ⟨trivial, trivial, trivial, trivial⟩
    | rfl
    | trace_state

end Go.Proofs.Ytdceegllpcepnaa
