import Derived.Test.YtdceegllpcepnaaJ1
import Derived.Test.YtdceegllpcepnaaJ2
import Derived.Test.YtdceegllpcepnaaJ3
import Derived.Test.YtdceegllpcepnaaJ4
import Derived.Test.YtdceegllpcepnaaJ5
import Derived.Test.YtdceegllpcepnaaJ6
import Derived.Test.YtdceegllpcepnaaJ7
import Derived.Test.YtdceegllpcepnaaJ8
import Derived.Test.YtdceegllpcepnaaJ9
import Derived.Test.YtdceegllpcepnaaJ10
import Derived.Test.YtdceegllpcepnaaJ11
import Derived.Test.YtdceegllpcepnaaJ12
set_option linter.unusedSimpArgs false
set_option linter.unusedVariables false
/-
Trees by definition, as the document's answer makes them: leaves of two lists; the way told.
-/
set_option linter.unusedSimpArgs false
set_option linter.unusedVariables false
namespace Go.Proofs.Ytdceegllpcepnaa
open Go.Sym
set_option maxRecDepth 10000
set_option maxHeartbeats 4000000

/-- So many leaves put. -/
def ofN (a v : List (List UInt8)) (i : Nat) : Lvs := ((a.zip v).take i).foldl (fun l x => putL x.1 x.2 l) []
theorem ofN_all (a v : List (List UInt8)) {i : Nat} (h : (a.zip v).length ≤ i) : ofN a v i = ofL a v := by unfold ofN ofL; rw [List.take_of_length_le h]
theorem ofN_succ (a v : List (List UInt8)) {i : Nat} (h1 : i < a.length) (h2 : i < v.length) : ofN a v (i + 1) = putL (a.getD i []) (v.getD i []) (ofN a v i) := by
  unfold ofN
  have hz : i < (a.zip v).length := by rw [List.length_zip]; omega
  rw [List.take_add_one, List.getElem?_eq_getElem hz, List.foldl_append]
  show putL (a.zip v)[i].1 (a.zip v)[i].2 _ = _
  rw [List.getElem_zip, List.getD_eq_getElem?_getD, List.getD_eq_getElem?_getD, List.getElem?_eq_getElem h1, List.getElem?_eq_getElem h2]; rfl
theorem digs_len {a : List (List UInt8)} (ha : ∀ x, x ∈ a → x.length = 32) {i : Nat} (h : i < a.length) : (a.getD i []).length = 32 := ha _ (by rw [List.getD_eq_getElem?_getD, List.getElem?_eq_getElem h]; simp)
theorem ofN_ok {a v : List (List UInt8)} (ha : ∀ x, x ∈ a → x.length = 32) (hv : ∀ x, x ∈ v → x.length = 32) : ∀ i, wfL (ofN a v i) ∧ (keysL (ofN a v i)).Nodup ∧ (ofN a v i).length ≤ i
  | 0 => ⟨nofun, List.nodup_nil, Nat.le_refl _⟩
  | i + 1 => by
    obtain ⟨h1, h2, h3⟩ := ofN_ok ha hv i
    by_cases hi : i < a.length ∧ i < v.length
    · rw [ofN_succ a v hi.1 hi.2]
      exact ⟨putL_wf (digs_len ha hi.1) (digs_len hv hi.2) h1, putL_nodup _ _ _ h2, Nat.le_trans (putL_length _ _ _) (by omega)⟩
    · have hz : (a.zip v).length ≤ i := by rw [List.length_zip]; omega
      rw [ofN_all a v (Nat.le_trans hz (Nat.le_succ i)), ← ofN_all a v hz]
      exact ⟨h1, h2, by omega⟩
theorem digs_at {a : List (List UInt8)} {i : Nat} (hi : i < a.length) : (a.map digD).getD i .nilp = digD (a.getD i []) := (map_at (f := digD) (d := []) hi).1

abbrev lvZ : Nat → Lvs → D
  | 0, _ => .st [.nils, .nils]
  | _ + 1, L => lvD L

theorem of7_ok (a v : List (List UInt8)) (ha : ∀ x, x ∈ a → x.length = 32) (hv : ∀ x, x ∈ v → x.length = 32) (hl : a.length ≤ 60) (hvl : v.length < 2 ^ 63) : LocalCall Try.prog 19 [.d (.sl (a.map digD)), .d (.sl (v.map digD))] [] [] (one [.d (lvD (ofL a v))]) [] := by
  have la : (a.map digD).length = a.length := List.length_map _
  have lv : (v.map digD).length = v.length := List.length_map _
  have lz : (a.zip v).length = min a.length v.length := List.length_zip
  have cp : ∀ i, i < a.length → i < v.length → LocalCall Try.prog 39 [.d (lvZ i (ofN a v i)), .d (digD (a.getD i [])), .d (digD (v.getD i []))] [] [] (one [.d (lvD (ofN a v (i + 1)))]) [] := fun i h1 h2 => by
    obtain ⟨w1, w2, w3⟩ := ofN_ok ha hv i
    have c := put_ok (ofN a v i) w1 (by omega) (a.getD i []) (v.getD i []) (digs_len ha h1) (digs_len hv h2)
    rw [← ofN_succ a v h1 h2] at c
    cases i with
    | zero => exact local_dna c
    | succ i => exact c
  have key : LocalCall Try.prog 19 [.d (.sl (a.map digD)), .d (.sl (v.map digD))] [] [] (one [.d (lvZ (min a.length v.length) (ofN a v (min a.length v.length)))]) [] := by
    refine vc_fn mixed Try.func19 rfl rfl [] (vc_chk rfl) ?_
    repeat' (first
        | ((with_reducible refine vc_chk ?_); first | decide +kernel | rfl)
        | (with_reducible refine vc_side0 ?_; rfl)
        | (with_reducible first
             | refine vc_true ?_ | refine vc_true2 ?_ | refine vc_side ?_ ?_ | refine vc_triv | refine vc_later ?_ | refine vc_caseT ?_ | refine vc_caseF ?_ | refine vc_cons ?_ | refine vc_nil ?_ ?_ | refine vc_seq ?_
                | refine vc_region ?_ | refine vc_cond ?_ | refine vc_block ?_ | refine vc_retc ?_ | refine vc_exit ?_ | refine vc_skip ?_ | refine vc_scope ?_ | refine vc_label ?_ | refine vc_goto ?_ | refine vc_wkSl0
                | refine vc_wkHp0 | refine vc_eqAVs0 | refine vc_preG0 | refine vc_wkSl ?_ ?_ | refine vc_wkHp ?_ ?_ | refine vc_eqAVs ?_ ?_ | refine vc_preG ?_ ?_ | refine vc_side0 ?_
                | refine vc_loopI 31 (fun (i : Nat) => [(0, .d (.sl (a.map digD))), (1, .d (.sl (v.map digD))), (4, .ptr 1000 []), (5, .ptr 2004 []), (6, .d (.int .i64 (i : Int)))]) (fun i => [(1000, .var (.d (.st [.nils, .nils]))), (2004, .var (.d (lvZ i (ofN a v i))))]) (fun i => a.length - i) (fun i => i ≤ a.length ∧ i ≤ v.length) 0 [] ?_ ?_ ?_ ?_ ?_ (fun i hI => ?_)
                | refine vc_weakf [] ?_ ?_ ?_ | refine vc_and ?_ ?_ | refine vc_ret [] [] ?_)
        | ((with_reducible first | refine vc_caseD (fun h => ?_) (fun h => ?_) | refine vc_caseN (fun h => ?_) (fun h => ?_)) <;> try (exfalso; omega))
        | ((with_reducible refine vc_case (fun h => ?_) (fun h => ?_)) <;> (try simp only [Bool.cond_true_left, Bool.cond_false_right, Bool.cond_true_right, Bool.cond_false_left, Bool.and_eq_true, Bool.or_eq_true, Bool.and_eq_false_iff, Bool.or_eq_false_iff, Bool.not_eq_true', Bool.not_eq_false', Bool.not_eq_true, Bool.not_eq_false, Bool.not_not, decide_eq_true_eq, decide_eq_false_iff_not, beq_iff_eq, beq_eq_false_iff_ne, bne_iff_ne, bne_eq_false_iff_eq, ne_eq, Classical.not_not, reduceCtorEq, false_or, or_false, true_and, and_true, Bool.false_eq_true, Bool.true_eq_false] at h) <;> try (exfalso; first | omega | (simp at h; done)))
        | (conv in Vc _ => arg 1; whnf
           first
            | (with_reducible refine vc_side0 ?_; rfl)
            | (with_reducible first
                | refine vc_true ?_ | refine vc_true2 ?_ | refine vc_side ?_ ?_ | refine vc_triv | refine vc_later ?_ | refine vc_caseT ?_ | refine vc_caseF ?_ | refine vc_cons ?_ | refine vc_nil ?_ ?_ | refine vc_seq ?_
                   | refine vc_region ?_ | refine vc_cond ?_ | refine vc_block ?_ | refine vc_retc ?_ | refine vc_exit ?_ | refine vc_skip ?_ | refine vc_scope ?_ | refine vc_label ?_ | refine vc_goto ?_ | refine vc_wkSl0
                   | refine vc_wkHp0 | refine vc_eqAVs0 | refine vc_preG0 | refine vc_wkSl ?_ ?_ | refine vc_wkHp ?_ ?_ | refine vc_eqAVs ?_ ?_ | refine vc_preG ?_ ?_ | refine vc_side0 ?_
                   | refine vc_loopI 31 (fun (i : Nat) => [(0, .d (.sl (a.map digD))), (1, .d (.sl (v.map digD))), (4, .ptr 1000 []), (5, .ptr 2004 []), (6, .d (.int .i64 (i : Int)))]) (fun i => [(1000, .var (.d (.st [.nils, .nils]))), (2004, .var (.d (lvZ i (ofN a v i))))]) (fun i => a.length - i) (fun i => i ≤ a.length ∧ i ≤ v.length) 0 [] ?_ ?_ ?_ ?_ ?_ (fun i hI => ?_)
                   | refine vc_weakf [] ?_ ?_ ?_ | refine vc_and ?_ ?_ | refine vc_ret [] [] ?_)
            | ((with_reducible first | refine vc_caseD (fun h => ?_) (fun h => ?_) | refine vc_caseN (fun h => ?_) (fun h => ?_)) <;> try (exfalso; omega))
            | ((with_reducible refine vc_case (fun h => ?_) (fun h => ?_)) <;> (try simp only [Bool.cond_true_left, Bool.cond_false_right, Bool.cond_true_right, Bool.cond_false_left, Bool.and_eq_true, Bool.or_eq_true, Bool.and_eq_false_iff, Bool.or_eq_false_iff, Bool.not_eq_true', Bool.not_eq_false', Bool.not_eq_true, Bool.not_eq_false, Bool.not_not, decide_eq_true_eq, decide_eq_false_iff_not, beq_iff_eq, beq_eq_false_iff_ne, bne_iff_ne, bne_eq_false_iff_eq, ne_eq, Classical.not_not, reduceCtorEq, false_or, or_false, true_and, and_true, Bool.false_eq_true, Bool.true_eq_false] at h) <;> try (exfalso; first | omega | (simp at h; done)))))
    all_goals first
      | with_reducible rfl
      | exact ⟨Nat.zero_le _, Nat.zero_le _⟩
      | skip
    any_goals (rcases i with _ | i)
    repeat' (first
        | ((with_reducible refine vc_chk ?_); first | decide +kernel | rfl)
        | (with_reducible refine vc_side0 ?_; rfl)
        | (with_reducible first
             | refine vc_true ?_ | refine vc_true2 ?_ | refine vc_side ?_ ?_ | refine vc_triv | refine vc_later ?_ | refine vc_caseT ?_ | refine vc_caseF ?_ | refine vc_cons ?_ | refine vc_nil ?_ ?_ | refine vc_seq ?_
                | refine vc_region ?_ | refine vc_cond ?_ | refine vc_block ?_ | refine vc_retc ?_ | refine vc_exit ?_ | refine vc_skip ?_ | refine vc_scope ?_ | refine vc_label ?_ | refine vc_goto ?_ | refine vc_wkSl0
                | refine vc_wkHp0 | refine vc_eqAVs0 | refine vc_preG0 | refine vc_wkSl ?_ ?_ | refine vc_wkHp ?_ ?_ | refine vc_eqAVs ?_ ?_ | refine vc_preG ?_ ?_ | refine vc_side0 ?_
                | refine vc_call [] (cp (i + 1) (by omega) (by omega)) ?_ | refine vc_call [] (cp 0 (by omega) (by omega)) ?_ | refine vc_nextI (i + 1 + 1) [] ?_ ?_ ?_ ?_ ?_ ?_ | refine vc_nextI 1 [] ?_ ?_ ?_ ?_ ?_ ?_
                | refine vc_weakf [] ?_ ?_ ?_ | refine vc_and ?_ ?_ | refine vc_ret [] [] ?_)
        | ((with_reducible first | refine vc_caseD (fun h => ?_) (fun h => ?_) | refine vc_caseN (fun h => ?_) (fun h => ?_)) <;> try (exfalso; omega))
        | ((with_reducible refine vc_case (fun h => ?_) (fun h => ?_)) <;> (try simp only [Bool.cond_true_left, Bool.cond_false_right, Bool.cond_true_right, Bool.cond_false_left, Bool.and_eq_true, Bool.or_eq_true, Bool.and_eq_false_iff, Bool.or_eq_false_iff, Bool.not_eq_true', Bool.not_eq_false', Bool.not_eq_true, Bool.not_eq_false, Bool.not_not, decide_eq_true_eq, decide_eq_false_iff_not, beq_iff_eq, beq_eq_false_iff_ne, bne_iff_ne, bne_eq_false_iff_eq, ne_eq, Classical.not_not, reduceCtorEq, false_or, or_false, true_and, and_true, Bool.false_eq_true, Bool.true_eq_false] at h) <;> try (exfalso; first | omega | (simp at h; done)))
        | (conv in Vc _ => arg 1; whnf
           first
            | (with_reducible refine vc_side0 ?_; rfl)
            | (with_reducible first
                | refine vc_true ?_ | refine vc_true2 ?_ | refine vc_side ?_ ?_ | refine vc_triv | refine vc_later ?_ | refine vc_caseT ?_ | refine vc_caseF ?_ | refine vc_cons ?_ | refine vc_nil ?_ ?_ | refine vc_seq ?_
                   | refine vc_region ?_ | refine vc_cond ?_ | refine vc_block ?_ | refine vc_retc ?_ | refine vc_exit ?_ | refine vc_skip ?_ | refine vc_scope ?_ | refine vc_label ?_ | refine vc_goto ?_ | refine vc_wkSl0
                   | refine vc_wkHp0 | refine vc_eqAVs0 | refine vc_preG0 | refine vc_wkSl ?_ ?_ | refine vc_wkHp ?_ ?_ | refine vc_eqAVs ?_ ?_ | refine vc_preG ?_ ?_ | refine vc_side0 ?_
                   | refine vc_call [] (cp (i + 1) (by omega) (by omega)) ?_ | refine vc_call [] (cp 0 (by omega) (by omega)) ?_ | refine vc_nextI (i + 1 + 1) [] ?_ ?_ ?_ ?_ ?_ ?_ | refine vc_nextI 1 [] ?_ ?_ ?_ ?_ ?_ ?_
                   | refine vc_weakf [] ?_ ?_ ?_ | refine vc_and ?_ ?_ | refine vc_ret [] [] ?_)
            | ((with_reducible first | refine vc_caseD (fun h => ?_) (fun h => ?_) | refine vc_caseN (fun h => ?_) (fun h => ?_)) <;> try (exfalso; omega))
            | ((with_reducible refine vc_case (fun h => ?_) (fun h => ?_)) <;> (try simp only [Bool.cond_true_left, Bool.cond_false_right, Bool.cond_true_right, Bool.cond_false_left, Bool.and_eq_true, Bool.or_eq_true, Bool.and_eq_false_iff, Bool.or_eq_false_iff, Bool.not_eq_true', Bool.not_eq_false', Bool.not_eq_true, Bool.not_eq_false, Bool.not_not, decide_eq_true_eq, decide_eq_false_iff_not, beq_iff_eq, beq_eq_false_iff_ne, bne_iff_ne, bne_eq_false_iff_eq, ne_eq, Classical.not_not, reduceCtorEq, false_or, or_false, true_and, and_true, Bool.false_eq_true, Bool.true_eq_false] at h) <;> try (exfalso; first | omega | (simp at h; done)))))
    all_goals (try (rw [show min a.length v.length = 0 by omega]))
    all_goals (try (rw [show min a.length v.length = i + 1 by omega]))
    repeat' (first
        | ((with_reducible refine vc_chk ?_); first | decide +kernel | rfl)
        | (with_reducible refine vc_side0 ?_; rfl)
        | (with_reducible first
             | refine vc_true ?_ | refine vc_true2 ?_ | refine vc_side ?_ ?_ | refine vc_triv | refine vc_later ?_ | refine vc_caseT ?_ | refine vc_caseF ?_ | refine vc_cons ?_ | refine vc_nil ?_ ?_ | refine vc_seq ?_
                | refine vc_region ?_ | refine vc_cond ?_ | refine vc_block ?_ | refine vc_retc ?_ | refine vc_exit ?_ | refine vc_skip ?_ | refine vc_scope ?_ | refine vc_label ?_ | refine vc_goto ?_ | refine vc_wkSl0
                | refine vc_wkHp0 | refine vc_eqAVs0 | refine vc_preG0 | refine vc_wkSl ?_ ?_ | refine vc_wkHp ?_ ?_ | refine vc_eqAVs ?_ ?_ | refine vc_preG ?_ ?_ | refine vc_side0 ?_ | refine vc_weakf [] ?_ ?_ ?_
                | refine vc_and ?_ ?_ | refine vc_ret [] [] ?_)
        | ((with_reducible first | refine vc_caseD (fun h => ?_) (fun h => ?_) | refine vc_caseN (fun h => ?_) (fun h => ?_)) <;> try (exfalso; omega))
        | ((with_reducible refine vc_case (fun h => ?_) (fun h => ?_)) <;> (try simp only [Bool.cond_true_left, Bool.cond_false_right, Bool.cond_true_right, Bool.cond_false_left, Bool.and_eq_true, Bool.or_eq_true, Bool.and_eq_false_iff, Bool.or_eq_false_iff, Bool.not_eq_true', Bool.not_eq_false', Bool.not_eq_true, Bool.not_eq_false, Bool.not_not, decide_eq_true_eq, decide_eq_false_iff_not, beq_iff_eq, beq_eq_false_iff_ne, bne_iff_ne, bne_eq_false_iff_eq, ne_eq, Classical.not_not, reduceCtorEq, false_or, or_false, true_and, and_true, Bool.false_eq_true, Bool.true_eq_false] at h) <;> try (exfalso; first | omega | (simp at h; done)))
        | (conv in Vc _ => arg 1; whnf
           first
            | (with_reducible refine vc_side0 ?_; rfl)
            | (with_reducible first
                | refine vc_true ?_ | refine vc_true2 ?_ | refine vc_side ?_ ?_ | refine vc_triv | refine vc_later ?_ | refine vc_caseT ?_ | refine vc_caseF ?_ | refine vc_cons ?_ | refine vc_nil ?_ ?_ | refine vc_seq ?_
                   | refine vc_region ?_ | refine vc_cond ?_ | refine vc_block ?_ | refine vc_retc ?_ | refine vc_exit ?_ | refine vc_skip ?_ | refine vc_scope ?_ | refine vc_label ?_ | refine vc_goto ?_ | refine vc_wkSl0
                   | refine vc_wkHp0 | refine vc_eqAVs0 | refine vc_preG0 | refine vc_wkSl ?_ ?_ | refine vc_wkHp ?_ ?_ | refine vc_eqAVs ?_ ?_ | refine vc_preG ?_ ?_ | refine vc_side0 ?_ | refine vc_weakf [] ?_ ?_ ?_
                   | refine vc_and ?_ ?_ | refine vc_ret [] [] ?_)
            | ((with_reducible first | refine vc_caseD (fun h => ?_) (fun h => ?_) | refine vc_caseN (fun h => ?_) (fun h => ?_)) <;> try (exfalso; omega))
            | ((with_reducible refine vc_case (fun h => ?_) (fun h => ?_)) <;> (try simp only [Bool.cond_true_left, Bool.cond_false_right, Bool.cond_true_right, Bool.cond_false_left, Bool.and_eq_true, Bool.or_eq_true, Bool.and_eq_false_iff, Bool.or_eq_false_iff, Bool.not_eq_true', Bool.not_eq_false', Bool.not_eq_true, Bool.not_eq_false, Bool.not_not, decide_eq_true_eq, decide_eq_false_iff_not, beq_iff_eq, beq_eq_false_iff_ne, bne_iff_ne, bne_eq_false_iff_eq, ne_eq, Classical.not_not, reduceCtorEq, false_or, or_false, true_and, and_true, Bool.false_eq_true, Bool.true_eq_false] at h) <;> try (exfalso; first | omega | (simp at h; done)))))
    all_goals first
      | with_reducible rfl
      | (exfalso; omega)
      | omega
      | exact ⟨by omega, by omega⟩
      | exact ⟨⟨by omega, by omega⟩, by rw [Int.toNat_natCast, digs_at (by omega)]; rfl⟩
      | (rw [Int.toNat_natCast, digs_at (by omega)]; rfl)
      | (rw [wrap64_id (by omega) (by omega)]; rfl)
      | rfl
      | trace_state
  have e : (lvZ (min a.length v.length) (ofN a v (min a.length v.length))).dn = lvD (ofL a v) := by
    rw [← ofN_all a v (i := min a.length v.length) (by rw [lz]; exact Nat.le_refl _)]
    cases min a.length v.length <;> rfl
  rw [← e]
  exact local_dn1 key

/-- What is known on the way to an index. -/
structure ProI (l : Lvs) (idx : List UInt8) (x : Nat × Lvs × List (List UInt8)) : Prop where
  hd : x.1 ≤ 256
  wf : wfL x.2.1
  nd : (keysL x.2.1).Nodup
  ag : agree x.2.1 x.1
  le : x.2.1.length ≤ 1000
  eq : prfL l idx = prfO (x.2.2 ++ (proveF (257 - x.1) x.1 x.2.1 idx).1) (proveF (257 - x.1) x.1 x.2.1 idx).2
  len : x.2.2.length = x.1
theorem ProI.next {l : Lvs} {idx : List UInt8} {x : Nat × Lvs × List (List UInt8)} (h : ProI l idx x) (hd : x.1 < 256) (hl : ¬ x.2.1.length ≤ 1) :
    ProI l idx (x.1 + 1, halfL x.2.1 x.1 (bitI idx (x.1 : Int)), x.2.2 ++ [rootF (256 - x.1) (x.1 + 1) (halfL x.2.1 x.1 (!bitI idx (x.1 : Int)))]) := by
  refine ⟨hd, halfL_wf h.wf _ _, halfL_nodup h.nd _ _, agree_half h.ag hd _, Nat.le_trans (halfL_length _ _ _) h.le, ?_, by simp [h.len]⟩
  have e := h.eq
  rw [show 257 - x.1 = (256 - x.1) + 1 by omega, proveF, decide_eq_false hl, cond_false] at e
  rw [e]
  simp only [List.append_assoc, List.singleton_append, show 257 - (x.1 + 1) = 256 - x.1 by omega]
theorem ProI.fin {l : Lvs} {idx : List UInt8} {x : Nat × Lvs × List (List UInt8)} (h : ProI l idx x) (hl : x.2.1.length ≤ 1) : prfL l idx = prfO x.2.2 x.2.1.head? := by
  have e := h.eq
  have := h.hd
  rw [show 257 - x.1 = (256 - x.1) + 1 by omega, proveF, decide_eq_true hl, cond_true, List.append_nil] at e
  exact e
theorem prfO_none (ys : List (List UInt8)) {l : Lvs} (h : l.length = 0) : prfO ys l.head? = ⟨ys, 0, zero32, zero32⟩ := by
  match l, h with
  | [], _ => rfl
theorem prfO_one (ys : List (List UInt8)) {l : Lvs} (h : l.length = 1) : prfO ys l.head? = ⟨ys, 1, (l.getD 0 lf0).1, (l.getD 0 lf0).2⟩ := by
  match l, h with
  | [x], _ => rfl

theorem prove_ok (l : Lvs) (hw : wfL l) (hn : (keysL l).Nodup) (hl : l.length ≤ 1000) (idx : List UInt8) (hx : idx.length = 32) : LocalCall Try.prog 22 [.d (lvD l), .d (digD idx)] [] [] (one [.d (pD (prfL l idx))]) [] := by
  have cb : ∀ d : Nat, _ := fun d => rBit_ok (idx.map byteD) idx rfl hx (d : Int)
  have ch : ∀ x, ProI l idx x → ∀ on, _ := fun x hI on => half_ok x.2.1 hI.wf hI.le x.1 on
  have cr : ∀ x, ProI l idx x → x.1 < 256 → LocalCall Try.prog 20 [.d (lvD (halfL x.2.1 x.1 (!bitI idx (x.1 : Int)))), .d (.int .i64 (IntKind.i64.wrap ((x.1 : Int) + 1)))] [] [] (one [.d (digD (rootF (256 - x.1) (x.1 + 1) (halfL x.2.1 x.1 (!bitI idx (x.1 : Int)))))]) [] := fun x hI hd => by
    have c := root_ok (255 - x.1) (x.1 + 1) (halfL x.2.1 x.1 (!bitI idx (x.1 : Int))) (by omega) (halfL_wf hI.wf _ _) (halfL_nodup hI.nd _ _) (agree_half hI.ag hd _) (Nat.le_trans (halfL_length _ _ _) hI.le)
    rw [wrap64_id (by omega) (by omega)]
    rwa [show 255 - x.1 + 1 = 256 - x.1 by omega] at c
  have i0 : ProI l idx (0, l, []) := ⟨Nat.zero_le _, hw, hn, agree_zero l, hl, rfl, rfl⟩
  refine vc_fn mixed Try.func22 rfl rfl [(500001, [1000000032000000009000002004])] (vc_chk rfl) ?_
  repeat' (first
      | ((with_reducible refine vc_chk ?_); first | decide +kernel | rfl)
      | (with_reducible refine vc_side0 ?_; rfl)
      | (with_reducible first
           | refine vc_true ?_ | refine vc_true2 ?_ | refine vc_side ?_ ?_ | refine vc_triv | refine vc_later ?_ | refine vc_caseT ?_ | refine vc_caseF ?_ | refine vc_cons ?_ | refine vc_nil ?_ ?_ | refine vc_seq ?_
              | refine vc_region ?_ | refine vc_cond ?_ | refine vc_block ?_ | refine vc_retc ?_ | refine vc_exit ?_ | refine vc_skip ?_ | refine vc_scope ?_ | refine vc_label ?_ | refine vc_goto ?_ | refine vc_wkSl0
              | refine vc_wkHp0 | refine vc_eqAVs0 | refine vc_preG0 | refine vc_wkSl ?_ ?_ | refine vc_wkHp ?_ ?_ | refine vc_eqAVs ?_ ?_ | refine vc_preG ?_ ?_ | refine vc_side0 ?_ | refine vc_pure (cb x.1) ?_ ?_ ?_
              | refine vc_pure (ch x hI (!bitI idx (x.1 : Int))) ?_ ?_ ?_ | refine vc_pure (ch x hI (bitI idx (x.1 : Int))) ?_ ?_ ?_ | refine vc_pure (cr x hI (by omega)) ?_ ?_ ?_
              | refine vc_loopI 55 (fun (x : Nat × Lvs × List (List UInt8)) => [(2, .ptr 1000 []), (3, .ptr 1004 []), (4, .ptr 1008 []), (5, .ptr 2004 []), (6, .d (.int .i64 (x.1 : Int)))]) (fun x => [(1000, .var (.d (lvD x.2.1))), (1004, .var (.d (digD idx))), (1008, .var (.d (.st [.nils, .int .i64 0, digD zero32, digD zero32]))), (2004, .var (.st [.sl 9 [] 32 0 (x.2.2.map digD).length, .d (.int .i64 0), .d (digD zero32), .d (digD zero32)])), (9, .row 32 (x.2.2.map digD))]) (fun x => 256 - x.1) (ProI l idx) (0, l, []) [] ?_ ?_ ?_ ?_ ?_ (fun x hI => ?_)
              | refine vc_nextI (x.1 + 1, halfL x.2.1 x.1 (bitI idx (x.1 : Int)), x.2.2 ++ [rootF (256 - x.1) (x.1 + 1) (halfL x.2.1 x.1 (!bitI idx (x.1 : Int)))]) [(9, 7044)] ?_ ?_ ?_ ?_ ?_ ?_ | refine vc_ret [true] [] ?_
              | refine vc_weakf [] ?_ ?_ ?_ | refine vc_and ?_ ?_ | refine vc_ret [] [] ?_)
      | ((with_reducible first | refine vc_caseD (fun h => ?_) (fun h => ?_) | refine vc_caseN (fun h => ?_) (fun h => ?_)) <;> try (exfalso; omega))
      | ((with_reducible refine vc_case (fun h => ?_) (fun h => ?_)) <;> (try simp only [Bool.cond_true_left, Bool.cond_false_right, Bool.cond_true_right, Bool.cond_false_left, Bool.and_eq_true, Bool.or_eq_true, Bool.and_eq_false_iff, Bool.or_eq_false_iff, Bool.not_eq_true', Bool.not_eq_false', Bool.not_eq_true, Bool.not_eq_false, Bool.not_not, decide_eq_true_eq, decide_eq_false_iff_not, beq_iff_eq, beq_eq_false_iff_ne, bne_iff_ne, bne_eq_false_iff_eq, ne_eq, Classical.not_not, reduceCtorEq, false_or, or_false, true_and, and_true, Bool.false_eq_true, Bool.true_eq_false] at h) <;> try (exfalso; first | omega | (simp at h; done)))
      | (conv in Vc _ => arg 1; whnf
         first
          | (with_reducible refine vc_side0 ?_; rfl)
          | (with_reducible first
              | refine vc_true ?_ | refine vc_true2 ?_ | refine vc_side ?_ ?_ | refine vc_triv | refine vc_later ?_ | refine vc_caseT ?_ | refine vc_caseF ?_ | refine vc_cons ?_ | refine vc_nil ?_ ?_ | refine vc_seq ?_
                 | refine vc_region ?_ | refine vc_cond ?_ | refine vc_block ?_ | refine vc_retc ?_ | refine vc_exit ?_ | refine vc_skip ?_ | refine vc_scope ?_ | refine vc_label ?_ | refine vc_goto ?_ | refine vc_wkSl0
                 | refine vc_wkHp0 | refine vc_eqAVs0 | refine vc_preG0 | refine vc_wkSl ?_ ?_ | refine vc_wkHp ?_ ?_ | refine vc_eqAVs ?_ ?_ | refine vc_preG ?_ ?_ | refine vc_side0 ?_ | refine vc_pure (cb x.1) ?_ ?_ ?_
                 | refine vc_pure (ch x hI (!bitI idx (x.1 : Int))) ?_ ?_ ?_ | refine vc_pure (ch x hI (bitI idx (x.1 : Int))) ?_ ?_ ?_ | refine vc_pure (cr x hI (by omega)) ?_ ?_ ?_
                 | refine vc_loopI 55 (fun (x : Nat × Lvs × List (List UInt8)) => [(2, .ptr 1000 []), (3, .ptr 1004 []), (4, .ptr 1008 []), (5, .ptr 2004 []), (6, .d (.int .i64 (x.1 : Int)))]) (fun x => [(1000, .var (.d (lvD x.2.1))), (1004, .var (.d (digD idx))), (1008, .var (.d (.st [.nils, .int .i64 0, digD zero32, digD zero32]))), (2004, .var (.st [.sl 9 [] 32 0 (x.2.2.map digD).length, .d (.int .i64 0), .d (digD zero32), .d (digD zero32)])), (9, .row 32 (x.2.2.map digD))]) (fun x => 256 - x.1) (ProI l idx) (0, l, []) [] ?_ ?_ ?_ ?_ ?_ (fun x hI => ?_)
                 | refine vc_nextI (x.1 + 1, halfL x.2.1 x.1 (bitI idx (x.1 : Int)), x.2.2 ++ [rootF (256 - x.1) (x.1 + 1) (halfL x.2.1 x.1 (!bitI idx (x.1 : Int)))]) [(9, 7044)] ?_ ?_ ?_ ?_ ?_ ?_ | refine vc_ret [true] [] ?_
                 | refine vc_weakf [] ?_ ?_ ?_ | refine vc_and ?_ ?_ | refine vc_ret [] [] ?_)
          | ((with_reducible first | refine vc_caseD (fun h => ?_) (fun h => ?_) | refine vc_caseN (fun h => ?_) (fun h => ?_)) <;> try (exfalso; omega))
          | ((with_reducible refine vc_case (fun h => ?_) (fun h => ?_)) <;> (try simp only [Bool.cond_true_left, Bool.cond_false_right, Bool.cond_true_right, Bool.cond_false_left, Bool.and_eq_true, Bool.or_eq_true, Bool.and_eq_false_iff, Bool.or_eq_false_iff, Bool.not_eq_true', Bool.not_eq_false', Bool.not_eq_true, Bool.not_eq_false, Bool.not_not, decide_eq_true_eq, decide_eq_false_iff_not, beq_iff_eq, beq_eq_false_iff_ne, bne_iff_ne, bne_eq_false_iff_eq, ne_eq, Classical.not_not, reduceCtorEq, false_or, or_false, true_and, and_true, Bool.false_eq_true, Bool.true_eq_false] at h) <;> try (exfalso; first | omega | (simp at h; done)))))
  all_goals (try simp only [List.drop_zero, List.take_length])
  all_goals (try have lk : ((keysL x.2.1).map digD).length = x.2.1.length := (by rw [List.length_map, keysL_length]))
  all_goals (try have lv : ((valsL x.2.1).map digD).length = x.2.1.length := (by rw [List.length_map, valsL_length]))
  all_goals (try have hi : 0 < x.2.1.length := (by omega))
  all_goals (try simp only [show Int.toNat 0 = 0 from rfl, key_at hi, val_at hi])
  all_goals first
    | with_reducible rfl
    | omega
    | exact i0
    | exact hI.next (by omega) (by omega)
    | exact ⟨⟨by omega, by omega⟩, rfl⟩
    | exact ⟨⟨Nat.le_of_eq (Nat.zero_add _), by first | trivial | rfl, room32' (by simp only [List.length_append, List.length_map, List.length_cons, List.length_nil]; have := hI.len; have := hI.hd; omega)⟩, fun y hy => (by rw [List.mem_singleton.1 hy]; rfl)⟩
    | (show 256 - (x.1 + 1) < 256 - x.1; omega)
    | (rw [wrap64_id (by omega) (by omega)]; rfl)
    | (rw [List.map_append]; rfl)
    | (show AV.st [AV.sl _ [] 32 0 _, _, _, _] = AV.st [AV.sl _ [] 32 0 _, _, _, _]; rw [List.map_append]; rfl)
    | (rw [hI.fin (by omega), prfO_one _ (by omega)]; first | done | rfl)
    | (rw [hI.fin (by omega), prfO_none _ (by omega)]; first | done | rfl)
    | (have hz : x.2.1.length ≤ 1 := agree_all hI.wf hI.nd (fun a b ha hb j hj => hI.ag a b ha hb j (by have := hI.hd; omega)); first | (rw [hI.fin hz, prfO_one _ (by omega)]; first | done | rfl) | (rw [hI.fin hz, prfO_none _ (by omega)]; first | done | rfl))
    | exact ⟨⟨Nat.le_of_eq (Nat.zero_add _), trivial, trivial, trivial, trivial⟩, trivial⟩
    | rfl
    | trace_state

end Go.Proofs.Ytdceegllpcepnaa
