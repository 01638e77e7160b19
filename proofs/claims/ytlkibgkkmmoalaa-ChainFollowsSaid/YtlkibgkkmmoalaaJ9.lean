import Derived.Test.YtlkibgkkmmoalaaJ1
import Derived.Test.YtlkibgkkmmoalaaJ2
import Derived.Test.YtlkibgkkmmoalaaJ3
import Derived.Test.YtlkibgkkmmoalaaJ4
import Derived.Test.YtlkibgkkmmoalaaJ5
import Derived.Test.YtlkibgkkmmoalaaJ6
import Derived.Test.YtlkibgkkmmoalaaJ7
import Derived.Test.YtlkibgkkmmoalaaJ8
set_option linter.unusedSimpArgs false
set_option linter.unusedVariables false
/-
What the laws of roots that are followed return: pieces of lists; two lists to one head.
-/
set_option linter.unusedSimpArgs false
set_option linter.unusedVariables false
namespace Go.Proofs.Ytlkibgkkmmoalaa
open Go.Sym
set_option maxRecDepth 10000
set_option maxHeartbeats 4000000

theorem walk_all : ∀ (l : List Sgn) (g : Hd), (walk g l).2.2 = 0 → (walk g l).2.1 = l.length
  | [], _, _ => rfl
  | s :: l, g, h => by
    by_cases he : folE g s = 0
    · simp only [walk, he, decide_true, cond_true] at h ⊢
      rw [walk_all l _ h]; rfl
    · simp only [walk, decide_eq_false he, cond_false] at h
      exact absurd h he

theorem folE_yes {g : Hd} {s : Sgn} (h : folE g s = 0) : g.epoch < 64 ∧ s.root.epoch = g.epoch + 1 ∧ s.root.prev = g.root ∧ checkE g.key (rootB s.root) s.sig = 0 := by
  rcases folE_cases g s with ⟨_, e⟩ | ⟨⟨a, b⟩, ⟨_, e⟩ | ⟨c, d, _⟩⟩
  · rw [h] at e; cases e
  · rw [h] at e; cases e
  · exact ⟨a, b, c, d⟩

/-- Each root that is followed tells the digest of the one ahead of it. -/
theorem walk_link : ∀ (l : List Sgn) (g : Hd), (walk g l).2.2 = 0 → (∀ j, j + 1 < l.length → (l.getD (j + 1) s0).root.prev = shaB (rootB (l.getD j s0).root)) ∧ (0 < l.length → (l.getD 0 s0).root.prev = g.root ∧ (walk g l).1.root = shaB (rootB (l.getD (l.length - 1) s0).root))
  | [], _, _ => ⟨fun j h => by simp at h, fun h => by simp at h⟩
  | s :: l, g, h => by
    by_cases he : folE g s = 0
    · simp only [walk, he, decide_true, cond_true] at h ⊢
      obtain ⟨h1, h2⟩ := walk_link l _ h
      refine ⟨fun j hj => ?_, fun _ => ⟨(folE_yes he).2.2.1, ?_⟩⟩
      · cases j with
        | zero => exact (h2 (by simpa using hj)).1
        | succ j => exact h1 j (by simpa using hj)
      · cases l with
        | nil => rfl
        | cons t l => exact (h2 (by simp)).2
    · simp only [walk, decide_eq_false he, cond_false] at h
      exact absurd h he

theorem rtNe {a b : Rt} (h : (bif true then !(D.beq (rootD a) (rootD b)) else D.beq (rootD a) (rootD b)) = true) : ¬ a = b := by
  have h2 : (!(D.beq (rootD a) (rootD b))) = true := h
  rw [beq_root, Bool.not_eq_true'] at h2
  exact of_decide_eq_false h2
theorem rtYes {a b : Rt} (h : (bif true then !(D.beq (rootD a) (rootD b)) else D.beq (rootD a) (rootD b)) = false) : a = b := by
  have h2 : (!(D.beq (rootD a) (rootD b))) = false := h
  rw [beq_root, Bool.not_eq_false'] at h2
  exact of_decide_eq_true h2

/-- Two unlike texts of one digest. -/
def pairB (a b : List UInt8) : Bool := !decide (a = b) && decide (shaB a = shaB b)
theorem rPair_ok (a b : List UInt8) (ha : a.length < 2 ^ 28) (hb : b.length < 2 ^ 28) : LocalCall Try.prog 16 [.d (.sl (a.map byteD)), .d (.sl (b.map byteD))] [] [] (one [.d (.bool (pairB a b))]) [] := by
  have c1 := rOf_ok a ha
  have c2 := rOf_ok b hb
  refine vc_fn mixed Try.func16 rfl rfl [] (vc_chk rfl) ?_
  repeat' (first
      | ((with_reducible refine vc_chk ?_); first | decide +kernel | rfl)
      | (with_reducible refine vc_side0 ?_; rfl)
      | (with_reducible first
           | refine vc_true ?_ | refine vc_true2 ?_ | refine vc_side ?_ ?_ | refine vc_triv | refine vc_later ?_ | refine vc_caseT ?_ | refine vc_caseF ?_ | refine vc_cons ?_ | refine vc_nil ?_ ?_ | refine vc_seq ?_
              | refine vc_region ?_ | refine vc_cond ?_ | refine vc_block ?_ | refine vc_retc ?_ | refine vc_exit ?_ | refine vc_skip ?_ | refine vc_scope ?_ | refine vc_label ?_ | refine vc_goto ?_ | refine vc_wkSl0
              | refine vc_wkHp0 | refine vc_eqAVs0 | refine vc_preG0 | refine vc_wkSl ?_ ?_ | refine vc_wkHp ?_ ?_ | refine vc_eqAVs ?_ ?_ | refine vc_preG ?_ ?_ | refine vc_side0 ?_ | refine vc_pure c1 ?_ ?_ ?_
              | refine vc_pure c2 ?_ ?_ ?_ | refine vc_weakf [] ?_ ?_ ?_ | refine vc_and ?_ ?_ | refine vc_ret [] [] ?_)
      | ((with_reducible first | refine vc_caseD (fun h => ?_) (fun h => ?_) | refine vc_caseN (fun h => ?_) (fun h => ?_)) <;> try (exfalso; omega))
      | ((with_reducible refine vc_case (fun h => ?_) (fun h => ?_)) <;> (try simp only [Bool.cond_true_left, Bool.cond_false_right, Bool.cond_true_right, Bool.cond_false_left, Bool.and_eq_true, Bool.or_eq_true, Bool.and_eq_false_iff, Bool.or_eq_false_iff, Bool.not_eq_true', Bool.not_eq_false', Bool.not_eq_true, Bool.not_eq_false, Bool.not_not, decide_eq_true_eq, decide_eq_false_iff_not, beq_iff_eq, beq_eq_false_iff_ne, bne_iff_ne, bne_eq_false_iff_eq, ne_eq, Classical.not_not, reduceCtorEq, false_or, or_false, true_and, and_true, Bool.false_eq_true, Bool.true_eq_false] at h) <;> try (exfalso; first | omega | (simp at h; done)))
      | (conv in Vc _ => arg 1; whnf
         first
          | (with_reducible refine vc_side0 ?_; rfl)
          | (with_reducible first
              | refine vc_true ?_ | refine vc_true2 ?_ | refine vc_side ?_ ?_ | refine vc_triv | refine vc_later ?_ | refine vc_caseT ?_ | refine vc_caseF ?_ | refine vc_cons ?_ | refine vc_nil ?_ ?_ | refine vc_seq ?_
                 | refine vc_region ?_ | refine vc_cond ?_ | refine vc_block ?_ | refine vc_retc ?_ | refine vc_exit ?_ | refine vc_skip ?_ | refine vc_scope ?_ | refine vc_label ?_ | refine vc_goto ?_ | refine vc_wkSl0
                 | refine vc_wkHp0 | refine vc_eqAVs0 | refine vc_preG0 | refine vc_wkSl ?_ ?_ | refine vc_wkHp ?_ ?_ | refine vc_eqAVs ?_ ?_ | refine vc_preG ?_ ?_ | refine vc_side0 ?_ | refine vc_pure c1 ?_ ?_ ?_
                 | refine vc_pure c2 ?_ ?_ ?_ | refine vc_weakf [] ?_ ?_ ?_ | refine vc_and ?_ ?_ | refine vc_ret [] [] ?_)
          | ((with_reducible first | refine vc_caseD (fun h => ?_) (fun h => ?_) | refine vc_caseN (fun h => ?_) (fun h => ?_)) <;> try (exfalso; omega))
          | ((with_reducible refine vc_case (fun h => ?_) (fun h => ?_)) <;> (try simp only [Bool.cond_true_left, Bool.cond_false_right, Bool.cond_true_right, Bool.cond_false_left, Bool.and_eq_true, Bool.or_eq_true, Bool.and_eq_false_iff, Bool.or_eq_false_iff, Bool.not_eq_true', Bool.not_eq_false', Bool.not_eq_true, Bool.not_eq_false, Bool.not_not, decide_eq_true_eq, decide_eq_false_iff_not, beq_iff_eq, beq_eq_false_iff_ne, bne_iff_ne, bne_eq_false_iff_eq, ne_eq, Classical.not_not, reduceCtorEq, false_or, or_false, true_and, and_true, Bool.false_eq_true, Bool.true_eq_false] at h) <;> try (exfalso; first | omega | (simp at h; done)))))
  all_goals (try simp only [bytesOf_map] at *)
  all_goals first
    | exact ⟨trivial, trivial⟩
    | exact ⟨fits_dig 6 _, fits_dig 6 _⟩
    | (rw [ByteArray.toList_eq, ByteArray.toList_eq] at h
       unfold pairB
       rw [decide_eq_false (show ¬ a = b from h)]
       show D.bool (bif true then (D.arr 32 1 ((shaB a).map byteD)).beq (D.arr 32 1 ((shaB b).map byteD)) else false) = _
       rw [beq_dig]; rfl)
    | (rw [ByteArray.toList_eq, ByteArray.toList_eq] at h
       unfold pairB
       rw [decide_eq_true (show a = b from h)]; rfl)
    | trace_state

/-- Where the law cuts. -/
abbrev kK (l : List Sgn) (cut : Int) : Int := IntKind.i64.wrap ((IntKind.u64.wrap cut).tmod (IntKind.u64.wrap (IntKind.i64.wrap (((l.map sD).length : Int) + 1))))
theorem u64_wrap_eq (n : Int) : IntKind.u64.wrap n = n % 18446744073709551616 := by simp [IntKind.wrap, IntKind.signed, IntKind.bits]
theorem kK_eq (l : List Sgn) (cut : Int) (hl : l.length ≤ 40) : ∃ k : Nat, k ≤ l.length ∧ kK l cut = k := by
  unfold kK
  rw [List.length_map, wrap64_id (n := (l.length : Int) + 1) (by omega) (by omega), wrapU64_id (n := (l.length : Int) + 1) (by omega) (by omega), u64_wrap_eq, Int.tmod_eq_emod_of_nonneg (by omega)]
  have h1 := Int.emod_nonneg (cut % 18446744073709551616) (show (l.length : Int) + 1 ≠ 0 by omega)
  have h2 := Int.emod_lt_of_pos (cut % 18446744073709551616) (show (0 : Int) < (l.length : Int) + 1 by omega)
  rw [wrap64_id (by omega) (by omega)]
  exact ⟨((cut % 18446744073709551616) % ((l.length : Int) + 1)).toNat, by omega, by omega⟩

theorem chainPieces_main (g : Hd) (l : List Sgn) (cut : Int) (hg : wfH g) (hl : ∀ s, s ∈ l → wfS s) : LocalCall Try.prog 6 [.d (hdD g), .d (.sl (l.map sD)), .d (.int .i64 cut)] [] [] (one [.d (.bool true)]) [] := by
  have c0 := few11_ok l
  cases hf : fewB l with
  | false =>
    rw [hf] at c0
    refine vc_fn mixed Try.func6 rfl rfl [] (vc_chk rfl) ?_
    repeat' (first
        | ((with_reducible refine vc_chk ?_); first | decide +kernel | rfl)
        | (with_reducible refine vc_side0 ?_; rfl)
        | (with_reducible first
             | refine vc_true ?_ | refine vc_true2 ?_ | refine vc_side ?_ ?_ | refine vc_triv | refine vc_later ?_ | refine vc_caseT ?_ | refine vc_caseF ?_ | refine vc_cons ?_ | refine vc_nil ?_ ?_ | refine vc_seq ?_
                | refine vc_region ?_ | refine vc_cond ?_ | refine vc_block ?_ | refine vc_retc ?_ | refine vc_exit ?_ | refine vc_skip ?_ | refine vc_scope ?_ | refine vc_label ?_ | refine vc_goto ?_ | refine vc_wkSl0
                | refine vc_wkHp0 | refine vc_eqAVs0 | refine vc_preG0 | refine vc_wkSl ?_ ?_ | refine vc_wkHp ?_ ?_ | refine vc_eqAVs ?_ ?_ | refine vc_preG ?_ ?_ | refine vc_side0 ?_ | refine vc_pure c0 ?_ ?_ ?_
                | refine vc_pure works11_ok ?_ ?_ ?_ | refine vc_weakf [] ?_ ?_ ?_ | refine vc_and ?_ ?_ | refine vc_ret [] [] ?_)
        | ((with_reducible first | refine vc_caseD (fun h => ?_) (fun h => ?_) | refine vc_caseN (fun h => ?_) (fun h => ?_)) <;> try (exfalso; omega))
        | ((with_reducible refine vc_case (fun h => ?_) (fun h => ?_)) <;> (try simp only [Bool.cond_true_left, Bool.cond_false_right, Bool.cond_true_right, Bool.cond_false_left, Bool.and_eq_true, Bool.or_eq_true, Bool.and_eq_false_iff, Bool.or_eq_false_iff, Bool.not_eq_true', Bool.not_eq_false', Bool.not_eq_true, Bool.not_eq_false, Bool.not_not, decide_eq_true_eq, decide_eq_false_iff_not, beq_iff_eq, beq_eq_false_iff_ne, bne_iff_ne, bne_eq_false_iff_eq, ne_eq, Classical.not_not, reduceCtorEq, false_or, or_false, true_and, and_true, Bool.false_eq_true, Bool.true_eq_false] at h) <;> try (exfalso; first | omega | (simp at h; done)))
        | (conv in Vc _ => arg 1; whnf
           first
            | (with_reducible refine vc_side0 ?_; rfl)
            | (with_reducible first
                | refine vc_true ?_ | refine vc_true2 ?_ | refine vc_side ?_ ?_ | refine vc_triv | refine vc_later ?_ | refine vc_caseT ?_ | refine vc_caseF ?_ | refine vc_cons ?_ | refine vc_nil ?_ ?_ | refine vc_seq ?_
                   | refine vc_region ?_ | refine vc_cond ?_ | refine vc_block ?_ | refine vc_retc ?_ | refine vc_exit ?_ | refine vc_skip ?_ | refine vc_scope ?_ | refine vc_label ?_ | refine vc_goto ?_ | refine vc_wkSl0
                   | refine vc_wkHp0 | refine vc_eqAVs0 | refine vc_preG0 | refine vc_wkSl ?_ ?_ | refine vc_wkHp ?_ ?_ | refine vc_eqAVs ?_ ?_ | refine vc_preG ?_ ?_ | refine vc_side0 ?_ | refine vc_pure c0 ?_ ?_ ?_
                   | refine vc_pure works11_ok ?_ ?_ ?_ | refine vc_weakf [] ?_ ?_ ?_ | refine vc_and ?_ ?_ | refine vc_ret [] [] ?_)
            | ((with_reducible first | refine vc_caseD (fun h => ?_) (fun h => ?_) | refine vc_caseN (fun h => ?_) (fun h => ?_)) <;> try (exfalso; omega))
            | ((with_reducible refine vc_case (fun h => ?_) (fun h => ?_)) <;> (try simp only [Bool.cond_true_left, Bool.cond_false_right, Bool.cond_true_right, Bool.cond_false_left, Bool.and_eq_true, Bool.or_eq_true, Bool.and_eq_false_iff, Bool.or_eq_false_iff, Bool.not_eq_true', Bool.not_eq_false', Bool.not_eq_true, Bool.not_eq_false, Bool.not_not, decide_eq_true_eq, decide_eq_false_iff_not, beq_iff_eq, beq_eq_false_iff_ne, bne_iff_ne, bne_eq_false_iff_eq, ne_eq, Classical.not_not, reduceCtorEq, false_or, or_false, true_and, and_true, Bool.false_eq_true, Bool.true_eq_false] at h) <;> try (exfalso; first | omega | (simp at h; done)))))
    all_goals rfl
  | true =>
    rw [hf] at c0
    have hm := fewB_le hf
    obtain ⟨k, hk, hK⟩ := kK_eq l cut hm
    have e1 : cutD (l.map sD) 0 (kK l cut) = (l.take k).map sD := by
      rw [hK]; unfold cutD; rw [Int.toNat_natCast, ← List.map_take]; rfl
    have e2 : cutD (l.map sD) (kK l cut) ((l.map sD).length : Nat) = (l.drop k).map sD := by
      rw [hK]; unfold cutD; rw [Int.toNat_natCast, Int.toNat_natCast, List.take_length, ← List.map_drop]
    have ht : ∀ s, s ∈ l.take k → wfS s := fun s hs => hl s (List.mem_of_mem_take hs)
    have hd : ∀ s, s ∈ l.drop k → wfS s := fun s hs => hl s (List.mem_of_mem_drop hs)
    have c1 := walk_ok g l hg hl (by omega)
    have c2 := walk_ok g (l.take k) hg ht (by rw [List.length_take]; omega)
    have c3 := walk_ok (walk g (l.take k)).1 (l.drop k) (walk_wf _ _ hg ht) hd (by rw [List.length_drop]; omega)
    rw [← e1] at c2
    rw [← e2] at c3
    have hw := walk_append (l.take k) (l.drop k) g
    rw [List.take_append_drop] at hw
    have ha := walk_all (l.take k) g
    rw [List.length_take, Nat.min_eq_left hk] at ha
    rw [hw] at c1
    have hle := walk_le (l.drop k) (walk g (l.take k)).1
    rw [List.length_drop] at hle
    generalize walk (walk g (l.take k)).1 (l.drop k) = B at *
    generalize walk g (l.take k) = A at *
    have hz : IntKind.u64.wrap (IntKind.i64.wrap (((l.map sD).length : Int) + 1)) ≠ 0 := by
      rw [List.length_map, wrap64_id (n := (l.length : Int) + 1) (by omega) (by omega), wrapU64_id (n := (l.length : Int) + 1) (by omega) (by omega)]; omega
    have sz : ∀ y, y ∈ l.map sD → y.size = szOf Try.prog 31 := fun y hy => by
      obtain ⟨s, _, rfl⟩ := List.mem_map.1 hy; rfl
    have hr : 0 ≤ kK l cut ∧ kK l cut ≤ ((l.map sD).length : Int) := by rw [hK, List.length_map]; omega
    refine vc_fn mixed Try.func6 rfl rfl [] (vc_chk rfl) ?_
    by_cases h2 : A.2.2 = 0
    · rw [decide_eq_true h2, cond_true] at c1
      repeat' (first
          | ((with_reducible refine vc_chk ?_); first | decide +kernel | rfl)
          | (with_reducible refine vc_side0 ?_; rfl)
          | (with_reducible first
               | refine vc_true ?_ | refine vc_true2 ?_ | refine vc_side ?_ ?_ | refine vc_triv | refine vc_later ?_ | refine vc_caseT ?_ | refine vc_caseF ?_ | refine vc_cons ?_ | refine vc_nil ?_ ?_ | refine vc_seq ?_
                  | refine vc_region ?_ | refine vc_cond ?_ | refine vc_block ?_ | refine vc_retc ?_ | refine vc_exit ?_ | refine vc_skip ?_ | refine vc_scope ?_ | refine vc_label ?_ | refine vc_goto ?_ | refine vc_wkSl0
                  | refine vc_wkHp0 | refine vc_eqAVs0 | refine vc_preG0 | refine vc_wkSl ?_ ?_ | refine vc_wkHp ?_ ?_ | refine vc_eqAVs ?_ ?_ | refine vc_preG ?_ ?_ | refine vc_side0 ?_ | refine vc_pure c0 ?_ ?_ ?_
                  | refine vc_pure c1 ?_ ?_ ?_ | refine vc_pure c2 ?_ ?_ ?_ | refine vc_pure c3 ?_ ?_ ?_ | refine vc_pure works11_ok ?_ ?_ ?_ | refine vc_weakf [] ?_ ?_ ?_ | refine vc_and ?_ ?_ | refine vc_ret [] [] ?_)
          | ((with_reducible first | refine vc_caseD (fun h => ?_) (fun h => ?_) | refine vc_caseN (fun h => ?_) (fun h => ?_)) <;> try (exfalso; omega))
          | ((with_reducible refine vc_case (fun h => ?_) (fun h => ?_)) <;> (try simp only [Bool.cond_true_left, Bool.cond_false_right, Bool.cond_true_right, Bool.cond_false_left, Bool.and_eq_true, Bool.or_eq_true, Bool.and_eq_false_iff, Bool.or_eq_false_iff, Bool.not_eq_true', Bool.not_eq_false', Bool.not_eq_true, Bool.not_eq_false, Bool.not_not, decide_eq_true_eq, decide_eq_false_iff_not, beq_iff_eq, beq_eq_false_iff_ne, bne_iff_ne, bne_eq_false_iff_eq, ne_eq, Classical.not_not, reduceCtorEq, false_or, or_false, true_and, and_true, Bool.false_eq_true, Bool.true_eq_false] at h) <;> try (exfalso; first | omega | (simp at h; done)))
          | (conv in Vc _ => arg 1; whnf
             first
              | (with_reducible refine vc_side0 ?_; rfl)
              | (with_reducible first
                  | refine vc_true ?_ | refine vc_true2 ?_ | refine vc_side ?_ ?_ | refine vc_triv | refine vc_later ?_ | refine vc_caseT ?_ | refine vc_caseF ?_ | refine vc_cons ?_ | refine vc_nil ?_ ?_ | refine vc_seq ?_
                     | refine vc_region ?_ | refine vc_cond ?_ | refine vc_block ?_ | refine vc_retc ?_ | refine vc_exit ?_ | refine vc_skip ?_ | refine vc_scope ?_ | refine vc_label ?_ | refine vc_goto ?_ | refine vc_wkSl0
                     | refine vc_wkHp0 | refine vc_eqAVs0 | refine vc_preG0 | refine vc_wkSl ?_ ?_ | refine vc_wkHp ?_ ?_ | refine vc_eqAVs ?_ ?_ | refine vc_preG ?_ ?_ | refine vc_side0 ?_ | refine vc_pure c0 ?_ ?_ ?_
                     | refine vc_pure c1 ?_ ?_ ?_ | refine vc_pure c2 ?_ ?_ ?_ | refine vc_pure c3 ?_ ?_ ?_ | refine vc_pure works11_ok ?_ ?_ ?_ | refine vc_weakf [] ?_ ?_ ?_ | refine vc_and ?_ ?_ | refine vc_ret [] [] ?_)
              | ((with_reducible first | refine vc_caseD (fun h => ?_) (fun h => ?_) | refine vc_caseN (fun h => ?_) (fun h => ?_)) <;> try (exfalso; omega))
              | ((with_reducible refine vc_case (fun h => ?_) (fun h => ?_)) <;> (try simp only [Bool.cond_true_left, Bool.cond_false_right, Bool.cond_true_right, Bool.cond_false_left, Bool.and_eq_true, Bool.or_eq_true, Bool.and_eq_false_iff, Bool.or_eq_false_iff, Bool.not_eq_true', Bool.not_eq_false', Bool.not_eq_true, Bool.not_eq_false, Bool.not_not, decide_eq_true_eq, decide_eq_false_iff_not, beq_iff_eq, beq_eq_false_iff_ne, bne_iff_ne, bne_eq_false_iff_eq, ne_eq, Classical.not_not, reduceCtorEq, false_or, or_false, true_and, and_true, Bool.false_eq_true, Bool.true_eq_false] at h) <;> try (exfalso; first | omega | (simp at h; done)))))
      all_goals first
        | with_reducible rfl
        | omega
        | exact ⟨trivial, trivial⟩
        | exact ⟨trivial, trivial, trivial⟩
        | exact ⟨trivial, trivial, trivial, trivial⟩
        | exact ⟨⟨by decide, by decide, by decide⟩, trivial⟩
        | exact ⟨Nat.le_of_eq (Nat.zero_add _), trivial⟩
        | exact ⟨Nat.le_refl _, trivial, trivial⟩
        | (rw [wrap64_id (by omega) (by omega)]; rfl)
        | exact ⟨by decide +kernel, fits_hd 5 _, fits_hd 5 _⟩
        | (exfalso; exact absurd rfl (hdNe h))
        | exact absurd rfl h
        | exact absurd h2 h
        | exact hz
        | exact ⟨⟨Int.le_refl 0, hr.1, hr.2⟩, sz⟩
        | exact ⟨⟨hr.1, hr.2, Int.le_refl _⟩, sz⟩
        | (exfalso; apply h; show _ = IntKind.i64.wrap (kK l cut + _); rw [hK, wrap64_id (by omega) (by omega), ha h2]; rfl)
        | rfl
        | (exfalso; simp at h; done)
        | skip
      all_goals trace_state
    · rw [decide_eq_false h2, cond_false] at c1
      repeat' (first
          | ((with_reducible refine vc_chk ?_); first | decide +kernel | rfl)
          | (with_reducible refine vc_side0 ?_; rfl)
          | (with_reducible first
               | refine vc_true ?_ | refine vc_true2 ?_ | refine vc_side ?_ ?_ | refine vc_triv | refine vc_later ?_ | refine vc_caseT ?_ | refine vc_caseF ?_ | refine vc_cons ?_ | refine vc_nil ?_ ?_ | refine vc_seq ?_
                  | refine vc_region ?_ | refine vc_cond ?_ | refine vc_block ?_ | refine vc_retc ?_ | refine vc_exit ?_ | refine vc_skip ?_ | refine vc_scope ?_ | refine vc_label ?_ | refine vc_goto ?_ | refine vc_wkSl0
                  | refine vc_wkHp0 | refine vc_eqAVs0 | refine vc_preG0 | refine vc_wkSl ?_ ?_ | refine vc_wkHp ?_ ?_ | refine vc_eqAVs ?_ ?_ | refine vc_preG ?_ ?_ | refine vc_side0 ?_ | refine vc_pure c0 ?_ ?_ ?_
                  | refine vc_pure c1 ?_ ?_ ?_ | refine vc_pure c2 ?_ ?_ ?_ | refine vc_pure c3 ?_ ?_ ?_ | refine vc_pure works11_ok ?_ ?_ ?_ | refine vc_weakf [] ?_ ?_ ?_ | refine vc_and ?_ ?_ | refine vc_ret [] [] ?_)
          | ((with_reducible first | refine vc_caseD (fun h => ?_) (fun h => ?_) | refine vc_caseN (fun h => ?_) (fun h => ?_)) <;> try (exfalso; omega))
          | ((with_reducible refine vc_case (fun h => ?_) (fun h => ?_)) <;> (try simp only [Bool.cond_true_left, Bool.cond_false_right, Bool.cond_true_right, Bool.cond_false_left, Bool.and_eq_true, Bool.or_eq_true, Bool.and_eq_false_iff, Bool.or_eq_false_iff, Bool.not_eq_true', Bool.not_eq_false', Bool.not_eq_true, Bool.not_eq_false, Bool.not_not, decide_eq_true_eq, decide_eq_false_iff_not, beq_iff_eq, beq_eq_false_iff_ne, bne_iff_ne, bne_eq_false_iff_eq, ne_eq, Classical.not_not, reduceCtorEq, false_or, or_false, true_and, and_true, Bool.false_eq_true, Bool.true_eq_false] at h) <;> try (exfalso; first | omega | (simp at h; done)))
          | (conv in Vc _ => arg 1; whnf
             first
              | (with_reducible refine vc_side0 ?_; rfl)
              | (with_reducible first
                  | refine vc_true ?_ | refine vc_true2 ?_ | refine vc_side ?_ ?_ | refine vc_triv | refine vc_later ?_ | refine vc_caseT ?_ | refine vc_caseF ?_ | refine vc_cons ?_ | refine vc_nil ?_ ?_ | refine vc_seq ?_
                     | refine vc_region ?_ | refine vc_cond ?_ | refine vc_block ?_ | refine vc_retc ?_ | refine vc_exit ?_ | refine vc_skip ?_ | refine vc_scope ?_ | refine vc_label ?_ | refine vc_goto ?_ | refine vc_wkSl0
                     | refine vc_wkHp0 | refine vc_eqAVs0 | refine vc_preG0 | refine vc_wkSl ?_ ?_ | refine vc_wkHp ?_ ?_ | refine vc_eqAVs ?_ ?_ | refine vc_preG ?_ ?_ | refine vc_side0 ?_ | refine vc_pure c0 ?_ ?_ ?_
                     | refine vc_pure c1 ?_ ?_ ?_ | refine vc_pure c2 ?_ ?_ ?_ | refine vc_pure c3 ?_ ?_ ?_ | refine vc_pure works11_ok ?_ ?_ ?_ | refine vc_weakf [] ?_ ?_ ?_ | refine vc_and ?_ ?_ | refine vc_ret [] [] ?_)
              | ((with_reducible first | refine vc_caseD (fun h => ?_) (fun h => ?_) | refine vc_caseN (fun h => ?_) (fun h => ?_)) <;> try (exfalso; omega))
              | ((with_reducible refine vc_case (fun h => ?_) (fun h => ?_)) <;> (try simp only [Bool.cond_true_left, Bool.cond_false_right, Bool.cond_true_right, Bool.cond_false_left, Bool.and_eq_true, Bool.or_eq_true, Bool.and_eq_false_iff, Bool.or_eq_false_iff, Bool.not_eq_true', Bool.not_eq_false', Bool.not_eq_true, Bool.not_eq_false, Bool.not_not, decide_eq_true_eq, decide_eq_false_iff_not, beq_iff_eq, beq_eq_false_iff_ne, bne_iff_ne, bne_eq_false_iff_eq, ne_eq, Classical.not_not, reduceCtorEq, false_or, or_false, true_and, and_true, Bool.false_eq_true, Bool.true_eq_false] at h) <;> try (exfalso; first | omega | (simp at h; done)))))
      all_goals first
        | with_reducible rfl
        | omega
        | exact ⟨trivial, trivial⟩
        | exact ⟨trivial, trivial, trivial⟩
        | exact ⟨trivial, trivial, trivial, trivial⟩
        | exact ⟨⟨by decide, by decide, by decide⟩, trivial⟩
        | exact ⟨Nat.le_of_eq (Nat.zero_add _), trivial⟩
        | exact ⟨Nat.le_refl _, trivial, trivial⟩
        | (rw [wrap64_id (by omega) (by omega)]; rfl)
        | exact ⟨by decide +kernel, fits_hd 5 _, fits_hd 5 _⟩
        | (exfalso; exact absurd rfl (hdNe h))
        | exact absurd rfl h
        | exact absurd h h2
        | exact hz
        | exact ⟨⟨Int.le_refl 0, hr.1, hr.2⟩, sz⟩
        | exact ⟨⟨hr.1, hr.2, Int.le_refl _⟩, sz⟩
        | rfl
        | (exfalso; simp at h; done)
        | skip
      all_goals trace_state

theorem chainOne_main (g : Hd) (l m : List Sgn) (hg : wfH g) (hl : ∀ s, s ∈ l → wfS s) (hm : ∀ s, s ∈ m → wfS s) : LocalCall Try.prog 5 [.d (hdD g), .d (.sl (l.map sD)), .d (.sl (m.map sD))] [] [] (one [.d (.bool true)]) [] := by
  have c0 := few11_ok l
  have c1 := few11_ok m
  have ll : (l.map sD).length = l.length := List.length_map _
  have lm : (m.map sD).length = m.length := List.length_map _
  have k1 : fewB l = true → _ := fun h => walk_ok g l hg hl (by have := fewB_le h; omega)
  have k2 : fewB m = true → _ := fun h => walk_ok g m hg hm (by have := fewB_le h; omega)
  have w1 := walk_link l g
  have w2 := walk_link m g
  generalize walk g l = A at *
  generalize walk g m = B at *
  have b1 : ∀ x : Nat, 0 < x → x ≤ l.length → _ := fun x h1 h2 => rRootBytes_ok (l.getD (x - 1) s0).root (wfS_at hl (show x - 1 < l.length by omega)).wfR
  have b2 : ∀ x : Nat, 0 < x → x ≤ m.length → _ := fun x h1 h2 => rRootBytes_ok (m.getD (x - 1) s0).root (wfS_at hm (show x - 1 < m.length by omega)).wfR
  have pr : ∀ x : Nat, 0 < x → x ≤ l.length → x ≤ m.length → _ := fun x h1 h2 h3 => rPair_ok (rootB (l.getD (x - 1) s0).root) (rootB (m.getD (x - 1) s0).root) (by rw [rootB_length (wfS_at hl (show x - 1 < l.length by omega)).wfR]; decide) (by rw [rootB_length (wfS_at hm (show x - 1 < m.length by omega)).wfR]; decide)
  have eqR : ∀ x : Nat, 0 < x → x ≤ l.length → x ≤ m.length → pairB (rootB (l.getD (x - 1) s0).root) (rootB (m.getD (x - 1) s0).root) = false → shaB (rootB (l.getD (x - 1) s0).root) = shaB (rootB (m.getD (x - 1) s0).root) → (l.getD (x - 1) s0).root = (m.getD (x - 1) s0).root := fun x h1 h2 h3 hp hs => by
    unfold pairB at hp
    rw [decide_eq_true hs, Bool.and_true, Bool.not_eq_false'] at hp
    exact rootB_inj (wfS_at hl (by omega)).wfR (wfS_at hm (by omega)).wfR (of_decide_eq_true hp)
  have ini : A.2.2 = 0 → B.2.2 = 0 → l.length = m.length → 0 < l.length → A.1.root = B.1.root → shaB (rootB (l.getD (l.length - 1) s0).root) = shaB (rootB (m.getD (l.length - 1) s0).root) := fun h1 h2 h3 h4 h5 => by
    rw [← ((w1 h1).2 h4).2, h5, ((w2 h2).2 (by omega)).2, h3]
  have nxt : ∀ x : Nat, A.2.2 = 0 → B.2.2 = 0 → x ≤ l.length → x ≤ m.length → 0 < x - 1 → (l.getD (x - 1) s0).root = (m.getD (x - 1) s0).root → shaB (rootB (l.getD (x - 1 - 1) s0).root) = shaB (rootB (m.getD (x - 1 - 1) s0).root) := fun x h1 h2 h3 h4 h5 he => by
    have p1 := (w1 h1).1 (x - 1 - 1) (by omega)
    have p2 := (w2 h2).1 (x - 1 - 1) (by omega)
    rw [show x - 1 - 1 + 1 = x - 1 by omega] at p1 p2
    rw [← p1, ← p2, he]
  refine vc_fn mixed Try.func5 rfl rfl [] (vc_chk rfl) ?_
  repeat' (first
      | ((with_reducible refine vc_chk ?_); first | decide +kernel | rfl)
      | (with_reducible refine vc_side0 ?_; rfl)
      | (with_reducible first
           | refine vc_true ?_ | refine vc_true2 ?_ | refine vc_side ?_ ?_ | refine vc_triv | refine vc_later ?_ | refine vc_caseT ?_ | refine vc_caseF ?_ | refine vc_cons ?_ | refine vc_nil ?_ ?_ | refine vc_seq ?_
              | refine vc_region ?_ | refine vc_cond ?_ | refine vc_block ?_ | refine vc_retc ?_ | refine vc_exit ?_ | refine vc_skip ?_ | refine vc_scope ?_ | refine vc_label ?_ | refine vc_goto ?_ | refine vc_wkSl0
              | refine vc_wkHp0 | refine vc_eqAVs0 | refine vc_preG0 | refine vc_wkSl ?_ ?_ | refine vc_wkHp ?_ ?_ | refine vc_eqAVs ?_ ?_ | refine vc_preG ?_ ?_ | refine vc_side0 ?_ | refine vc_pure c0 ?_ ?_ ?_
              | refine vc_pure c1 ?_ ?_ ?_ | refine vc_pure works11_ok ?_ ?_ ?_ | refine vc_pure (k1 (by assumption)) ?_ ?_ ?_ | refine vc_pure (k2 (by assumption)) ?_ ?_ ?_
              | refine vc_loopI 95 (fun (x : Nat) => [(1, .d (.sl (l.map sD))), (2, .d (.sl (m.map sD))), (13, .d (.int .i64 ((x : Int) - 1)))]) (fun _ => []) (fun x => x) (fun x => x ≤ l.length ∧ (0 < x → shaB (rootB (l.getD (x - 1) s0).root) = shaB (rootB (m.getD (x - 1) s0).root))) l.length [] ?_ ?_ ?_ ?_ ?_ (fun x hI => ?_)
              | refine vc_weakf [] ?_ ?_ ?_ | refine vc_and ?_ ?_ | refine vc_ret [] [] ?_)
      | ((with_reducible first | refine vc_caseD (fun h => ?_) (fun h => ?_) | refine vc_caseN (fun h => ?_) (fun h => ?_)) <;> try (exfalso; omega))
      | ((with_reducible refine vc_case (fun h => ?_) (fun h => ?_)) <;> (try simp only [Bool.cond_true_left, Bool.cond_false_right, Bool.cond_true_right, Bool.cond_false_left, Bool.and_eq_true, Bool.or_eq_true, Bool.and_eq_false_iff, Bool.or_eq_false_iff, Bool.not_eq_true', Bool.not_eq_false', Bool.not_eq_true, Bool.not_eq_false, Bool.not_not, decide_eq_true_eq, decide_eq_false_iff_not, beq_iff_eq, beq_eq_false_iff_ne, bne_iff_ne, bne_eq_false_iff_eq, ne_eq, Classical.not_not, reduceCtorEq, false_or, or_false, true_and, and_true, Bool.false_eq_true, Bool.true_eq_false] at h) <;> try (exfalso; first | omega | (simp at h; done)))
      | (conv in Vc _ => arg 1; whnf
         first
          | (with_reducible refine vc_side0 ?_; rfl)
          | (with_reducible first
              | refine vc_true ?_ | refine vc_true2 ?_ | refine vc_side ?_ ?_ | refine vc_triv | refine vc_later ?_ | refine vc_caseT ?_ | refine vc_caseF ?_ | refine vc_cons ?_ | refine vc_nil ?_ ?_ | refine vc_seq ?_
                 | refine vc_region ?_ | refine vc_cond ?_ | refine vc_block ?_ | refine vc_retc ?_ | refine vc_exit ?_ | refine vc_skip ?_ | refine vc_scope ?_ | refine vc_label ?_ | refine vc_goto ?_ | refine vc_wkSl0
                 | refine vc_wkHp0 | refine vc_eqAVs0 | refine vc_preG0 | refine vc_wkSl ?_ ?_ | refine vc_wkHp ?_ ?_ | refine vc_eqAVs ?_ ?_ | refine vc_preG ?_ ?_ | refine vc_side0 ?_ | refine vc_pure c0 ?_ ?_ ?_
                 | refine vc_pure c1 ?_ ?_ ?_ | refine vc_pure works11_ok ?_ ?_ ?_ | refine vc_pure (k1 (by assumption)) ?_ ?_ ?_ | refine vc_pure (k2 (by assumption)) ?_ ?_ ?_
                 | refine vc_loopI 95 (fun (x : Nat) => [(1, .d (.sl (l.map sD))), (2, .d (.sl (m.map sD))), (13, .d (.int .i64 ((x : Int) - 1)))]) (fun _ => []) (fun x => x) (fun x => x ≤ l.length ∧ (0 < x → shaB (rootB (l.getD (x - 1) s0).root) = shaB (rootB (m.getD (x - 1) s0).root))) l.length [] ?_ ?_ ?_ ?_ ?_ (fun x hI => ?_)
                 | refine vc_weakf [] ?_ ?_ ?_ | refine vc_and ?_ ?_ | refine vc_ret [] [] ?_)
          | ((with_reducible first | refine vc_caseD (fun h => ?_) (fun h => ?_) | refine vc_caseN (fun h => ?_) (fun h => ?_)) <;> try (exfalso; omega))
          | ((with_reducible refine vc_case (fun h => ?_) (fun h => ?_)) <;> (try simp only [Bool.cond_true_left, Bool.cond_false_right, Bool.cond_true_right, Bool.cond_false_left, Bool.and_eq_true, Bool.or_eq_true, Bool.and_eq_false_iff, Bool.or_eq_false_iff, Bool.not_eq_true', Bool.not_eq_false', Bool.not_eq_true, Bool.not_eq_false, Bool.not_not, decide_eq_true_eq, decide_eq_false_iff_not, beq_iff_eq, beq_eq_false_iff_ne, bne_iff_ne, bne_eq_false_iff_eq, ne_eq, Classical.not_not, reduceCtorEq, false_or, or_false, true_and, and_true, Bool.false_eq_true, Bool.true_eq_false] at h) <;> try (exfalso; first | omega | (simp at h; done)))))
  any_goals (conv in Vc _ => arg 1; whnf)
  any_goals (refine vc_call [] (b1 x (by omega) (by omega)) ?_)
  repeat' (first
      | ((with_reducible refine vc_chk ?_); first | decide +kernel | rfl)
      | (with_reducible refine vc_side0 ?_; rfl)
      | (with_reducible first
           | refine vc_true ?_ | refine vc_true2 ?_ | refine vc_side ?_ ?_ | refine vc_triv | refine vc_later ?_ | refine vc_caseT ?_ | refine vc_caseF ?_ | refine vc_cons ?_ | refine vc_nil ?_ ?_ | refine vc_seq ?_
              | refine vc_region ?_ | refine vc_cond ?_ | refine vc_block ?_ | refine vc_retc ?_ | refine vc_exit ?_ | refine vc_skip ?_ | refine vc_scope ?_ | refine vc_label ?_ | refine vc_goto ?_ | refine vc_wkSl0
              | refine vc_wkHp0 | refine vc_eqAVs0 | refine vc_preG0 | refine vc_wkSl ?_ ?_ | refine vc_wkHp ?_ ?_ | refine vc_eqAVs ?_ ?_ | refine vc_preG ?_ ?_ | refine vc_side0 ?_ | refine vc_weakf [] ?_ ?_ ?_
              | refine vc_and ?_ ?_ | refine vc_ret [] [] ?_)
      | ((with_reducible first | refine vc_caseD (fun h => ?_) (fun h => ?_) | refine vc_caseN (fun h => ?_) (fun h => ?_)) <;> try (exfalso; omega))
      | ((with_reducible refine vc_case (fun h => ?_) (fun h => ?_)) <;> (try simp only [Bool.cond_true_left, Bool.cond_false_right, Bool.cond_true_right, Bool.cond_false_left, Bool.and_eq_true, Bool.or_eq_true, Bool.and_eq_false_iff, Bool.or_eq_false_iff, Bool.not_eq_true', Bool.not_eq_false', Bool.not_eq_true, Bool.not_eq_false, Bool.not_not, decide_eq_true_eq, decide_eq_false_iff_not, beq_iff_eq, beq_eq_false_iff_ne, bne_iff_ne, bne_eq_false_iff_eq, ne_eq, Classical.not_not, reduceCtorEq, false_or, or_false, true_and, and_true, Bool.false_eq_true, Bool.true_eq_false] at h) <;> try (exfalso; first | omega | (simp at h; done)))
      | (conv in Vc _ => arg 1; whnf
         first
          | (with_reducible refine vc_side0 ?_; rfl)
          | (with_reducible first
              | refine vc_true ?_ | refine vc_true2 ?_ | refine vc_side ?_ ?_ | refine vc_triv | refine vc_later ?_ | refine vc_caseT ?_ | refine vc_caseF ?_ | refine vc_cons ?_ | refine vc_nil ?_ ?_ | refine vc_seq ?_
                 | refine vc_region ?_ | refine vc_cond ?_ | refine vc_block ?_ | refine vc_retc ?_ | refine vc_exit ?_ | refine vc_skip ?_ | refine vc_scope ?_ | refine vc_label ?_ | refine vc_goto ?_ | refine vc_wkSl0
                 | refine vc_wkHp0 | refine vc_eqAVs0 | refine vc_preG0 | refine vc_wkSl ?_ ?_ | refine vc_wkHp ?_ ?_ | refine vc_eqAVs ?_ ?_ | refine vc_preG ?_ ?_ | refine vc_side0 ?_ | refine vc_weakf [] ?_ ?_ ?_
                 | refine vc_and ?_ ?_ | refine vc_ret [] [] ?_)
          | ((with_reducible first | refine vc_caseD (fun h => ?_) (fun h => ?_) | refine vc_caseN (fun h => ?_) (fun h => ?_)) <;> try (exfalso; omega))
          | ((with_reducible refine vc_case (fun h => ?_) (fun h => ?_)) <;> (try simp only [Bool.cond_true_left, Bool.cond_false_right, Bool.cond_true_right, Bool.cond_false_left, Bool.and_eq_true, Bool.or_eq_true, Bool.and_eq_false_iff, Bool.or_eq_false_iff, Bool.not_eq_true', Bool.not_eq_false', Bool.not_eq_true, Bool.not_eq_false, Bool.not_not, decide_eq_true_eq, decide_eq_false_iff_not, beq_iff_eq, beq_eq_false_iff_ne, bne_iff_ne, bne_eq_false_iff_eq, ne_eq, Classical.not_not, reduceCtorEq, false_or, or_false, true_and, and_true, Bool.false_eq_true, Bool.true_eq_false] at h) <;> try (exfalso; first | omega | (simp at h; done)))))
  any_goals (conv in Vc _ => arg 1; whnf)
  any_goals (refine vc_call [] (b2 x (by omega) (by omega)) ?_)
  repeat' (first
      | ((with_reducible refine vc_chk ?_); first | decide +kernel | rfl)
      | (with_reducible refine vc_side0 ?_; rfl)
      | (with_reducible first
           | refine vc_true ?_ | refine vc_true2 ?_ | refine vc_side ?_ ?_ | refine vc_triv | refine vc_later ?_ | refine vc_caseT ?_ | refine vc_caseF ?_ | refine vc_cons ?_ | refine vc_nil ?_ ?_ | refine vc_seq ?_
              | refine vc_region ?_ | refine vc_cond ?_ | refine vc_block ?_ | refine vc_retc ?_ | refine vc_exit ?_ | refine vc_skip ?_ | refine vc_scope ?_ | refine vc_label ?_ | refine vc_goto ?_ | refine vc_wkSl0
              | refine vc_wkHp0 | refine vc_eqAVs0 | refine vc_preG0 | refine vc_wkSl ?_ ?_ | refine vc_wkHp ?_ ?_ | refine vc_eqAVs ?_ ?_ | refine vc_preG ?_ ?_ | refine vc_side0 ?_ | refine vc_nextI (x - 1) [] ?_ ?_ ?_ ?_ ?_ ?_
              | refine vc_pure (pr x (by omega) (by omega) (by omega)) ?_ ?_ ?_ | refine vc_pure works11_ok ?_ ?_ ?_ | refine vc_weakf [] ?_ ?_ ?_ | refine vc_and ?_ ?_ | refine vc_ret [] [] ?_)
      | ((with_reducible first | refine vc_caseD (fun h => ?_) (fun h => ?_) | refine vc_caseN (fun h => ?_) (fun h => ?_)) <;> try (exfalso; omega))
      | ((with_reducible refine vc_case (fun h => ?_) (fun h => ?_)) <;> (try simp only [Bool.cond_true_left, Bool.cond_false_right, Bool.cond_true_right, Bool.cond_false_left, Bool.and_eq_true, Bool.or_eq_true, Bool.and_eq_false_iff, Bool.or_eq_false_iff, Bool.not_eq_true', Bool.not_eq_false', Bool.not_eq_true, Bool.not_eq_false, Bool.not_not, decide_eq_true_eq, decide_eq_false_iff_not, beq_iff_eq, beq_eq_false_iff_ne, bne_iff_ne, bne_eq_false_iff_eq, ne_eq, Classical.not_not, reduceCtorEq, false_or, or_false, true_and, and_true, Bool.false_eq_true, Bool.true_eq_false] at h) <;> try (exfalso; first | omega | (simp at h; done)))
      | (conv in Vc _ => arg 1; whnf
         first
          | (with_reducible refine vc_side0 ?_; rfl)
          | (with_reducible first
              | refine vc_true ?_ | refine vc_true2 ?_ | refine vc_side ?_ ?_ | refine vc_triv | refine vc_later ?_ | refine vc_caseT ?_ | refine vc_caseF ?_ | refine vc_cons ?_ | refine vc_nil ?_ ?_ | refine vc_seq ?_
                 | refine vc_region ?_ | refine vc_cond ?_ | refine vc_block ?_ | refine vc_retc ?_ | refine vc_exit ?_ | refine vc_skip ?_ | refine vc_scope ?_ | refine vc_label ?_ | refine vc_goto ?_ | refine vc_wkSl0
                 | refine vc_wkHp0 | refine vc_eqAVs0 | refine vc_preG0 | refine vc_wkSl ?_ ?_ | refine vc_wkHp ?_ ?_ | refine vc_eqAVs ?_ ?_ | refine vc_preG ?_ ?_ | refine vc_side0 ?_
                 | refine vc_nextI (x - 1) [] ?_ ?_ ?_ ?_ ?_ ?_ | refine vc_pure (pr x (by omega) (by omega) (by omega)) ?_ ?_ ?_ | refine vc_pure works11_ok ?_ ?_ ?_ | refine vc_weakf [] ?_ ?_ ?_ | refine vc_and ?_ ?_
                 | refine vc_ret [] [] ?_)
          | ((with_reducible first | refine vc_caseD (fun h => ?_) (fun h => ?_) | refine vc_caseN (fun h => ?_) (fun h => ?_)) <;> try (exfalso; omega))
          | ((with_reducible refine vc_case (fun h => ?_) (fun h => ?_)) <;> (try simp only [Bool.cond_true_left, Bool.cond_false_right, Bool.cond_true_right, Bool.cond_false_left, Bool.and_eq_true, Bool.or_eq_true, Bool.and_eq_false_iff, Bool.or_eq_false_iff, Bool.not_eq_true', Bool.not_eq_false', Bool.not_eq_true, Bool.not_eq_false, Bool.not_not, decide_eq_true_eq, decide_eq_false_iff_not, beq_iff_eq, beq_eq_false_iff_ne, bne_iff_ne, bne_eq_false_iff_eq, ne_eq, Classical.not_not, reduceCtorEq, false_or, or_false, true_and, and_true, Bool.false_eq_true, Bool.true_eq_false] at h) <;> try (exfalso; first | omega | (simp at h; done)))))
  all_goals (try have q40 := fewB_le (l := l) (by assumption))
  all_goals (try have hx : ((x : Int) - 1).toNat = x - 1 := (by omega))
  all_goals (try have hxl : x - 1 < l.length := (by omega))
  all_goals (try have hxm : x - 1 < m.length := (by omega))
  all_goals (try have he := eqR x (by omega) (by omega) (by omega) (by assumption) (hI.2 (by omega)))
  all_goals (try simp only [hx, sgn_at hxl, sgn_at hxm] at h ⊢)
  all_goals first
    | with_reducible rfl
    | omega
    | exact ⟨fits_dig 6 _, fits_dig 6 _⟩
    | exact ⟨by decide +kernel, fits_root 5 _, fits_root 5 _⟩
    | exact ⟨⟨by omega, by omega⟩, rfl⟩
    | exact ⟨Nat.le_refl _, fun h0 => ini (by assumption) (by assumption) (by omega) h0 (digSame h)⟩
    | exact ⟨by omega, fun h0 => nxt x (by assumption) (by assumption) (by omega) (by omega) (by omega) he⟩
    | exact absurd he (rtNe h)
    | (rw [wrap64_id (by omega) (by omega)]; congr 1; omega)
    | rfl
    | trace_state

end Go.Proofs.Ytlkibgkkmmoalaa
