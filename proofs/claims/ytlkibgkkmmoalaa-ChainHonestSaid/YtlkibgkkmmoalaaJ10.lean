import Derived.Test.YtlkibgkkmmoalaaJ1
import Derived.Test.YtlkibgkkmmoalaaJ2
import Derived.Test.YtlkibgkkmmoalaaJ3
import Derived.Test.YtlkibgkkmmoalaaJ4
import Derived.Test.YtlkibgkkmmoalaaJ5
import Derived.Test.YtlkibgkkmmoalaaJ6
import Derived.Test.YtlkibgkkmmoalaaJ7
import Derived.Test.YtlkibgkkmmoalaaJ8
import Derived.Test.YtlkibgkkmmoalaaJ9
set_option linter.unusedSimpArgs false
set_option linter.unusedVariables false
/-
What the laws of roots that are sealed return.
-/
set_option linter.unusedSimpArgs false
set_option linter.unusedVariables false
namespace Go.Proofs.Ytlkibgkkmmoalaa
open Go.Sym
set_option maxRecDepth 10000
set_option maxHeartbeats 4000000

theorem seal_follow (seed : List UInt8) {g : Hd} (he : g.epoch < 64) (hk : g.key = pubH seed (g.epoch + 1)) (tree : List UInt8) : folE g (sealS seed g tree) = 0 := by
  unfold folE
  rw [decide_eq_false (show ¬ 64 ≤ g.epoch by omega), decide_eq_true (show (sealS seed g tree).root.epoch = g.epoch + 1 from rfl), decide_eq_true (show (sealS seed g tree).root.prev = g.root from rfl)]
  have hc : checkE g.key (rootB (sealS seed g tree).root) (sealS seed g tree).sig = 0 := by
    rw [hk]
    show checkE (shaB (textP (keyH seed (g.epoch + 1)))) (rootB (sealRt seed g tree)) (signP (keyH seed (g.epoch + 1)) (shaB (rootB (sealRt seed g tree)))) = 0
    unfold checkE
    rw [open_sign (keyH_length _ _), decide_eq_true (signP_length (keyH_length _ _) _), decide_eq_true rfl]; rfl
  rw [decide_eq_true hc]; rfl

theorem chainSeals_main (seed : List UInt8) (hs : seed.length = 32) (g : Hd) (hg : wfH g) (tree : List UInt8) (ht : tree.length = 32) :
    LocalCall Try.prog 7 [.d (.arr 32 1 (seed.map byteD)), .d (hdD g), .d (.arr 32 1 (tree.map byteD))] [] [] (one [.d (.bool true)]) [] := by
  have c1 := seal_ok seed hs g hg tree ht
  have c2 := rSeal_ok seed hs g hg tree ht
  by_cases he : 64 ≤ g.epoch
  · unfold sealR sealE at c1 c2
    rw [decide_eq_true he, cond_true, cond_true] at c1 c2
    have c3 := sameSgn_ok s0 s0
    rw [decide_eq_true rfl] at c3
    refine vc_fn mixed Try.func7 rfl rfl [] (vc_chk rfl) ?_
    repeat' (first
        | ((with_reducible refine vc_chk ?_); first | decide +kernel | rfl)
        | (with_reducible refine vc_side0 ?_; rfl)
        | (with_reducible first
             | refine vc_true ?_ | refine vc_true2 ?_ | refine vc_side ?_ ?_ | refine vc_triv | refine vc_later ?_ | refine vc_caseT ?_ | refine vc_caseF ?_ | refine vc_cons ?_ | refine vc_nil ?_ ?_ | refine vc_seq ?_
                | refine vc_region ?_ | refine vc_cond ?_ | refine vc_block ?_ | refine vc_retc ?_ | refine vc_exit ?_ | refine vc_skip ?_ | refine vc_scope ?_ | refine vc_label ?_ | refine vc_goto ?_ | refine vc_wkSl0
                | refine vc_wkHp0 | refine vc_eqAVs0 | refine vc_preG0 | refine vc_wkSl ?_ ?_ | refine vc_wkHp ?_ ?_ | refine vc_eqAVs ?_ ?_ | refine vc_preG ?_ ?_ | refine vc_side0 ?_ | refine vc_pure c1 ?_ ?_ ?_
                | refine vc_pure c2 ?_ ?_ ?_ | refine vc_call [] c3 ?_ | refine vc_pure works11_ok ?_ ?_ ?_ | refine vc_weakf [] ?_ ?_ ?_ | refine vc_and ?_ ?_ | refine vc_ret [] [] ?_)
        | ((with_reducible first | refine vc_caseD (fun h => ?_) (fun h => ?_) | refine vc_caseN (fun h => ?_) (fun h => ?_)) <;> try (exfalso; omega))
        | ((with_reducible refine vc_case (fun h => ?_) (fun h => ?_)) <;> (try simp only [Bool.cond_true_left, Bool.cond_false_right, Bool.cond_true_right, Bool.cond_false_left, Bool.and_eq_true, Bool.or_eq_true, Bool.and_eq_false_iff, Bool.or_eq_false_iff, Bool.not_eq_true', Bool.not_eq_false', Bool.not_eq_true, Bool.not_eq_false, Bool.not_not, decide_eq_true_eq, decide_eq_false_iff_not, beq_iff_eq, beq_eq_false_iff_ne, bne_iff_ne, bne_eq_false_iff_eq, ne_eq, Classical.not_not, reduceCtorEq, false_or, or_false, true_and, and_true, Bool.false_eq_true, Bool.true_eq_false] at h) <;> try (exfalso; first | omega | (simp at h; done)))
        | (conv in Vc _ => arg 1; whnf
           first
            | (with_reducible refine vc_side0 ?_; rfl)
            | (with_reducible first
                | refine vc_true ?_ | refine vc_true2 ?_ | refine vc_side ?_ ?_ | refine vc_triv | refine vc_later ?_ | refine vc_caseT ?_ | refine vc_caseF ?_ | refine vc_cons ?_ | refine vc_nil ?_ ?_ | refine vc_seq ?_
                   | refine vc_region ?_ | refine vc_cond ?_ | refine vc_block ?_ | refine vc_retc ?_ | refine vc_exit ?_ | refine vc_skip ?_ | refine vc_scope ?_ | refine vc_label ?_ | refine vc_goto ?_ | refine vc_wkSl0
                   | refine vc_wkHp0 | refine vc_eqAVs0 | refine vc_preG0 | refine vc_wkSl ?_ ?_ | refine vc_wkHp ?_ ?_ | refine vc_eqAVs ?_ ?_ | refine vc_preG ?_ ?_ | refine vc_side0 ?_ | refine vc_pure c1 ?_ ?_ ?_
                   | refine vc_pure c2 ?_ ?_ ?_ | refine vc_call [] c3 ?_ | refine vc_pure works11_ok ?_ ?_ ?_ | refine vc_weakf [] ?_ ?_ ?_ | refine vc_and ?_ ?_ | refine vc_ret [] [] ?_)
            | ((with_reducible first | refine vc_caseD (fun h => ?_) (fun h => ?_) | refine vc_caseN (fun h => ?_) (fun h => ?_)) <;> try (exfalso; omega))
            | ((with_reducible refine vc_case (fun h => ?_) (fun h => ?_)) <;> (try simp only [Bool.cond_true_left, Bool.cond_false_right, Bool.cond_true_right, Bool.cond_false_left, Bool.and_eq_true, Bool.or_eq_true, Bool.and_eq_false_iff, Bool.or_eq_false_iff, Bool.not_eq_true', Bool.not_eq_false', Bool.not_eq_true, Bool.not_eq_false, Bool.not_not, decide_eq_true_eq, decide_eq_false_iff_not, beq_iff_eq, beq_eq_false_iff_ne, bne_iff_ne, bne_eq_false_iff_eq, ne_eq, Classical.not_not, reduceCtorEq, false_or, or_false, true_and, and_true, Bool.false_eq_true, Bool.true_eq_false] at h) <;> try (exfalso; first | omega | (simp at h; done)))))
    all_goals first
      | with_reducible rfl
      | omega
      | exact ⟨trivial, trivial⟩
      | exact ⟨trivial, trivial, trivial⟩
      | exact ⟨trivial, trivial, trivial, trivial⟩
      | exact ⟨⟨by decide, by decide, by decide⟩, trivial⟩
      | exact ⟨Nat.le_of_eq (Nat.zero_add _), trivial⟩
      | exact ⟨Nat.le_refl _, trivial, trivial⟩
      | (rw [wrap64_id (by omega) (by omega)]; rfl)
      | exact absurd rfl h
      | rfl
      | (exfalso; simp at h; done)
      | skip
    all_goals trace_state
  · unfold sealR sealE at c1 c2
    rw [decide_eq_false he, cond_false, cond_false] at c1 c2
    have hw := wf_seal seed hg (by omega) ht
    have hf : (g.epoch : Int) = 0 → folE ⟨g.epoch, g.root, pubH seed 1⟩ (sealS seed g tree) = 0 := fun h0 => by
      have e : g.epoch = 0 := by omega
      have := seal_follow seed (g := ⟨g.epoch, g.root, pubH seed 1⟩) (by show g.epoch < 64; omega) (by show pubH seed 1 = pubH seed (g.epoch + 1); rw [e]) tree
      exact this
    generalize sealS seed g tree = R at *
    have c3 := sameSgn_ok R R
    rw [decide_eq_true rfl] at c3
    have c4 := pin_ok seed hs
    have f1 : (g.epoch : Int) = 0 → LocalCall Try.prog 11 [.d (hdD ⟨g.epoch, g.root, pubH seed 1⟩), .d (sD R)] [] [] (one [.d (hdD (folH ⟨g.epoch, g.root, pubH seed 1⟩ R)), .d (.int .i64 0)]) [] := fun h0 => by
      have c := follow_ok ⟨g.epoch, g.root, pubH seed 1⟩ R ⟨hg.1, hg.2.1, pubH_length _ _⟩ hw
      rwa [hf h0] at c
    have f2 : (g.epoch : Int) = 0 → LocalCall Try.prog 12 [.d (hdD ⟨g.epoch, g.root, pubH seed 1⟩), .d (sD R)] [] [] (one [.d (hdD (folH ⟨g.epoch, g.root, pubH seed 1⟩ R)), .d (.int .i64 0)]) [] := fun h0 => by
      have c := rFollow_ok ⟨g.epoch, g.root, pubH seed 1⟩ R ⟨hg.1, hg.2.1, pubH_length _ _⟩ hw
      rwa [hf h0] at c
    have f3 : ¬ (g.epoch : Int) = 0 → _ := fun _ => follow_ok ⟨g.epoch, g.root, zero32⟩ R ⟨hg.1, hg.2.1, rfl⟩ hw
    have f4 : ¬ (g.epoch : Int) = 0 → _ := fun _ => rFollow_ok ⟨g.epoch, g.root, zero32⟩ R ⟨hg.1, hg.2.1, rfl⟩ hw
    refine vc_fn mixed Try.func7 rfl rfl [] (vc_chk rfl) ?_
    repeat' (first
        | ((with_reducible refine vc_chk ?_); first | decide +kernel | rfl)
        | (with_reducible refine vc_side0 ?_; rfl)
        | (with_reducible first
             | refine vc_true ?_ | refine vc_true2 ?_ | refine vc_side ?_ ?_ | refine vc_triv | refine vc_later ?_ | refine vc_caseT ?_ | refine vc_caseF ?_ | refine vc_cons ?_ | refine vc_nil ?_ ?_ | refine vc_seq ?_
                | refine vc_region ?_ | refine vc_cond ?_ | refine vc_block ?_ | refine vc_retc ?_ | refine vc_exit ?_ | refine vc_skip ?_ | refine vc_scope ?_ | refine vc_label ?_ | refine vc_goto ?_ | refine vc_wkSl0
                | refine vc_wkHp0 | refine vc_eqAVs0 | refine vc_preG0 | refine vc_wkSl ?_ ?_ | refine vc_wkHp ?_ ?_ | refine vc_eqAVs ?_ ?_ | refine vc_preG ?_ ?_ | refine vc_side0 ?_ | refine vc_pure c1 ?_ ?_ ?_
                | refine vc_pure c2 ?_ ?_ ?_ | refine vc_call [] c3 ?_ | refine vc_pure c4 ?_ ?_ ?_ | refine vc_pure works11_ok ?_ ?_ ?_ | refine vc_call [] (f1 (by assumption)) ?_ | refine vc_call [] (f2 (by assumption)) ?_
                | refine vc_call [] (f3 (by assumption)) ?_ | refine vc_call [] (f4 (by assumption)) ?_ | refine vc_weakf [] ?_ ?_ ?_ | refine vc_and ?_ ?_ | refine vc_ret [] [] ?_)
        | ((with_reducible first | refine vc_caseD (fun h => ?_) (fun h => ?_) | refine vc_caseN (fun h => ?_) (fun h => ?_)) <;> try (exfalso; omega))
        | ((with_reducible refine vc_case (fun h => ?_) (fun h => ?_)) <;> (try simp only [Bool.cond_true_left, Bool.cond_false_right, Bool.cond_true_right, Bool.cond_false_left, Bool.and_eq_true, Bool.or_eq_true, Bool.and_eq_false_iff, Bool.or_eq_false_iff, Bool.not_eq_true', Bool.not_eq_false', Bool.not_eq_true, Bool.not_eq_false, Bool.not_not, decide_eq_true_eq, decide_eq_false_iff_not, beq_iff_eq, beq_eq_false_iff_ne, bne_iff_ne, bne_eq_false_iff_eq, ne_eq, Classical.not_not, reduceCtorEq, false_or, or_false, true_and, and_true, Bool.false_eq_true, Bool.true_eq_false] at h) <;> try (exfalso; first | omega | (simp at h; done)))
        | (conv in Vc _ => arg 1; whnf
           first
            | (with_reducible refine vc_side0 ?_; rfl)
            | (with_reducible first
                | refine vc_true ?_ | refine vc_true2 ?_ | refine vc_side ?_ ?_ | refine vc_triv | refine vc_later ?_ | refine vc_caseT ?_ | refine vc_caseF ?_ | refine vc_cons ?_ | refine vc_nil ?_ ?_ | refine vc_seq ?_
                   | refine vc_region ?_ | refine vc_cond ?_ | refine vc_block ?_ | refine vc_retc ?_ | refine vc_exit ?_ | refine vc_skip ?_ | refine vc_scope ?_ | refine vc_label ?_ | refine vc_goto ?_ | refine vc_wkSl0
                   | refine vc_wkHp0 | refine vc_eqAVs0 | refine vc_preG0 | refine vc_wkSl ?_ ?_ | refine vc_wkHp ?_ ?_ | refine vc_eqAVs ?_ ?_ | refine vc_preG ?_ ?_ | refine vc_side0 ?_ | refine vc_pure c1 ?_ ?_ ?_
                   | refine vc_pure c2 ?_ ?_ ?_ | refine vc_call [] c3 ?_ | refine vc_pure c4 ?_ ?_ ?_ | refine vc_pure works11_ok ?_ ?_ ?_ | refine vc_call [] (f1 (by assumption)) ?_ | refine vc_call [] (f2 (by assumption)) ?_
                   | refine vc_call [] (f3 (by assumption)) ?_ | refine vc_call [] (f4 (by assumption)) ?_ | refine vc_weakf [] ?_ ?_ ?_ | refine vc_and ?_ ?_ | refine vc_ret [] [] ?_)
            | ((with_reducible first | refine vc_caseD (fun h => ?_) (fun h => ?_) | refine vc_caseN (fun h => ?_) (fun h => ?_)) <;> try (exfalso; omega))
            | ((with_reducible refine vc_case (fun h => ?_) (fun h => ?_)) <;> (try simp only [Bool.cond_true_left, Bool.cond_false_right, Bool.cond_true_right, Bool.cond_false_left, Bool.and_eq_true, Bool.or_eq_true, Bool.and_eq_false_iff, Bool.or_eq_false_iff, Bool.not_eq_true', Bool.not_eq_false', Bool.not_eq_true, Bool.not_eq_false, Bool.not_not, decide_eq_true_eq, decide_eq_false_iff_not, beq_iff_eq, beq_eq_false_iff_ne, bne_iff_ne, bne_eq_false_iff_eq, ne_eq, Classical.not_not, reduceCtorEq, false_or, or_false, true_and, and_true, Bool.false_eq_true, Bool.true_eq_false] at h) <;> try (exfalso; first | omega | (simp at h; done)))))
    all_goals first
      | with_reducible rfl
      | omega
      | exact ⟨trivial, trivial⟩
      | exact ⟨trivial, trivial, trivial⟩
      | exact ⟨trivial, trivial, trivial, trivial⟩
      | exact ⟨⟨by decide, by decide, by decide⟩, trivial⟩
      | exact ⟨Nat.le_of_eq (Nat.zero_add _), trivial⟩
      | exact ⟨Nat.le_refl _, trivial, trivial⟩
      | (rw [wrap64_id (by omega) (by omega)]; rfl)
      | exact absurd rfl h
      | exact ⟨by decide +kernel, fits_hd 5 _, fits_hd 5 _⟩
      | (exfalso; exact absurd rfl (hdNe h))
      | rfl
      | (exfalso; simp at h; done)
      | skip
    all_goals trace_state

theorem walk_one {g : Hd} {s : Sgn} (h : folE g s = 0) : walk g [s] = (folY s, 1, 0) := by
  simp only [walk, h, decide_true, cond_true]

theorem dig_at {ts : List (List UInt8)} {i : Nat} (hi : i < ts.length) : (ts.map digD).getD i .nilp = digD (ts.getD i []) := (map_at (f := digD) (d := []) hi).1

theorem chainHonest_main (seed : List UInt8) (hs : seed.length = 32) (ts : List (List UInt8)) (ht : ∀ t, t ∈ ts → t.length = 32) (hm : ts.length < 2 ^ 63) :
    LocalCall Try.prog 8 [.d (.arr 32 1 (seed.map byteD)), .d (.sl (ts.map digD))] [] [] (one [.d (.bool true)]) [] := by
  have lt : (ts.map digD).length = ts.length := List.length_map _
  have tl : ∀ i, i < ts.length → (ts.getD i []).length = 32 := fun i hi => ht _ (by rw [List.getD_eq_getElem?_getD, List.getElem?_eq_getElem hi]; simp)
  have c1 := pin_ok seed hs
  have c2 := start_ok (pubH seed 1)
  refine vc_fn mixed Try.func8 rfl rfl [(500004, [9098006]), (16, [6])] (vc_chk rfl) ?_
  by_cases h5 : ((ts.map digD).length : Int) > 5
  · skip
    repeat' (first
        | ((with_reducible refine vc_chk ?_); first | decide +kernel | rfl)
        | (with_reducible refine vc_side0 ?_; rfl)
        | (with_reducible first
             | refine vc_true ?_ | refine vc_true2 ?_ | refine vc_side ?_ ?_ | refine vc_triv | refine vc_later ?_ | refine vc_caseT ?_ | refine vc_caseF ?_ | refine vc_cons ?_ | refine vc_nil ?_ ?_ | refine vc_seq ?_
                | refine vc_region ?_ | refine vc_cond ?_ | refine vc_block ?_ | refine vc_retc ?_ | refine vc_exit ?_ | refine vc_skip ?_ | refine vc_scope ?_ | refine vc_label ?_ | refine vc_goto ?_ | refine vc_wkSl0
                | refine vc_wkHp0 | refine vc_eqAVs0 | refine vc_preG0 | refine vc_wkSl ?_ ?_ | refine vc_wkHp ?_ ?_ | refine vc_eqAVs ?_ ?_ | refine vc_preG ?_ ?_ | refine vc_side0 ?_ | refine vc_pure works11_ok ?_ ?_ ?_
                | refine vc_weakf [] ?_ ?_ ?_ | refine vc_and ?_ ?_ | refine vc_ret [] [] ?_)
        | ((with_reducible first | refine vc_caseD (fun h => ?_) (fun h => ?_) | refine vc_caseN (fun h => ?_) (fun h => ?_)) <;> try (exfalso; omega))
        | ((with_reducible refine vc_case (fun h => ?_) (fun h => ?_)) <;> (try simp only [Bool.cond_true_left, Bool.cond_false_right, Bool.cond_true_right, Bool.cond_false_left, Bool.and_eq_true, Bool.or_eq_true, Bool.and_eq_false_iff, Bool.or_eq_false_iff, Bool.not_eq_true', Bool.not_eq_false', Bool.not_eq_true, Bool.not_eq_false, Bool.not_not, decide_eq_true_eq, decide_eq_false_iff_not, beq_iff_eq, beq_eq_false_iff_ne, bne_iff_ne, bne_eq_false_iff_eq, ne_eq, Classical.not_not, reduceCtorEq, false_or, or_false, true_and, and_true, Bool.false_eq_true, Bool.true_eq_false] at h) <;> try (exfalso; first | omega | (simp at h; done)))
        | (conv in Vc _ => arg 1; whnf
           first
            | (with_reducible refine vc_side0 ?_; rfl)
            | (with_reducible first
                | refine vc_true ?_ | refine vc_true2 ?_ | refine vc_side ?_ ?_ | refine vc_triv | refine vc_later ?_ | refine vc_caseT ?_ | refine vc_caseF ?_ | refine vc_cons ?_ | refine vc_nil ?_ ?_ | refine vc_seq ?_
                   | refine vc_region ?_ | refine vc_cond ?_ | refine vc_block ?_ | refine vc_retc ?_ | refine vc_exit ?_ | refine vc_skip ?_ | refine vc_scope ?_ | refine vc_label ?_ | refine vc_goto ?_ | refine vc_wkSl0
                   | refine vc_wkHp0 | refine vc_eqAVs0 | refine vc_preG0 | refine vc_wkSl ?_ ?_ | refine vc_wkHp ?_ ?_ | refine vc_eqAVs ?_ ?_ | refine vc_preG ?_ ?_ | refine vc_side0 ?_ | refine vc_pure works11_ok ?_ ?_ ?_
                   | refine vc_weakf [] ?_ ?_ ?_ | refine vc_and ?_ ?_ | refine vc_ret [] [] ?_)
            | ((with_reducible first | refine vc_caseD (fun h => ?_) (fun h => ?_) | refine vc_caseN (fun h => ?_) (fun h => ?_)) <;> try (exfalso; omega))
            | ((with_reducible refine vc_case (fun h => ?_) (fun h => ?_)) <;> (try simp only [Bool.cond_true_left, Bool.cond_false_right, Bool.cond_true_right, Bool.cond_false_left, Bool.and_eq_true, Bool.or_eq_true, Bool.and_eq_false_iff, Bool.or_eq_false_iff, Bool.not_eq_true', Bool.not_eq_false', Bool.not_eq_true, Bool.not_eq_false, Bool.not_not, decide_eq_true_eq, decide_eq_false_iff_not, beq_iff_eq, beq_eq_false_iff_ne, bne_iff_ne, bne_eq_false_iff_eq, ne_eq, Classical.not_not, reduceCtorEq, false_or, or_false, true_and, and_true, Bool.false_eq_true, Bool.true_eq_false] at h) <;> try (exfalso; first | omega | (simp at h; done)))))
    all_goals first
      | with_reducible rfl
      | omega
      | exact ⟨trivial, trivial⟩
      | exact ⟨trivial, trivial, trivial⟩
      | exact ⟨trivial, trivial, trivial, trivial⟩
      | exact ⟨⟨by decide, by decide, by decide⟩, trivial⟩
      | exact ⟨Nat.le_of_eq (Nat.zero_add _), trivial⟩
      | exact ⟨Nat.le_refl _, trivial, trivial⟩
      | (rw [wrap64_id (by omega) (by omega)]; rfl)
      | rfl
      | (exfalso; simp at h; done)
      | skip
  -- a seal and its following, at a place
  have sl : ∀ (g : Hd) (i : Nat), i < ts.length → g.epoch = i → wfH g → LocalCall Try.prog 17 [.d (.arr 32 1 (seed.map byteD)), .d (hdD g), .d (.arr 32 1 ((ts.getD i []).map byteD))] [] [] (one [.d (sD (sealS seed g (ts.getD i []))), .d (.int .i64 0)]) [] := fun g i hi he hg => by
    have c := seal_ok seed hs g hg _ (tl i hi)
    unfold sealR sealE at c
    rwa [decide_eq_false (show ¬ 64 ≤ g.epoch by omega), cond_false, cond_false] at c
  have fo : ∀ (g : Hd) (i : Nat), i < ts.length → g.epoch = i → wfH g → g.key = pubH seed (i + 1) → LocalCall Try.prog 11 [.d (hdD g), .d (sD (sealS seed g (ts.getD i [])))] [] [] (one [.d (hdD (folY (sealS seed g (ts.getD i [])))), .d (.int .i64 0)]) [] := fun g i hi he hg hk => by
    have e := seal_follow seed (g := g) (by omega) (by rw [hk, he]) (ts.getD i [])
    have c := follow_ok g (sealS seed g (ts.getD i [])) hg (wf_seal seed hg (by omega) (tl i hi))
    unfold folH at c
    rwa [e, decide_eq_true rfl, cond_true] at c
  have rt : ∀ (g : Hd) (i : Nat), i < ts.length → g.epoch = i → wfH g → _ := fun g i hi he hg => rRoot_ok (sealRt seed g (ts.getD i [])) (wf_seal seed hg (by omega) (tl i hi)).wfR
  have wk : ∀ l : List Sgn, l.length ≤ 5 → (∀ s, s ∈ l → wfS s) → _ := fun l h1 h2 => walk_ok ⟨0, zero32, pubH seed 1⟩ l ⟨by show (0 : Nat) < _; decide, rfl, pubH_length _ _⟩ h2 (by omega)
  repeat' (first
      | ((with_reducible refine vc_chk ?_); first | decide +kernel | rfl)
      | (with_reducible refine vc_side0 ?_; rfl)
      | (with_reducible first
           | refine vc_true ?_ | refine vc_true2 ?_ | refine vc_side ?_ ?_ | refine vc_triv | refine vc_later ?_ | refine vc_caseT ?_ | refine vc_caseF ?_ | refine vc_cons ?_ | refine vc_nil ?_ ?_ | refine vc_seq ?_
              | refine vc_region ?_ | refine vc_cond ?_ | refine vc_block ?_ | refine vc_retc ?_ | refine vc_exit ?_ | refine vc_skip ?_ | refine vc_scope ?_ | refine vc_label ?_ | refine vc_goto ?_ | refine vc_wkSl0
              | refine vc_wkHp0 | refine vc_eqAVs0 | refine vc_preG0 | refine vc_wkSl ?_ ?_ | refine vc_wkHp ?_ ?_ | refine vc_eqAVs ?_ ?_ | refine vc_preG ?_ ?_ | refine vc_side0 ?_ | refine vc_call [] c1 ?_
              | refine vc_call [] c2 ?_ | refine vc_call [] (sl x.1 x.2.1 (by omega) hI.2.1 hI.2.2.2.1) ?_ | refine vc_call [] (fo x.1 x.2.1 (by omega) hI.2.1 hI.2.2.2.1 hI.2.2.1) ?_
              | refine vc_call [] (rt x.1 x.2.1 (by omega) hI.2.1 hI.2.2.2.1) ?_ | refine vc_pure works11_ok ?_ ?_ ?_
              | refine vc_loopI 112 (fun (x : Hd × Nat × List Sgn) => [(1, .d (.sl (ts.map digD))), (2, .ptr 1000 []), (5, .ptr 4012 []), (6, .sl 9 [] 98 0 (x.2.2.map sD).length), (7, .d (.int .i64 (x.2.1 : Int)))]) (fun x => [(1000, .var (.d (.arr 32 1 (seed.map byteD)))), (4012, .var (.d (hdD x.1))), (9, .row 98 (x.2.2.map sD))]) (fun x => ts.length - x.2.1) (fun x => x.2.1 ≤ ts.length ∧ x.1.epoch = x.2.1 ∧ x.1.key = pubH seed (x.2.1 + 1) ∧ wfH x.1 ∧ x.2.2.length = x.2.1 ∧ walk ⟨0, zero32, pubH seed 1⟩ x.2.2 = (x.1, x.2.1, 0) ∧ ∀ s, s ∈ x.2.2 → wfS s) (⟨0, zero32, pubH seed 1⟩, 0, []) [] ?_ ?_ ?_ ?_ ?_ (fun x hI => ?_)
              | refine vc_nextI (folY (sealS seed x.1 (ts.getD x.2.1 [])), x.2.1 + 1, x.2.2 ++ [sealS seed x.1 (ts.getD x.2.1 [])]) [(9, 15012)] ?_ ?_ ?_ ?_ ?_ ?_ | refine vc_call [] (wk x.2.2 (by omega) hI.2.2.2.2.2.2) ?_
              | refine vc_weakf [] ?_ ?_ ?_ | refine vc_and ?_ ?_ | refine vc_ret [] [] ?_)
      | ((with_reducible first | refine vc_caseD (fun h => ?_) (fun h => ?_) | refine vc_caseN (fun h => ?_) (fun h => ?_)) <;> try (exfalso; omega))
      | ((with_reducible refine vc_case (fun h => ?_) (fun h => ?_)) <;> (try simp only [Bool.cond_true_left, Bool.cond_false_right, Bool.cond_true_right, Bool.cond_false_left, Bool.and_eq_true, Bool.or_eq_true, Bool.and_eq_false_iff, Bool.or_eq_false_iff, Bool.not_eq_true', Bool.not_eq_false', Bool.not_eq_true, Bool.not_eq_false, Bool.not_not, decide_eq_true_eq, decide_eq_false_iff_not, beq_iff_eq, beq_eq_false_iff_ne, bne_iff_ne, bne_eq_false_iff_eq, ne_eq, Classical.not_not, reduceCtorEq, false_or, or_false, true_and, and_true, Bool.false_eq_true, Bool.true_eq_false] at h) <;> try (exfalso; first | omega | (simp at h; done)))
      | (conv in Vc _ => arg 1; whnf
         first
          | (with_reducible refine vc_side0 ?_; rfl)
          | (with_reducible first
              | refine vc_true ?_ | refine vc_true2 ?_ | refine vc_side ?_ ?_ | refine vc_triv | refine vc_later ?_ | refine vc_caseT ?_ | refine vc_caseF ?_ | refine vc_cons ?_ | refine vc_nil ?_ ?_ | refine vc_seq ?_
                 | refine vc_region ?_ | refine vc_cond ?_ | refine vc_block ?_ | refine vc_retc ?_ | refine vc_exit ?_ | refine vc_skip ?_ | refine vc_scope ?_ | refine vc_label ?_ | refine vc_goto ?_ | refine vc_wkSl0
                 | refine vc_wkHp0 | refine vc_eqAVs0 | refine vc_preG0 | refine vc_wkSl ?_ ?_ | refine vc_wkHp ?_ ?_ | refine vc_eqAVs ?_ ?_ | refine vc_preG ?_ ?_ | refine vc_side0 ?_ | refine vc_call [] c1 ?_
                 | refine vc_call [] c2 ?_ | refine vc_call [] (sl x.1 x.2.1 (by omega) hI.2.1 hI.2.2.2.1) ?_ | refine vc_call [] (fo x.1 x.2.1 (by omega) hI.2.1 hI.2.2.2.1 hI.2.2.1) ?_
                 | refine vc_call [] (rt x.1 x.2.1 (by omega) hI.2.1 hI.2.2.2.1) ?_ | refine vc_pure works11_ok ?_ ?_ ?_
                 | refine vc_loopI 112 (fun (x : Hd × Nat × List Sgn) => [(1, .d (.sl (ts.map digD))), (2, .ptr 1000 []), (5, .ptr 4012 []), (6, .sl 9 [] 98 0 (x.2.2.map sD).length), (7, .d (.int .i64 (x.2.1 : Int)))]) (fun x => [(1000, .var (.d (.arr 32 1 (seed.map byteD)))), (4012, .var (.d (hdD x.1))), (9, .row 98 (x.2.2.map sD))]) (fun x => ts.length - x.2.1) (fun x => x.2.1 ≤ ts.length ∧ x.1.epoch = x.2.1 ∧ x.1.key = pubH seed (x.2.1 + 1) ∧ wfH x.1 ∧ x.2.2.length = x.2.1 ∧ walk ⟨0, zero32, pubH seed 1⟩ x.2.2 = (x.1, x.2.1, 0) ∧ ∀ s, s ∈ x.2.2 → wfS s) (⟨0, zero32, pubH seed 1⟩, 0, []) [] ?_ ?_ ?_ ?_ ?_ (fun x hI => ?_)
                 | refine vc_nextI (folY (sealS seed x.1 (ts.getD x.2.1 [])), x.2.1 + 1, x.2.2 ++ [sealS seed x.1 (ts.getD x.2.1 [])]) [(9, 15012)] ?_ ?_ ?_ ?_ ?_ ?_ | refine vc_call [] (wk x.2.2 (by omega) hI.2.2.2.2.2.2) ?_
                 | refine vc_weakf [] ?_ ?_ ?_ | refine vc_and ?_ ?_ | refine vc_ret [] [] ?_)
          | ((with_reducible first | refine vc_caseD (fun h => ?_) (fun h => ?_) | refine vc_caseN (fun h => ?_) (fun h => ?_)) <;> try (exfalso; omega))
          | ((with_reducible refine vc_case (fun h => ?_) (fun h => ?_)) <;> (try simp only [Bool.cond_true_left, Bool.cond_false_right, Bool.cond_true_right, Bool.cond_false_left, Bool.and_eq_true, Bool.or_eq_true, Bool.and_eq_false_iff, Bool.or_eq_false_iff, Bool.not_eq_true', Bool.not_eq_false', Bool.not_eq_true, Bool.not_eq_false, Bool.not_not, decide_eq_true_eq, decide_eq_false_iff_not, beq_iff_eq, beq_eq_false_iff_ne, bne_iff_ne, bne_eq_false_iff_eq, ne_eq, Classical.not_not, reduceCtorEq, false_or, or_false, true_and, and_true, Bool.false_eq_true, Bool.true_eq_false] at h) <;> try (exfalso; first | omega | (simp at h; done)))))
  all_goals (try have hi : x.2.1 < ts.length := (by omega))
  all_goals (try simp only [Int.toNat_natCast, dig_at hi] at h ⊢)
  all_goals first
    | with_reducible rfl
    | exact ⟨Nat.zero_le _, rfl, rfl, ⟨by show (0 : Nat) < _; decide, rfl, pubH_length _ _⟩, rfl, rfl, nofun⟩
    | exact ⟨⟨by omega, by omega⟩, rfl⟩
    | exact ⟨fits_dig 6 _, fits_dig 6 _⟩
    | exact ⟨by decide +kernel, fits_hd 5 _, fits_hd 5 _⟩
    | (exfalso; exact digDiff h rfl)
    | (exfalso; apply h; show ((x.1.epoch + 1 : Nat) : Int) = _; rw [hI.2.1, wrap64_id (n := (x.2.1 : Int) + 1) (by omega) (by omega), wrapU64_id (by omega) (by omega)]; rfl)
    | (rw [wrap64_id (by omega) (by omega)]; rfl)
    | (show ts.length - (x.2.1 + 1) < ts.length - x.2.1; omega)
    | (exfalso; exact absurd rfl (hdNe h))
    | exact absurd rfl h
    | exact ⟨⟨Nat.le_of_eq (Nat.zero_add _), trivial, (by show Room (x.2.2.map sD ++ [sD _]).length 128; unfold Room; simp only [List.length_append, List.length_map, List.length_cons, List.length_nil]; omega)⟩, fun y hy => (by rw [List.mem_singleton.1 hy]; rfl)⟩
    | exact ⟨by omega, by show x.1.epoch + 1 = x.2.1 + 1; rw [hI.2.1], by show pubH seed (x.1.epoch + 2) = _; rw [hI.2.1], wf_folY (wf_seal seed hI.2.2.2.1 (by have := hI.2.1; omega) (tl _ hi)), by rw [List.length_append, hI.2.2.2.2.1]; rfl, by rw [walk_append, hI.2.2.2.2.2.1]; show ((walk x.1 [_]).1, x.2.1 + (walk x.1 [_]).2.1, (walk x.1 [_]).2.2) = _; rw [walk_one (seal_follow seed (by have := hI.2.1; omega) (by rw [hI.2.2.1, hI.2.1]) _)], fun s hs => (List.mem_append.1 hs).elim (hI.2.2.2.2.2.2 s) (fun q => by rw [List.mem_singleton.1 q]; exact wf_seal seed hI.2.2.2.1 (by have := hI.2.1; omega) (tl _ hi))⟩
    | (rw [List.map_append]; rfl)
    | exact Nat.le_of_eq (Nat.zero_add _)
    | exact ⟨Nat.le_of_eq (Nat.zero_add _), trivial⟩
    | (rw [List.drop_zero, List.take_length]; done)
    | (exfalso; rw [hI.2.2.2.2.2.1] at h; first | exact absurd rfl h | exact absurd rfl (hdNe h) | (apply h; show ((x.2.1 : Nat) : Int) = _; rw [List.drop_zero, List.take_length, List.length_map, hI.2.2.2.2.1]))
    | rfl
    | trace_state

end Go.Proofs.Ytlkibgkkmmoalaa
