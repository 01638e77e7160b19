import Derived.Test.YtogncghpngmjpaaJ1
import Derived.Test.YtogncghpngmjpaaJ2
import Derived.Test.YtogncghpngmjpaaJ3
import Derived.Test.YtogncghpngmjpaaJ4
import Derived.Test.YtogncghpngmjpaaJ5
import Derived.Test.YtogncghpngmjpaaJ6
import Derived.Test.YtogncghpngmjpaaJ7
import Derived.Test.YtogncghpngmjpaaJ8
import Derived.Test.YtogncghpngmjpaaJ9
import Derived.Test.YtogncghpngmjpaaJ10
set_option linter.unusedSimpArgs false
set_option linter.unusedVariables false
/-
What the laws RecordOne, RecordApart return.
-/
set_option linter.unusedSimpArgs false
set_option linter.unusedVariables false
namespace Go.Proofs.Ytogncghpngmjpaa
open Go.Sym
set_option maxRecDepth 10000
set_option maxHeartbeats 16000000

theorem recordOne_main (t : List UInt8) (hl : t.length < 2 ^ 63) : LocalCall Try.prog 8 [.d (.sl (t.map byteD))] [] [] (one [.d (.bool true)]) [] := by
  have hs : ∀ {α : Type} {O : Option α}, errI O = 0 → ∃ a, O = some a := fun {α O} h => by
    cases O with
    | none => cases h
    | some a => exact ⟨a, rfl⟩
  generalize h1 : toFin t.length (rdBnd t) = O1
  generalize h2 : toFin t.length (rdReq t) = O2
  generalize h3 : toFin t.length (rdSgn t) = O3
  generalize h4 : toFin t.length (rdPrf t) = O4
  have c1 := bind_ok (t.map byteD) t rfl (by omega) O1 h1
  have c2 := req_ok (t.map byteD) t rfl (by omega) O2 h2
  have c3 := sgn_ok (t.map byteD) t rfl (by omega) O3 h3
  have c4 := prf_ok (t.map byteD) t rfl (by omega) O4 h4
  have w1 : errI O1 = 0 → LocalCall Try.prog 15 [.d (bD (O1.getD b0))] [] [] (one [.d (.sl (t.map byteD))]) [] := fun h => by
    obtain ⟨b, rfl⟩ := hs h
    obtain ⟨e1, e2, e3⟩ := bnd_one h1
    obtain ⟨e4, e5⟩ := check_len e3
    have := bndB_len b e2 (by omega)
    rw [← e1]; exact bndW b e2 (by omega)
  have w2 : errI O2 = 0 → LocalCall Try.prog 17 [.d (qD (O2.getD q0))] [] [] (one [.d (.sl (t.map byteD))]) [] := fun h => by
    obtain ⟨b, rfl⟩ := hs h
    obtain ⟨e1, e2, e3⟩ := req_one h2
    obtain ⟨e4, e5⟩ := check_len e3.1
    have := reqB_len b e2 (by omega)
    rw [← e1]; exact reqW b e2 (by omega)
  have w3 : errI O3 = 0 → LocalCall Try.prog 19 [.d (sD (O3.getD s0))] [] [] (one [.d (.sl (t.map byteD))]) [] := fun h => by
    obtain ⟨b, rfl⟩ := hs h
    obtain ⟨e1, e2, e3⟩ := sgn_one h3
    have := sgnB_len b e2 (by omega)
    rw [← e1]; exact sgnW b e2.epoch e2.prev e2.tree e2.next (by omega)
  have w4 : errI O4 = 0 → LocalCall Try.prog 21 [.d (pD (O4.getD p0))] [] [] (one [.d (.sl (t.map byteD))]) [] := fun h => by
    obtain ⟨b, rfl⟩ := hs h
    obtain ⟨e1, e2, e3⟩ := prf_one h4
    have e4 := flat_32 b.sides e2.sides
    have := e3.1
    have := prfB_len b e2 (by omega)
    rw [← e1]; exact prfW b e2.sides e2.index e2.value (by omega)
  have w5 : errI O4 = 0 → LocalCall Try.prog 11 [.d (pD (O4.getD p0))] [] [] (one [.d (.bool true)]) [] := fun h => by
    obtain ⟨b, rfl⟩ := hs h
    obtain ⟨_, _, e3⟩ := prf_one h4
    have := right_ok b
    rw [decide_eq_true e3] at this
    exact this
  have sy := same_yes t
  refine vc_fn mixed Try.func8 rfl rfl [] (vc_chk rfl) ?_
  repeat' (first
      | ((with_reducible refine vc_chk ?_); first | decide +kernel | rfl)
      | (with_reducible refine vc_side0 ?_; rfl)
      | (with_reducible first
           | refine vc_true ?_ | refine vc_true2 ?_ | refine vc_side ?_ ?_ | refine vc_triv | refine vc_later ?_ | refine vc_caseT ?_ | refine vc_caseF ?_ | refine vc_cons ?_ | refine vc_nil ?_ ?_ | refine vc_seq ?_
              | refine vc_region ?_ | refine vc_cond ?_ | refine vc_block ?_ | refine vc_retc ?_ | refine vc_exit ?_ | refine vc_skip ?_ | refine vc_scope ?_ | refine vc_label ?_ | refine vc_goto ?_ | refine vc_wkSl0
              | refine vc_wkHp0 | refine vc_eqAVs0 | refine vc_preG0 | refine vc_wkSl ?_ ?_ | refine vc_wkHp ?_ ?_ | refine vc_eqAVs ?_ ?_ | refine vc_preG ?_ ?_ | refine vc_side0 ?_ | refine vc_pure c1 ?_ ?_ ?_
              | refine vc_pure c2 ?_ ?_ ?_ | refine vc_pure c3 ?_ ?_ ?_ | refine vc_pure c4 ?_ ?_ ?_ | refine vc_pure (w1 (by assumption)) ?_ ?_ ?_ | refine vc_pure (w2 (by assumption)) ?_ ?_ ?_
              | refine vc_pure (w3 (by assumption)) ?_ ?_ ?_ | refine vc_pure (w4 (by assumption)) ?_ ?_ ?_ | refine vc_pure (w5 (by assumption)) ?_ ?_ ?_ | refine vc_pure sy ?_ ?_ ?_ | refine vc_pure works_ok ?_ ?_ ?_
              | refine vc_weakf [] ?_ ?_ ?_ | refine vc_and ?_ ?_ | refine vc_ret [] [] ?_)
      | ((with_reducible first | refine vc_caseD (fun h => ?_) (fun h => ?_) | refine vc_caseN (fun h => ?_) (fun h => ?_)) <;> try (exfalso; omega))
      | ((with_reducible refine vc_case (fun h => ?_) (fun h => ?_)) <;> (try simp only [Bool.cond_true_left, Bool.cond_false_right, Bool.cond_true_right, Bool.cond_false_left, Bool.and_eq_true, Bool.or_eq_true, Bool.and_eq_false_iff, Bool.or_eq_false_iff, Bool.not_eq_true', Bool.not_eq_false', Bool.not_eq_true, Bool.not_eq_false, Bool.not_not, decide_eq_true_eq, decide_eq_false_iff_not, beq_iff_eq, beq_eq_false_iff_ne, bne_iff_ne, bne_eq_false_iff_eq, ne_eq, Classical.not_not, reduceCtorEq, false_or, or_false, true_and, and_true, Bool.false_eq_true, Bool.true_eq_false] at h) <;> try (exfalso; first | omega | (simp at h; done)))
      | (conv in Vc _ => arg 1; whnf
         first
          | (with_reducible refine vc_side0 ?_; rfl)
          | (with_reducible first
              | refine vc_true ?_ | refine vc_true2 ?_ | refine vc_side ?_ ?_ | refine vc_triv | refine vc_later ?_ | refine vc_caseT ?_ | refine vc_caseF ?_ | refine vc_cons ?_ | refine vc_nil ?_ ?_ | refine vc_seq ?_
                 | refine vc_region ?_ | refine vc_cond ?_ | refine vc_block ?_ | refine vc_retc ?_ | refine vc_exit ?_ | refine vc_skip ?_ | refine vc_scope ?_ | refine vc_label ?_ | refine vc_goto ?_ | refine vc_wkSl0
                 | refine vc_wkHp0 | refine vc_eqAVs0 | refine vc_preG0 | refine vc_wkSl ?_ ?_ | refine vc_wkHp ?_ ?_ | refine vc_eqAVs ?_ ?_ | refine vc_preG ?_ ?_ | refine vc_side0 ?_ | refine vc_pure c1 ?_ ?_ ?_
                 | refine vc_pure c2 ?_ ?_ ?_ | refine vc_pure c3 ?_ ?_ ?_ | refine vc_pure c4 ?_ ?_ ?_ | refine vc_pure (w1 (by assumption)) ?_ ?_ ?_ | refine vc_pure (w2 (by assumption)) ?_ ?_ ?_
                 | refine vc_pure (w3 (by assumption)) ?_ ?_ ?_ | refine vc_pure (w4 (by assumption)) ?_ ?_ ?_ | refine vc_pure (w5 (by assumption)) ?_ ?_ ?_ | refine vc_pure sy ?_ ?_ ?_ | refine vc_pure works_ok ?_ ?_ ?_
                 | refine vc_weakf [] ?_ ?_ ?_ | refine vc_and ?_ ?_ | refine vc_ret [] [] ?_)
          | ((with_reducible first | refine vc_caseD (fun h => ?_) (fun h => ?_) | refine vc_caseN (fun h => ?_) (fun h => ?_)) <;> try (exfalso; omega))
          | ((with_reducible refine vc_case (fun h => ?_) (fun h => ?_)) <;> (try simp only [Bool.cond_true_left, Bool.cond_false_right, Bool.cond_true_right, Bool.cond_false_left, Bool.and_eq_true, Bool.or_eq_true, Bool.and_eq_false_iff, Bool.or_eq_false_iff, Bool.not_eq_true', Bool.not_eq_false', Bool.not_eq_true, Bool.not_eq_false, Bool.not_not, decide_eq_true_eq, decide_eq_false_iff_not, beq_iff_eq, beq_eq_false_iff_ne, bne_iff_ne, bne_eq_false_iff_eq, ne_eq, Classical.not_not, reduceCtorEq, false_or, or_false, true_and, and_true, Bool.false_eq_true, Bool.true_eq_false] at h) <;> try (exfalso; first | omega | (simp at h; done)))))
  all_goals first
    | rfl
    | exact ⟨trivial, trivial, trivial⟩
    | (exfalso; simp at h; done)
    | skip

theorem recordApart_main (a b : Bnd) (q p : Req) (s t : Sgn) (x y : Prf) (ha : a.serial < 2 ^ 64) (hb : b.serial < 2 ^ 64) (hq : q.auth.length = 32) (hp : p.auth.length = 32) (ws : wfS s) (wt : wfS t) (wx : wfP x) (wy : wfP y)
    (l1 : a.name.length + a.key.length ≤ 2 ^ 21) (l2 : b.name.length + b.key.length ≤ 2 ^ 21) (l3 : q.name.length + q.key.length ≤ 2 ^ 21) (l4 : p.name.length + p.key.length ≤ 2 ^ 21) (l5 : s.sig.length ≤ 2 ^ 21) (l6 : t.sig.length ≤ 2 ^ 21) (l7 : x.sides.flatten.length ≤ 2 ^ 21) (l8 : y.sides.flatten.length ≤ 2 ^ 21) :
    LocalCall Try.prog 5 [.d (bD a), .d (bD b), .d (qD q), .d (qD p), .d (sD s), .d (sD t), .d (pD x), .d (pD y)] [] [] (one [.d (.bool true)]) [] := by
  have r1 := bndB_len a ha l1
  have r2 := bndB_len b hb l2
  have r3 := reqB_len q hq l3
  have r4 := reqB_len p hp l4
  have r5 := sgnB_len s ws l5
  have r6 := sgnB_len t wt l6
  have r7 := prfB_len x wx l7
  have r8 := prfB_len y wy l8
  have c1 := bndW a ha (by omega)
  have c2 := bndW b hb (by omega)
  have c3 := reqW q hq (by omega)
  have c4 := reqW p hp (by omega)
  have c5 := sgnW s ws.epoch ws.prev ws.tree ws.next (by omega)
  have c6 := sgnW t wt.epoch wt.prev wt.tree wt.next (by omega)
  have c7 := prfW x wx.sides wx.index wx.value (by omega)
  have c8 := prfW y wy.sides wy.index wy.value (by omega)
  have m1 := may_ok q (by omega)
  have m2 := may_ok p (by omega)
  have m3 := rRight_ok x
  have m4 := rRight_ok y
  have h0 := flat_len x.sides wx.sides
  have s1 := sameBnd_ok a b
  have s2 := sameReq_ok q p
  have s3 := sameSgn_ok s t
  have s4 := samePrf_ok x y (by omega)
  have e1 := same_b (bndB a) (bndB b)
  have e3 := same_b (sgnB s) (sgnB t)
  rw [decide_swap (bndB a = bndB b) (a = b) ⟨fun h => bnd_code h, fun h => by rw [h]⟩] at e1
  rw [decide_swap (sgnB s = sgnB t) (s = t) ⟨fun h => sgn_code ws wt h, fun h => by rw [h]⟩] at e3
  have e2 : mayQ q → mayQ p → LocalCall Try.prog 14 [.d (.sl ((reqB q).map byteD)), .d (.sl ((reqB p).map byteD))] [] [] (one [.d (.bool (decide (q = p)))]) [] := fun h1 h2 => by
    have := same_b (reqB q) (reqB p)
    rw [decide_swap (reqB q = reqB p) (q = p) ⟨fun h => req_code h1 h2 h, fun h => by rw [h]⟩] at this
    exact this
  have e4 : rightP x → rightP y → LocalCall Try.prog 14 [.d (.sl ((prfB x).map byteD)), .d (.sl ((prfB y).map byteD))] [] [] (one [.d (.bool (decide (x = y)))]) [] := fun h1 h2 => by
    have := same_b (prfB x) (prfB y)
    rw [decide_swap (prfB x = prfB y) (x = y) ⟨fun h => prf_code wx wy h1 h2 h, fun h => by rw [h]⟩] at this
    exact this
  generalize decide (a = b) = g1 at e1 s1
  generalize decide (s = t) = g3 at e3 s3
  generalize decide (q = p) = g2 at e2 s2
  generalize decide (x = y) = g4 at e4 s4
  have eb : ∀ g : Bool, (g == g) = true := fun g => by cases g <;> rfl
  refine vc_fn mixed Try.func5 rfl rfl [] (vc_chk rfl) ?_
  repeat' (first
      | ((with_reducible refine vc_chk ?_); first | decide +kernel | rfl)
      | (with_reducible refine vc_side0 ?_; rfl)
      | (with_reducible first
           | refine vc_true ?_ | refine vc_true2 ?_ | refine vc_side ?_ ?_ | refine vc_triv | refine vc_later ?_ | refine vc_caseT ?_ | refine vc_caseF ?_ | refine vc_cons ?_ | refine vc_nil ?_ ?_ | refine vc_seq ?_
              | refine vc_region ?_ | refine vc_cond ?_ | refine vc_block ?_ | refine vc_retc ?_ | refine vc_exit ?_ | refine vc_skip ?_ | refine vc_scope ?_ | refine vc_label ?_ | refine vc_goto ?_ | refine vc_wkSl0
              | refine vc_wkHp0 | refine vc_eqAVs0 | refine vc_preG0 | refine vc_wkSl ?_ ?_ | refine vc_wkHp ?_ ?_ | refine vc_eqAVs ?_ ?_ | refine vc_preG ?_ ?_ | refine vc_side0 ?_ | refine vc_pure c1 ?_ ?_ ?_
              | refine vc_pure c2 ?_ ?_ ?_ | refine vc_pure c3 ?_ ?_ ?_ | refine vc_pure c4 ?_ ?_ ?_ | refine vc_pure c5 ?_ ?_ ?_ | refine vc_pure c6 ?_ ?_ ?_ | refine vc_pure c7 ?_ ?_ ?_ | refine vc_pure c8 ?_ ?_ ?_
              | refine vc_pure m1 ?_ ?_ ?_ | refine vc_pure m2 ?_ ?_ ?_ | refine vc_pure m3 ?_ ?_ ?_ | refine vc_pure m4 ?_ ?_ ?_ | refine vc_pure s1 ?_ ?_ ?_ | refine vc_pure s2 ?_ ?_ ?_ | refine vc_pure s3 ?_ ?_ ?_
              | refine vc_pure s4 ?_ ?_ ?_ | refine vc_pure e1 ?_ ?_ ?_ | refine vc_pure e3 ?_ ?_ ?_ | refine vc_pure (e2 (by assumption) (by assumption)) ?_ ?_ ?_ | refine vc_pure (e4 (by assumption) (by assumption)) ?_ ?_ ?_
              | refine vc_pure works_ok ?_ ?_ ?_ | refine vc_weakf [] ?_ ?_ ?_ | refine vc_and ?_ ?_ | refine vc_ret [] [] ?_)
      | ((with_reducible first | refine vc_caseD (fun h => ?_) (fun h => ?_) | refine vc_caseN (fun h => ?_) (fun h => ?_)) <;> try (exfalso; omega))
      | ((with_reducible refine vc_case (fun h => ?_) (fun h => ?_)) <;> (try simp only [Bool.cond_true_left, Bool.cond_false_right, Bool.cond_true_right, Bool.cond_false_left, Bool.and_eq_true, Bool.or_eq_true, Bool.and_eq_false_iff, Bool.or_eq_false_iff, Bool.not_eq_true', Bool.not_eq_false', Bool.not_eq_true, Bool.not_eq_false, Bool.not_not, decide_eq_true_eq, decide_eq_false_iff_not, beq_iff_eq, beq_eq_false_iff_ne, bne_iff_ne, bne_eq_false_iff_eq, ne_eq, Classical.not_not, reduceCtorEq, false_or, or_false, true_and, and_true, Bool.false_eq_true, Bool.true_eq_false] at h) <;> try (exfalso; first | omega | (simp at h; done)))
      | (conv in Vc _ => arg 1; whnf
         first
          | (with_reducible refine vc_side0 ?_; rfl)
          | (with_reducible first
              | refine vc_true ?_ | refine vc_true2 ?_ | refine vc_side ?_ ?_ | refine vc_triv | refine vc_later ?_ | refine vc_caseT ?_ | refine vc_caseF ?_ | refine vc_cons ?_ | refine vc_nil ?_ ?_ | refine vc_seq ?_
                 | refine vc_region ?_ | refine vc_cond ?_ | refine vc_block ?_ | refine vc_retc ?_ | refine vc_exit ?_ | refine vc_skip ?_ | refine vc_scope ?_ | refine vc_label ?_ | refine vc_goto ?_ | refine vc_wkSl0
                 | refine vc_wkHp0 | refine vc_eqAVs0 | refine vc_preG0 | refine vc_wkSl ?_ ?_ | refine vc_wkHp ?_ ?_ | refine vc_eqAVs ?_ ?_ | refine vc_preG ?_ ?_ | refine vc_side0 ?_ | refine vc_pure c1 ?_ ?_ ?_
                 | refine vc_pure c2 ?_ ?_ ?_ | refine vc_pure c3 ?_ ?_ ?_ | refine vc_pure c4 ?_ ?_ ?_ | refine vc_pure c5 ?_ ?_ ?_ | refine vc_pure c6 ?_ ?_ ?_ | refine vc_pure c7 ?_ ?_ ?_ | refine vc_pure c8 ?_ ?_ ?_
                 | refine vc_pure m1 ?_ ?_ ?_ | refine vc_pure m2 ?_ ?_ ?_ | refine vc_pure m3 ?_ ?_ ?_ | refine vc_pure m4 ?_ ?_ ?_ | refine vc_pure s1 ?_ ?_ ?_ | refine vc_pure s2 ?_ ?_ ?_ | refine vc_pure s3 ?_ ?_ ?_
                 | refine vc_pure s4 ?_ ?_ ?_ | refine vc_pure e1 ?_ ?_ ?_ | refine vc_pure e3 ?_ ?_ ?_ | refine vc_pure (e2 (by assumption) (by assumption)) ?_ ?_ ?_ | refine vc_pure (e4 (by assumption) (by assumption)) ?_ ?_ ?_
                 | refine vc_pure works_ok ?_ ?_ ?_ | refine vc_weakf [] ?_ ?_ ?_ | refine vc_and ?_ ?_ | refine vc_ret [] [] ?_)
          | ((with_reducible first | refine vc_caseD (fun h => ?_) (fun h => ?_) | refine vc_caseN (fun h => ?_) (fun h => ?_)) <;> try (exfalso; omega))
          | ((with_reducible refine vc_case (fun h => ?_) (fun h => ?_)) <;> (try simp only [Bool.cond_true_left, Bool.cond_false_right, Bool.cond_true_right, Bool.cond_false_left, Bool.and_eq_true, Bool.or_eq_true, Bool.and_eq_false_iff, Bool.or_eq_false_iff, Bool.not_eq_true', Bool.not_eq_false', Bool.not_eq_true, Bool.not_eq_false, Bool.not_not, decide_eq_true_eq, decide_eq_false_iff_not, beq_iff_eq, beq_eq_false_iff_ne, bne_iff_ne, bne_eq_false_iff_eq, ne_eq, Classical.not_not, reduceCtorEq, false_or, or_false, true_and, and_true, Bool.false_eq_true, Bool.true_eq_false] at h) <;> try (exfalso; first | omega | (simp at h; done)))))
  all_goals (try simp only [eb] at *)
  all_goals first
    | rfl
    | (exfalso; simp_all; done)
    | skip

end Go.Proofs.Ytogncghpngmjpaa
