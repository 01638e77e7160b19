import Derived.Test.YtogncghpngmjpaaJ1
import Derived.Test.YtogncghpngmjpaaJ2
import Derived.Test.YtogncghpngmjpaaJ3
import Derived.Test.YtogncghpngmjpaaJ4
import Derived.Test.YtogncghpngmjpaaJ5
import Derived.Test.YtogncghpngmjpaaJ6
import Derived.Test.YtogncghpngmjpaaJ7
set_option linter.unusedSimpArgs false
set_option linter.unusedVariables false
/-
What the references of the record layer read: proofs.
-/
set_option linter.unusedSimpArgs false
set_option linter.unusedVariables false
namespace Go.Proofs.Ytogncghpngmjpaa
open Go.Sym
set_option maxRecDepth 10000
set_option maxHeartbeats 8000000

theorem RfG.next {bs : List UInt8} {len n : Nat} {R : Option (List (List UInt8) × Nat)} {x : List (List UInt8) × Nat × Bool × Nat} (hlen : len = bs.length) (hI : RfI (rdGs bs) len n R x) (h : x.2.2.1 = false) (hn : x.2.2.2 < n) :
    RfI (rdGs bs) len n R (x.1 ++ [(inGs bs x.2.2.1 x.2.1).1], (inGs bs x.2.2.1 x.2.1).2.1, (inGs bs x.2.2.1 x.2.1).2.2, x.2.2.2 + 1) := by
  obtain ⟨acc, k, b, i⟩ := x
  obtain ⟨e, hi, hl, hk⟩ := hI
  simp only at e hi hl hk h hn ⊢
  subst h
  refine ⟨?_, by simp only; omega, by simp [hl], by subst hlen; exact inGs_le bs false k hk⟩
  rw [← e]
  obtain ⟨m, hm⟩ : ∃ m, n - i = m + 1 := ⟨n - i - 1, by omega⟩
  have q := inGs_opt bs false k
  simp only [cond_false] at q ⊢
  rw [hm, show n - (i + 1) = m by omega, rdGs, ← q]
  rcases inGs bs false k with ⟨v, e', b'⟩
  cases b' with
  | true => rfl
  | false =>
    simp only [optR, cond_false, Option.bind_some]
    cases rdGs bs m e' with
    | none => rfl
    | some p => simp

/-- Behind the sides. -/
def prTl (bs : List UInt8) (g : List (List UInt8) × Nat) : Option (Prf × Nat) := (rdC bs 1 g.2).bind fun e => (rdLf bs e.1 e.2).bind fun l => some (⟨g.1, (e.1 : Int), l.1.1, l.1.2⟩, l.2)

theorem prf_mid {bs : List UInt8} {n k0 : Nat} {b0 : Bool} (q0 : optR (n, k0, b0) = rdC bs 256 0) {R : Option (List (List UInt8) × Nat)} (hR : (bif b0 then none else rdGs bs n k0) = R) {x : List (List UInt8) × Nat × Bool × Nat} (hI : RfI (rdGs bs) bs.length n R x)
    (hx : x.2.2.1 = false → n ≤ x.2.2.2) : rdPrf bs = bif x.2.2.1 then none else prTl bs (x.1, x.2.1) := by
  have h1 : rdPrf bs = R.bind (prTl bs) := by
    unfold rdPrf
    rw [← q0, ← hR]
    cases b0 <;> rfl
  rw [h1]
  cases hb : x.2.2.1 with
  | true => rw [hI.bad hb]; rfl
  | false => rw [hI.stop (fun _ => rfl) hb (hx hb)]; rfl

abbrev resP : Option Prf → D
  | some p => pD p
  | none => .st [.nils, .int .i64 0, digD zero32, digD zero32]

theorem prfA_no {bs : List UInt8} {k1 : Nat} {b1 : Bool} {acc : List (List UInt8)} {k : Nat} {b : Bool} {e : Nat} (q1 : optR (e, k1, b1) = bif b then none else rdC bs 1 k) (he : ¬ (e : Int) = 1) :
    (bif b then none else prTl bs (acc, k)) = bif b1 then none else some (⟨acc, (e : Int), zero32, zero32⟩, k1) := by
  cases b <;> cases b1 <;> simp only [optR, cond_true, cond_false, reduceCtorEq] at q1 <;> first
    | (simp [prTl, ← q1, rdLf_no (bs := bs) (e := e) (k := k1) he]; done)
    | rfl

theorem prfA_yes {bs v2 v3 : List UInt8} {k1 k2 k3 : Nat} {b1 b2 b3 : Bool} {acc : List (List UInt8)} {k : Nat} {b : Bool} {e : Nat} (q1 : optR (e, k1, b1) = bif b then none else rdC bs 1 k) (he : (e : Int) = 1) (q2 : optR (v2, k2, b2) = bif b1 then none else rdG bs k1)
    (q3 : optR (v3, k3, b3) = bif b2 then none else rdG bs k2) : (bif b then none else prTl bs (acc, k)) = bif b3 then none else some (⟨acc, (e : Int), v2, v3⟩, k3) := by
  cases b <;> cases b1 <;> cases b2 <;> cases b3 <;> simp only [optR, cond_true, cond_false, reduceCtorEq] at q1 q2 q3 <;> first
    | (simp [prTl, ← q1]; done)
    | (simp [prTl, ← q1, rdLf_one (bs := bs) (e := e) (k := k1) he, ← q2]; done)
    | (simp [prTl, ← q1, rdLf_one (bs := bs) (e := e) (k := k1) he, ← q2, ← q3]; done)
    | rfl

theorem toFin_no {α : Type} {len k : Nat} {b : Bool} {v : α} (h : ¬ (b = false ∧ k = len)) : toFin len (bif b then none else some (v, k)) = none := by
  cases b with
  | true => rfl
  | false =>
    have : ¬ k = len := fun hk => h ⟨rfl, hk⟩
    simp [toFin, this]
theorem toFin_yes {α : Type} {len k : Nat} {b : Bool} {v : α} (h : b = false ∧ k = len) : toFin len (bif b then none else some (v, k)) = some v := by
  obtain ⟨rfl, rfl⟩ := h
  simp [toFin]

theorem fin_yes {bs : List UInt8} {n k0 : Nat} {b0 : Bool} (q0 : optR (n, k0, b0) = rdC bs 256 0) {R : Option (List (List UInt8) × Nat)} (hR : (bif b0 then none else rdGs bs n k0) = R) {x : List (List UInt8) × Nat × Bool × Nat} (hI : RfI (rdGs bs) bs.length n R x)
    (hx : x.2.2.1 = false → n ≤ x.2.2.2) {E : Nat × Nat × Bool} {G1 G2 : List UInt8 × Nat × Bool} (hE : inCs bs 1 x.2.2.1 x.2.1 = E) (hG1 : inGs bs E.2.2 E.2.1 = G1) (hG2 : inGs bs G1.2.2 G1.2.1 = G2) (he : (E.1 : Int) = 1) :
    rdPrf bs = bif G2.2.2 then none else some (⟨x.1, (E.1 : Int), G1.1, G2.1⟩, G2.2.1) := by
  rw [prf_mid q0 hR hI hx]
  have q1 := inCs_opt bs 1 x.2.2.1 x.2.1
  have q2 := inGs_opt bs E.2.2 E.2.1
  have q3 := inGs_opt bs G1.2.2 G1.2.1
  rw [hE] at q1
  rw [hG1] at q2
  rw [hG2] at q3
  exact prfA_yes q1 he q2 q3

theorem fin_no {bs : List UInt8} {n k0 : Nat} {b0 : Bool} (q0 : optR (n, k0, b0) = rdC bs 256 0) {R : Option (List (List UInt8) × Nat)} (hR : (bif b0 then none else rdGs bs n k0) = R) {x : List (List UInt8) × Nat × Bool × Nat} (hI : RfI (rdGs bs) bs.length n R x)
    (hx : x.2.2.1 = false → n ≤ x.2.2.2) {E : Nat × Nat × Bool} (hE : inCs bs 1 x.2.2.1 x.2.1 = E) (he : ¬ (E.1 : Int) = 1) :
    rdPrf bs = bif E.2.2 then none else some (⟨x.1, (E.1 : Int), zero32, zero32⟩, E.2.1) := by
  rw [prf_mid q0 hR hI hx]
  have q1 := inCs_opt bs 1 x.2.2.1 x.2.1
  rw [hE] at q1
  exact prfA_no q1 he

theorem rPrf_res (B : List D) (bs : List UInt8) (hB : B = bs.map byteD) (hl : bs.length < 2 ^ 63) (O : Option Prf) (hO : toFin bs.length (rdPrf bs) = O) :
    LocalCall Try.prog 35 [.d (.sl B)] [] [] (one [.d (resP O), .d (.int .i64 (errI O))]) [] := by
  have hlen : B.length = bs.length := by rw [hB]; simp
  have c0 := inCnt_8 B bs hB 256 0 false (by omega) (Nat.zero_le _) hl
  have l0 := inCs_le bs 256 false 0 (Nat.zero_le _)
  have q0 : optR (inCs bs 256 false 0) = rdC bs 256 0 := inCs_opt bs 256 false 0
  have m0 : (inCs bs 256 false 0).1 ≤ 256 := inC_most bs 256 0
  generalize inCs bs 256 false 0 = r0 at c0 l0 q0 m0
  obtain ⟨n, k0, b0⟩ := r0
  dsimp only at c0 l0 m0
  generalize hR : (bif b0 then none else rdGs bs n k0) = R
  have hI0 : RfI (rdGs bs) bs.length n R ([], k0, b0, 0) := ⟨by rw [← hR]; simp, Nat.zero_le _, rfl, l0⟩
  cases O with
  | none =>
    refine vc_fn mixed Try.func35 rfl rfl [(500002, [1000000032000000007000003004])] (vc_chk rfl) ?_
    repeat' (first
        | ((with_reducible refine vc_chk ?_); first | decide +kernel | rfl)
        | (with_reducible refine vc_side0 ?_; rfl)
        | (with_reducible first
             | refine vc_true ?_ | refine vc_true2 ?_ | refine vc_side ?_ ?_ | refine vc_triv | refine vc_later ?_ | refine vc_caseT ?_ | refine vc_caseF ?_ | refine vc_cons ?_ | refine vc_nil ?_ ?_ | refine vc_seq ?_
                | refine vc_region ?_ | refine vc_cond ?_ | refine vc_block ?_ | refine vc_retc ?_ | refine vc_exit ?_ | refine vc_skip ?_ | refine vc_scope ?_ | refine vc_label ?_ | refine vc_goto ?_ | refine vc_wkSl0
                | refine vc_wkHp0 | refine vc_eqAVs0 | refine vc_preG0 | refine vc_wkSl ?_ ?_ | refine vc_wkHp ?_ ?_ | refine vc_eqAVs ?_ ?_ | refine vc_preG ?_ ?_ | refine vc_side0 ?_
                | refine vc_callAt [] 2008 (by with_unfolding_all rfl) (c0) ?_
                | refine vc_loopI 50 (fun (x : List (List UInt8) × Nat × Bool × Nat) => [(0, .d (.sl B)), (2, .ptr 1000 []), (4, .ptr 2008 []), (5, .ptr 3004 []), (6, .d (.int .i64 (n : Int))), (7, .d (.int .i64 (x.2.2.2 : Int)))]) (fun x => [(1000, .var (.d (.st [.nils, .int .i64 0, digD zero32, digD zero32]))), (2008, rIn B x.2.1 x.2.2.1), (3004, .var (.st [.sl 7 [] 32 0 (x.1.map digD).length, .d (.int .i64 0), .d (digD zero32), .d (digD zero32)])), (7, .row 32 (x.1.map digD))]) (fun x => n - x.2.2.2) (RfI (rdGs bs) bs.length n R) ([], k0, b0, 0) [] ?_ ?_ ?_ ?_ ?_ (fun x hI => ?_)
                | refine vc_callAt [] 2008 (by with_unfolding_all rfl) (inDig_8 B bs hB x.2.1 x.2.2.1 hI.hk hl) ?_ | refine vc_callAt [] 2008 (by with_unfolding_all rfl) (inCnt_8 B bs hB 1 x.2.1 x.2.2.1 (by omega) hI.hk hl) ?_
                | refine vc_callAt [] 2008 (by with_unfolding_all rfl) (inDig_8 B bs hB (inCs bs 1 x.2.2.1 x.2.1).2.1 (inCs bs 1 x.2.2.1 x.2.1).2.2 (inCs_le _ _ _ _ hI.hk) hl) ?_
                | refine vc_callAt [] 2008 (by with_unfolding_all rfl) (inDig_8 B bs hB (inGs bs (inCs bs 1 x.2.2.1 x.2.1).2.2 (inCs bs 1 x.2.2.1 x.2.1).2.1).2.1 (inGs bs (inCs bs 1 x.2.2.1 x.2.1).2.2 (inCs bs 1 x.2.2.1 x.2.1).2.1).2.2 (inGs_le _ _ _ (inCs_le _ _ _ _ hI.hk)) hl) ?_
                | refine vc_callAt [] 2008 (by with_unfolding_all rfl) (inDone_8 B (inCs bs 1 x.2.2.1 x.2.1).2.1 (inCs bs 1 x.2.2.1 x.2.1).2.2 _ rfl) ?_
                | refine vc_callAt [] 2008 (by with_unfolding_all rfl) (inDone_8 B (inGs bs (inGs bs (inCs bs 1 x.2.2.1 x.2.1).2.2 (inCs bs 1 x.2.2.1 x.2.1).2.1).2.2 (inGs bs (inCs bs 1 x.2.2.1 x.2.1).2.2 (inCs bs 1 x.2.2.1 x.2.1).2.1).2.1).2.1 (inGs bs (inGs bs (inCs bs 1 x.2.2.1 x.2.1).2.2 (inCs bs 1 x.2.2.1 x.2.1).2.1).2.2 (inGs bs (inCs bs 1 x.2.2.1 x.2.1).2.2 (inCs bs 1 x.2.2.1 x.2.1).2.1).2.1).2.2 _ rfl) ?_
                | refine vc_nextI (x.1 ++ [(inGs bs x.2.2.1 x.2.1).1], (inGs bs x.2.2.1 x.2.1).2.1, (inGs bs x.2.2.1 x.2.1).2.2, x.2.2.2 + 1) [(7, 8020)] ?_ ?_ ?_ ?_ ?_ ?_ | refine vc_ret [true] [] ?_ | refine vc_weakf [] ?_ ?_ ?_
                | refine vc_and ?_ ?_ | refine vc_ret [] [] ?_)
        | ((with_reducible first | refine vc_caseD (fun h => ?_) (fun h => ?_) | refine vc_caseN (fun h => ?_) (fun h => ?_)) <;> try (exfalso; omega))
        | ((with_reducible refine vc_case (fun h => ?_) (fun h => ?_)) <;> (try simp only [Bool.cond_true_left, Bool.cond_false_right, Bool.cond_true_right, Bool.cond_false_left, Bool.and_eq_true, Bool.or_eq_true, Bool.and_eq_false_iff, Bool.or_eq_false_iff, Bool.not_eq_true', Bool.not_eq_false', Bool.not_eq_true, Bool.not_eq_false, Bool.not_not, decide_eq_true_eq, decide_eq_false_iff_not, beq_iff_eq, beq_eq_false_iff_ne, bne_iff_ne, bne_eq_false_iff_eq, ne_eq, Classical.not_not, reduceCtorEq, false_or, or_false, true_and, and_true, Bool.false_eq_true, Bool.true_eq_false] at h) <;> try (exfalso; first | omega | (simp at h; done)))
        | (conv in Vc _ => arg 1; whnf
           first
            | (with_reducible refine vc_side0 ?_; rfl)
            | (with_reducible first
                | refine vc_true ?_ | refine vc_true2 ?_ | refine vc_side ?_ ?_ | refine vc_triv | refine vc_later ?_ | refine vc_caseT ?_ | refine vc_caseF ?_ | refine vc_cons ?_ | refine vc_nil ?_ ?_ | refine vc_seq ?_
                   | refine vc_region ?_ | refine vc_cond ?_ | refine vc_block ?_ | refine vc_retc ?_ | refine vc_exit ?_ | refine vc_skip ?_ | refine vc_scope ?_ | refine vc_label ?_ | refine vc_goto ?_ | refine vc_wkSl0
                   | refine vc_wkHp0 | refine vc_eqAVs0 | refine vc_preG0 | refine vc_wkSl ?_ ?_ | refine vc_wkHp ?_ ?_ | refine vc_eqAVs ?_ ?_ | refine vc_preG ?_ ?_ | refine vc_side0 ?_
                   | refine vc_callAt [] 2008 (by with_unfolding_all rfl) (c0) ?_
                   | refine vc_loopI 50 (fun (x : List (List UInt8) × Nat × Bool × Nat) => [(0, .d (.sl B)), (2, .ptr 1000 []), (4, .ptr 2008 []), (5, .ptr 3004 []), (6, .d (.int .i64 (n : Int))), (7, .d (.int .i64 (x.2.2.2 : Int)))]) (fun x => [(1000, .var (.d (.st [.nils, .int .i64 0, digD zero32, digD zero32]))), (2008, rIn B x.2.1 x.2.2.1), (3004, .var (.st [.sl 7 [] 32 0 (x.1.map digD).length, .d (.int .i64 0), .d (digD zero32), .d (digD zero32)])), (7, .row 32 (x.1.map digD))]) (fun x => n - x.2.2.2) (RfI (rdGs bs) bs.length n R) ([], k0, b0, 0) [] ?_ ?_ ?_ ?_ ?_ (fun x hI => ?_)
                   | refine vc_callAt [] 2008 (by with_unfolding_all rfl) (inDig_8 B bs hB x.2.1 x.2.2.1 hI.hk hl) ?_ | refine vc_callAt [] 2008 (by with_unfolding_all rfl) (inCnt_8 B bs hB 1 x.2.1 x.2.2.1 (by omega) hI.hk hl) ?_
                   | refine vc_callAt [] 2008 (by with_unfolding_all rfl) (inDig_8 B bs hB (inCs bs 1 x.2.2.1 x.2.1).2.1 (inCs bs 1 x.2.2.1 x.2.1).2.2 (inCs_le _ _ _ _ hI.hk) hl) ?_
                   | refine vc_callAt [] 2008 (by with_unfolding_all rfl) (inDig_8 B bs hB (inGs bs (inCs bs 1 x.2.2.1 x.2.1).2.2 (inCs bs 1 x.2.2.1 x.2.1).2.1).2.1 (inGs bs (inCs bs 1 x.2.2.1 x.2.1).2.2 (inCs bs 1 x.2.2.1 x.2.1).2.1).2.2 (inGs_le _ _ _ (inCs_le _ _ _ _ hI.hk)) hl) ?_
                   | refine vc_callAt [] 2008 (by with_unfolding_all rfl) (inDone_8 B (inCs bs 1 x.2.2.1 x.2.1).2.1 (inCs bs 1 x.2.2.1 x.2.1).2.2 _ rfl) ?_
                   | refine vc_callAt [] 2008 (by with_unfolding_all rfl) (inDone_8 B (inGs bs (inGs bs (inCs bs 1 x.2.2.1 x.2.1).2.2 (inCs bs 1 x.2.2.1 x.2.1).2.1).2.2 (inGs bs (inCs bs 1 x.2.2.1 x.2.1).2.2 (inCs bs 1 x.2.2.1 x.2.1).2.1).2.1).2.1 (inGs bs (inGs bs (inCs bs 1 x.2.2.1 x.2.1).2.2 (inCs bs 1 x.2.2.1 x.2.1).2.1).2.2 (inGs bs (inCs bs 1 x.2.2.1 x.2.1).2.2 (inCs bs 1 x.2.2.1 x.2.1).2.1).2.1).2.2 _ rfl) ?_
                   | refine vc_nextI (x.1 ++ [(inGs bs x.2.2.1 x.2.1).1], (inGs bs x.2.2.1 x.2.1).2.1, (inGs bs x.2.2.1 x.2.1).2.2, x.2.2.2 + 1) [(7, 8020)] ?_ ?_ ?_ ?_ ?_ ?_ | refine vc_ret [true] [] ?_
                   | refine vc_weakf [] ?_ ?_ ?_ | refine vc_and ?_ ?_ | refine vc_ret [] [] ?_)
            | ((with_reducible first | refine vc_caseD (fun h => ?_) (fun h => ?_) | refine vc_caseN (fun h => ?_) (fun h => ?_)) <;> try (exfalso; omega))
            | ((with_reducible refine vc_case (fun h => ?_) (fun h => ?_)) <;> (try simp only [Bool.cond_true_left, Bool.cond_false_right, Bool.cond_true_right, Bool.cond_false_left, Bool.and_eq_true, Bool.or_eq_true, Bool.and_eq_false_iff, Bool.or_eq_false_iff, Bool.not_eq_true', Bool.not_eq_false', Bool.not_eq_true, Bool.not_eq_false, Bool.not_not, decide_eq_true_eq, decide_eq_false_iff_not, beq_iff_eq, beq_eq_false_iff_ne, bne_iff_ne, bne_eq_false_iff_eq, ne_eq, Classical.not_not, reduceCtorEq, false_or, or_false, true_and, and_true, Bool.false_eq_true, Bool.true_eq_false] at h) <;> try (exfalso; first | omega | (simp at h; done)))))
    all_goals (try simp only [List.drop_zero, List.take_length])
    all_goals first
      | rfl
      | exact hI0
      | exact ⟨trivial, trivial, trivial⟩
      | exact ⟨⟨Nat.le_of_eq (Nat.zero_add _), trivial, trivial, trivial, trivial⟩, trivial⟩
      | ((try simp only); omega)
      | exact RfG.next rfl hI (by assumption) (by omega)
      | (show AV.st [AV.sl 8020 [] 32 0 (List.map digD x.1 ++ [digD (inGs bs x.2.2.1 x.2.1).1]).length, _, _, _] = _; rw [digD_app]; rfl)
      | (show List.map digD x.1 ++ [digD (inGs bs x.2.2.1 x.2.1).1] = _; rw [digD_app]; done)
      | (have hi := hI.hi; congr 1; rw [wrap64_id (by omega) (by omega)]; (try simp only); omega)
      | (have hll := hI.hl
         have hi := hI.hi
         refine ⟨⟨by simp, by first | trivial | rfl, room32 rfl ?_⟩, fun y hy => ?_⟩
         · rw [List.length_append, List.length_map, List.length_singleton]; omega
         · simp only [List.mem_singleton] at hy; subst hy; rfl)
      | (exfalso
         first
         | (rw [fin_yes q0 hR hI (fun hb => by first | omega | (exfalso; simp_all; done)) rfl rfl rfl (by assumption)] at hO
            first
            | (rw [toFin_yes ⟨h.1, h.2.trans hlen⟩] at hO; cases hO; done)
            | (rw [toFin_no (fun hq => h.elim (fun h1 => by rw [hq.1] at h1; cases h1) (fun h1 => h1 (hq.2.trans hlen.symm)))] at hO; cases hO; done))
         | (rw [fin_no q0 hR hI (fun hb => by first | omega | (exfalso; simp_all; done)) rfl (by assumption)] at hO
            first
            | (rw [toFin_yes ⟨h.1, h.2.trans hlen⟩] at hO; cases hO; done)
            | (rw [toFin_no (fun hq => h.elim (fun h1 => by rw [hq.1] at h1; cases h1) (fun h1 => h1 (hq.2.trans hlen.symm)))] at hO; cases hO; done)))
      | skip
  | some p =>
    refine vc_fn mixed Try.func35 rfl rfl [(500002, [1000000032000000007000003004])] (vc_chk rfl) ?_
    repeat' (first
        | ((with_reducible refine vc_chk ?_); first | decide +kernel | rfl)
        | (with_reducible refine vc_side0 ?_; rfl)
        | (with_reducible first
             | refine vc_true ?_ | refine vc_true2 ?_ | refine vc_side ?_ ?_ | refine vc_triv | refine vc_later ?_ | refine vc_caseT ?_ | refine vc_caseF ?_ | refine vc_cons ?_ | refine vc_nil ?_ ?_ | refine vc_seq ?_
                | refine vc_region ?_ | refine vc_cond ?_ | refine vc_block ?_ | refine vc_retc ?_ | refine vc_exit ?_ | refine vc_skip ?_ | refine vc_scope ?_ | refine vc_label ?_ | refine vc_goto ?_ | refine vc_wkSl0
                | refine vc_wkHp0 | refine vc_eqAVs0 | refine vc_preG0 | refine vc_wkSl ?_ ?_ | refine vc_wkHp ?_ ?_ | refine vc_eqAVs ?_ ?_ | refine vc_preG ?_ ?_ | refine vc_side0 ?_
                | refine vc_callAt [] 2008 (by with_unfolding_all rfl) (c0) ?_
                | refine vc_loopI 50 (fun (x : List (List UInt8) × Nat × Bool × Nat) => [(0, .d (.sl B)), (2, .ptr 1000 []), (4, .ptr 2008 []), (5, .ptr 3004 []), (6, .d (.int .i64 (n : Int))), (7, .d (.int .i64 (x.2.2.2 : Int)))]) (fun x => [(1000, .var (.d (.st [.nils, .int .i64 0, digD zero32, digD zero32]))), (2008, rIn B x.2.1 x.2.2.1), (3004, .var (.st [.sl 7 [] 32 0 (x.1.map digD).length, .d (.int .i64 0), .d (digD zero32), .d (digD zero32)])), (7, .row 32 (x.1.map digD))]) (fun x => n - x.2.2.2) (RfI (rdGs bs) bs.length n R) ([], k0, b0, 0) [] ?_ ?_ ?_ ?_ ?_ (fun x hI => ?_)
                | refine vc_callAt [] 2008 (by with_unfolding_all rfl) (inDig_8 B bs hB x.2.1 x.2.2.1 hI.hk hl) ?_ | refine vc_callAt [] 2008 (by with_unfolding_all rfl) (inCnt_8 B bs hB 1 x.2.1 x.2.2.1 (by omega) hI.hk hl) ?_
                | refine vc_callAt [] 2008 (by with_unfolding_all rfl) (inDig_8 B bs hB (inCs bs 1 x.2.2.1 x.2.1).2.1 (inCs bs 1 x.2.2.1 x.2.1).2.2 (inCs_le _ _ _ _ hI.hk) hl) ?_
                | refine vc_callAt [] 2008 (by with_unfolding_all rfl) (inDig_8 B bs hB (inGs bs (inCs bs 1 x.2.2.1 x.2.1).2.2 (inCs bs 1 x.2.2.1 x.2.1).2.1).2.1 (inGs bs (inCs bs 1 x.2.2.1 x.2.1).2.2 (inCs bs 1 x.2.2.1 x.2.1).2.1).2.2 (inGs_le _ _ _ (inCs_le _ _ _ _ hI.hk)) hl) ?_
                | refine vc_callAt [] 2008 (by with_unfolding_all rfl) (inDone_8 B (inCs bs 1 x.2.2.1 x.2.1).2.1 (inCs bs 1 x.2.2.1 x.2.1).2.2 _ rfl) ?_
                | refine vc_callAt [] 2008 (by with_unfolding_all rfl) (inDone_8 B (inGs bs (inGs bs (inCs bs 1 x.2.2.1 x.2.1).2.2 (inCs bs 1 x.2.2.1 x.2.1).2.1).2.2 (inGs bs (inCs bs 1 x.2.2.1 x.2.1).2.2 (inCs bs 1 x.2.2.1 x.2.1).2.1).2.1).2.1 (inGs bs (inGs bs (inCs bs 1 x.2.2.1 x.2.1).2.2 (inCs bs 1 x.2.2.1 x.2.1).2.1).2.2 (inGs bs (inCs bs 1 x.2.2.1 x.2.1).2.2 (inCs bs 1 x.2.2.1 x.2.1).2.1).2.1).2.2 _ rfl) ?_
                | refine vc_nextI (x.1 ++ [(inGs bs x.2.2.1 x.2.1).1], (inGs bs x.2.2.1 x.2.1).2.1, (inGs bs x.2.2.1 x.2.1).2.2, x.2.2.2 + 1) [(7, 8020)] ?_ ?_ ?_ ?_ ?_ ?_ | refine vc_ret [true] [] ?_ | refine vc_weakf [] ?_ ?_ ?_
                | refine vc_and ?_ ?_ | refine vc_ret [] [] ?_)
        | ((with_reducible first | refine vc_caseD (fun h => ?_) (fun h => ?_) | refine vc_caseN (fun h => ?_) (fun h => ?_)) <;> try (exfalso; omega))
        | ((with_reducible refine vc_case (fun h => ?_) (fun h => ?_)) <;> (try simp only [Bool.cond_true_left, Bool.cond_false_right, Bool.cond_true_right, Bool.cond_false_left, Bool.and_eq_true, Bool.or_eq_true, Bool.and_eq_false_iff, Bool.or_eq_false_iff, Bool.not_eq_true', Bool.not_eq_false', Bool.not_eq_true, Bool.not_eq_false, Bool.not_not, decide_eq_true_eq, decide_eq_false_iff_not, beq_iff_eq, beq_eq_false_iff_ne, bne_iff_ne, bne_eq_false_iff_eq, ne_eq, Classical.not_not, reduceCtorEq, false_or, or_false, true_and, and_true, Bool.false_eq_true, Bool.true_eq_false] at h) <;> try (exfalso; first | omega | (simp at h; done)))
        | (conv in Vc _ => arg 1; whnf
           first
            | (with_reducible refine vc_side0 ?_; rfl)
            | (with_reducible first
                | refine vc_true ?_ | refine vc_true2 ?_ | refine vc_side ?_ ?_ | refine vc_triv | refine vc_later ?_ | refine vc_caseT ?_ | refine vc_caseF ?_ | refine vc_cons ?_ | refine vc_nil ?_ ?_ | refine vc_seq ?_
                   | refine vc_region ?_ | refine vc_cond ?_ | refine vc_block ?_ | refine vc_retc ?_ | refine vc_exit ?_ | refine vc_skip ?_ | refine vc_scope ?_ | refine vc_label ?_ | refine vc_goto ?_ | refine vc_wkSl0
                   | refine vc_wkHp0 | refine vc_eqAVs0 | refine vc_preG0 | refine vc_wkSl ?_ ?_ | refine vc_wkHp ?_ ?_ | refine vc_eqAVs ?_ ?_ | refine vc_preG ?_ ?_ | refine vc_side0 ?_
                   | refine vc_callAt [] 2008 (by with_unfolding_all rfl) (c0) ?_
                   | refine vc_loopI 50 (fun (x : List (List UInt8) × Nat × Bool × Nat) => [(0, .d (.sl B)), (2, .ptr 1000 []), (4, .ptr 2008 []), (5, .ptr 3004 []), (6, .d (.int .i64 (n : Int))), (7, .d (.int .i64 (x.2.2.2 : Int)))]) (fun x => [(1000, .var (.d (.st [.nils, .int .i64 0, digD zero32, digD zero32]))), (2008, rIn B x.2.1 x.2.2.1), (3004, .var (.st [.sl 7 [] 32 0 (x.1.map digD).length, .d (.int .i64 0), .d (digD zero32), .d (digD zero32)])), (7, .row 32 (x.1.map digD))]) (fun x => n - x.2.2.2) (RfI (rdGs bs) bs.length n R) ([], k0, b0, 0) [] ?_ ?_ ?_ ?_ ?_ (fun x hI => ?_)
                   | refine vc_callAt [] 2008 (by with_unfolding_all rfl) (inDig_8 B bs hB x.2.1 x.2.2.1 hI.hk hl) ?_ | refine vc_callAt [] 2008 (by with_unfolding_all rfl) (inCnt_8 B bs hB 1 x.2.1 x.2.2.1 (by omega) hI.hk hl) ?_
                   | refine vc_callAt [] 2008 (by with_unfolding_all rfl) (inDig_8 B bs hB (inCs bs 1 x.2.2.1 x.2.1).2.1 (inCs bs 1 x.2.2.1 x.2.1).2.2 (inCs_le _ _ _ _ hI.hk) hl) ?_
                   | refine vc_callAt [] 2008 (by with_unfolding_all rfl) (inDig_8 B bs hB (inGs bs (inCs bs 1 x.2.2.1 x.2.1).2.2 (inCs bs 1 x.2.2.1 x.2.1).2.1).2.1 (inGs bs (inCs bs 1 x.2.2.1 x.2.1).2.2 (inCs bs 1 x.2.2.1 x.2.1).2.1).2.2 (inGs_le _ _ _ (inCs_le _ _ _ _ hI.hk)) hl) ?_
                   | refine vc_callAt [] 2008 (by with_unfolding_all rfl) (inDone_8 B (inCs bs 1 x.2.2.1 x.2.1).2.1 (inCs bs 1 x.2.2.1 x.2.1).2.2 _ rfl) ?_
                   | refine vc_callAt [] 2008 (by with_unfolding_all rfl) (inDone_8 B (inGs bs (inGs bs (inCs bs 1 x.2.2.1 x.2.1).2.2 (inCs bs 1 x.2.2.1 x.2.1).2.1).2.2 (inGs bs (inCs bs 1 x.2.2.1 x.2.1).2.2 (inCs bs 1 x.2.2.1 x.2.1).2.1).2.1).2.1 (inGs bs (inGs bs (inCs bs 1 x.2.2.1 x.2.1).2.2 (inCs bs 1 x.2.2.1 x.2.1).2.1).2.2 (inGs bs (inCs bs 1 x.2.2.1 x.2.1).2.2 (inCs bs 1 x.2.2.1 x.2.1).2.1).2.1).2.2 _ rfl) ?_
                   | refine vc_nextI (x.1 ++ [(inGs bs x.2.2.1 x.2.1).1], (inGs bs x.2.2.1 x.2.1).2.1, (inGs bs x.2.2.1 x.2.1).2.2, x.2.2.2 + 1) [(7, 8020)] ?_ ?_ ?_ ?_ ?_ ?_ | refine vc_ret [true] [] ?_
                   | refine vc_weakf [] ?_ ?_ ?_ | refine vc_and ?_ ?_ | refine vc_ret [] [] ?_)
            | ((with_reducible first | refine vc_caseD (fun h => ?_) (fun h => ?_) | refine vc_caseN (fun h => ?_) (fun h => ?_)) <;> try (exfalso; omega))
            | ((with_reducible refine vc_case (fun h => ?_) (fun h => ?_)) <;> (try simp only [Bool.cond_true_left, Bool.cond_false_right, Bool.cond_true_right, Bool.cond_false_left, Bool.and_eq_true, Bool.or_eq_true, Bool.and_eq_false_iff, Bool.or_eq_false_iff, Bool.not_eq_true', Bool.not_eq_false', Bool.not_eq_true, Bool.not_eq_false, Bool.not_not, decide_eq_true_eq, decide_eq_false_iff_not, beq_iff_eq, beq_eq_false_iff_ne, bne_iff_ne, bne_eq_false_iff_eq, ne_eq, Classical.not_not, reduceCtorEq, false_or, or_false, true_and, and_true, Bool.false_eq_true, Bool.true_eq_false] at h) <;> try (exfalso; first | omega | (simp at h; done)))))
    all_goals (try simp only [List.drop_zero, List.take_length])
    all_goals first
      | rfl
      | exact hI0
      | exact ⟨trivial, trivial, trivial⟩
      | exact ⟨⟨Nat.le_of_eq (Nat.zero_add _), trivial, trivial, trivial, trivial⟩, trivial⟩
      | ((try simp only); omega)
      | exact RfG.next rfl hI (by assumption) (by omega)
      | (show AV.st [AV.sl 8020 [] 32 0 (List.map digD x.1 ++ [digD (inGs bs x.2.2.1 x.2.1).1]).length, _, _, _] = _; rw [digD_app]; rfl)
      | (show List.map digD x.1 ++ [digD (inGs bs x.2.2.1 x.2.1).1] = _; rw [digD_app]; done)
      | (have hi := hI.hi; congr 1; rw [wrap64_id (by omega) (by omega)]; (try simp only); omega)
      | (have hll := hI.hl
         have hi := hI.hi
         refine ⟨⟨by simp, by first | trivial | rfl, room32 rfl ?_⟩, fun y hy => ?_⟩
         · rw [List.length_append, List.length_map, List.length_singleton]; omega
         · simp only [List.mem_singleton] at hy; subst hy; rfl)
      | (rw [fin_yes q0 hR hI (fun hb => by first | omega | (exfalso; simp_all; done)) rfl rfl rfl (by assumption), toFin_yes ⟨h.1, h.2.trans hlen⟩] at hO; cases hO; rfl)
      | (rw [fin_no q0 hR hI (fun hb => by first | omega | (exfalso; simp_all; done)) rfl (by assumption), toFin_yes ⟨h.1, h.2.trans hlen⟩] at hO; cases hO; rfl)
      | (exfalso
         first
         | (rw [fin_yes q0 hR hI (fun hb => by first | omega | (exfalso; simp_all; done)) rfl rfl rfl (by assumption)] at hO
            first
            | (rw [toFin_yes ⟨h.1, h.2.trans hlen⟩] at hO; cases hO; done)
            | (rw [toFin_no (fun hq => h.elim (fun h1 => by rw [hq.1] at h1; cases h1) (fun h1 => h1 (hq.2.trans hlen.symm)))] at hO; cases hO; done))
         | (rw [fin_no q0 hR hI (fun hb => by first | omega | (exfalso; simp_all; done)) rfl (by assumption)] at hO
            first
            | (rw [toFin_yes ⟨h.1, h.2.trans hlen⟩] at hO; cases hO; done)
            | (rw [toFin_no (fun hq => h.elim (fun h1 => by rw [hq.1] at h1; cases h1) (fun h1 => h1 (hq.2.trans hlen.symm)))] at hO; cases hO; done)))
      | skip

theorem rPrf_ok (B : List D) (bs : List UInt8) (hB : B = bs.map byteD) (hl : bs.length < 2 ^ 63) (O : Option Prf) (hO : toFin bs.length (rdPrf bs) = O) :
    LocalCall Try.prog 35 [.d (.sl B)] [] [] (one [.d (pD (O.getD p0)), .d (.int .i64 (errI O))]) [] := by
  have key := rPrf_res B bs hB hl O hO
  cases O with
  | none => exact local_dn key
  | some p => exact key

end Go.Proofs.Ytogncghpngmjpaa
