import Derived.Test.YtcdjheiccefcdaaJ13
set_option linter.unusedSimpArgs false
set_option linter.unusedVariables false
/-
Evidence found, by the program and by the document; bytes taken.
-/
set_option linter.unusedSimpArgs false
set_option linter.unusedVariables false
namespace Go.Proofs.Ytcdjheiccefcdaa
open Go.Sym
set_option maxRecDepth 10000
set_option maxHeartbeats 4000000

def accV (pin bs : List UInt8) : Int := match rdE bs with | some e => chkE pin e | none => 3
theorem fit_of {e : Evd} (hw : wfE e) (h : ∀ s, s ∈ evL e → s.sig.length ≤ 1048576) : fitL (evL e) := fun s hs => ⟨evL_wf hw s hs, Nat.le_trans (h s hs) (by decide)⟩

theorem eaccept_ok (pin : List UInt8) (hp : pin.length = 32) (bs : List UInt8) (hl : bs.length < 2 ^ 63) : LocalCall Try.prog 23 [.d (digD pin), .d (.sl (bs.map byteD))] [] [] (one [.d (.int .i64 (accV pin bs))]) [] := by
  unfold accV
  cases h : rdE bs with
  | none =>
    have c1 := eread_out bs hl h
    refine vc_fn mixed Try.func23 rfl rfl [] (vc_chk rfl) ?_
    repeat' (first
        | ((with_reducible refine vc_chk ?_); first | decide +kernel | rfl)
        | (with_reducible refine vc_side0 ?_; rfl)
        | (with_reducible first
             | refine vc_true ?_ | refine vc_true2 ?_ | refine vc_side ?_ ?_ | refine vc_triv | refine vc_later ?_ | refine vc_caseT ?_ | refine vc_caseF ?_ | refine vc_cons ?_ | refine vc_nil ?_ ?_ | refine vc_seq ?_
                | refine vc_region ?_ | refine vc_cond ?_ | refine vc_block ?_ | refine vc_retc ?_ | refine vc_exit ?_ | refine vc_skip ?_ | refine vc_scope ?_ | refine vc_label ?_ | refine vc_goto ?_ | refine vc_wkSl0
                | refine vc_wkHp0 | refine vc_eqAVs0 | refine vc_preG0 | refine vc_wkSl ?_ ?_ | refine vc_wkHp ?_ ?_ | refine vc_eqAVs ?_ ?_ | refine vc_preG ?_ ?_ | refine vc_side0 ?_ | refine vc_pure c1 ?_ ?_ ?_
                | refine vc_weakf [] ?_ ?_ ?_ | refine vc_and ?_ ?_ | refine vc_ret [] [] ?_)
        | ((with_reducible first | refine vc_caseD (fun h => ?_) (fun h => ?_) | refine vc_caseN (fun h => ?_) (fun h => ?_)) <;> try (exfalso; omega))
        | ((with_reducible refine vc_case (fun h => ?_) (fun h => ?_)) <;> (try simp only [Go.Sym.vs1, reduceCtorEq] at h) <;> try (exfalso; first | omega | (simp at h; done)))
        | (conv in Vc _ => arg 1; whnf
           first
            | (with_reducible refine vc_side0 ?_; rfl)
            | (with_reducible first
                | refine vc_true ?_ | refine vc_true2 ?_ | refine vc_side ?_ ?_ | refine vc_triv | refine vc_later ?_ | refine vc_caseT ?_ | refine vc_caseF ?_ | refine vc_cons ?_ | refine vc_nil ?_ ?_ | refine vc_seq ?_
                   | refine vc_region ?_ | refine vc_cond ?_ | refine vc_block ?_ | refine vc_retc ?_ | refine vc_exit ?_ | refine vc_skip ?_ | refine vc_scope ?_ | refine vc_label ?_ | refine vc_goto ?_ | refine vc_wkSl0
                   | refine vc_wkHp0 | refine vc_eqAVs0 | refine vc_preG0 | refine vc_wkSl ?_ ?_ | refine vc_wkHp ?_ ?_ | refine vc_eqAVs ?_ ?_ | refine vc_preG ?_ ?_ | refine vc_side0 ?_ | refine vc_pure c1 ?_ ?_ ?_
                   | refine vc_weakf [] ?_ ?_ ?_ | refine vc_and ?_ ?_ | refine vc_ret [] [] ?_)
            | ((with_reducible first | refine vc_caseD (fun h => ?_) (fun h => ?_) | refine vc_caseN (fun h => ?_) (fun h => ?_)) <;> try (exfalso; omega))
            | ((with_reducible refine vc_case (fun h => ?_) (fun h => ?_)) <;> (try simp only [Go.Sym.vs1, reduceCtorEq] at h) <;> try (exfalso; first | omega | (simp at h; done)))))
    all_goals first
      | with_reducible rfl
      | omega
      | exact ⟨trivial, trivial⟩
      | exact ⟨trivial, trivial, trivial⟩
      | exact ⟨trivial, trivial, trivial, trivial⟩
      | exact ⟨⟨by decide, by decide, by decide⟩, trivial⟩
      | exact ⟨Nat.le_of_eq (Nat.zero_add _), trivial⟩
      | exact ⟨Nat.le_refl _, trivial, trivial⟩
      | (rw [wrap64_id (by omega) (by omega)]; rfl)
      | rfl
      | (exfalso; simp at h; done)
      | skip
  | some e =>
    have c1 := eread_some bs hl e h
    obtain ⟨_, hw, h63, _⟩ := rdE_some h
    have c2 := echeck_ok pin hp e hw (by omega)
    refine vc_fn mixed Try.func23 rfl rfl [] (vc_chk rfl) ?_
    repeat' (first
        | ((with_reducible refine vc_chk ?_); first | decide +kernel | rfl)
        | (with_reducible refine vc_side0 ?_; rfl)
        | (with_reducible first
             | refine vc_true ?_ | refine vc_true2 ?_ | refine vc_side ?_ ?_ | refine vc_triv | refine vc_later ?_ | refine vc_caseT ?_ | refine vc_caseF ?_ | refine vc_cons ?_ | refine vc_nil ?_ ?_ | refine vc_seq ?_
                | refine vc_region ?_ | refine vc_cond ?_ | refine vc_block ?_ | refine vc_retc ?_ | refine vc_exit ?_ | refine vc_skip ?_ | refine vc_scope ?_ | refine vc_label ?_ | refine vc_goto ?_ | refine vc_wkSl0
                | refine vc_wkHp0 | refine vc_eqAVs0 | refine vc_preG0 | refine vc_wkSl ?_ ?_ | refine vc_wkHp ?_ ?_ | refine vc_eqAVs ?_ ?_ | refine vc_preG ?_ ?_ | refine vc_side0 ?_ | refine vc_pure c1 ?_ ?_ ?_
                | refine vc_pure c2 ?_ ?_ ?_ | refine vc_weakf [] ?_ ?_ ?_ | refine vc_and ?_ ?_ | refine vc_ret [] [] ?_)
        | ((with_reducible first | refine vc_caseD (fun h => ?_) (fun h => ?_) | refine vc_caseN (fun h => ?_) (fun h => ?_)) <;> try (exfalso; omega))
        | ((with_reducible refine vc_case (fun h => ?_) (fun h => ?_)) <;> (try simp only [Go.Sym.vs1, reduceCtorEq] at h) <;> try (exfalso; first | omega | (simp at h; done)))
        | (conv in Vc _ => arg 1; whnf
           first
            | (with_reducible refine vc_side0 ?_; rfl)
            | (with_reducible first
                | refine vc_true ?_ | refine vc_true2 ?_ | refine vc_side ?_ ?_ | refine vc_triv | refine vc_later ?_ | refine vc_caseT ?_ | refine vc_caseF ?_ | refine vc_cons ?_ | refine vc_nil ?_ ?_ | refine vc_seq ?_
                   | refine vc_region ?_ | refine vc_cond ?_ | refine vc_block ?_ | refine vc_retc ?_ | refine vc_exit ?_ | refine vc_skip ?_ | refine vc_scope ?_ | refine vc_label ?_ | refine vc_goto ?_ | refine vc_wkSl0
                   | refine vc_wkHp0 | refine vc_eqAVs0 | refine vc_preG0 | refine vc_wkSl ?_ ?_ | refine vc_wkHp ?_ ?_ | refine vc_eqAVs ?_ ?_ | refine vc_preG ?_ ?_ | refine vc_side0 ?_ | refine vc_pure c1 ?_ ?_ ?_
                   | refine vc_pure c2 ?_ ?_ ?_ | refine vc_weakf [] ?_ ?_ ?_ | refine vc_and ?_ ?_ | refine vc_ret [] [] ?_)
            | ((with_reducible first | refine vc_caseD (fun h => ?_) (fun h => ?_) | refine vc_caseN (fun h => ?_) (fun h => ?_)) <;> try (exfalso; omega))
            | ((with_reducible refine vc_case (fun h => ?_) (fun h => ?_)) <;> (try simp only [Go.Sym.vs1, reduceCtorEq] at h) <;> try (exfalso; first | omega | (simp at h; done)))))
    all_goals first
      | with_reducible rfl
      | omega
      | exact ⟨trivial, trivial⟩
      | exact ⟨trivial, trivial, trivial⟩
      | exact ⟨trivial, trivial, trivial, trivial⟩
      | exact ⟨⟨by decide, by decide, by decide⟩, trivial⟩
      | exact ⟨Nat.le_of_eq (Nat.zero_add _), trivial⟩
      | exact ⟨Nat.le_refl _, trivial, trivial⟩
      | (rw [wrap64_id (by omega) (by omega)]; rfl)
      | rfl
      | (exfalso; simp at h; done)
      | skip

def findE (pin : List UInt8) (l m : List Sgn) : Evd := match findF pin l m with | some i => evAt l m i | none => e0
def findI (pin : List UInt8) (l m : List Sgn) : Int := match findF pin l m with | some i => (i : Int) | none => -1
theorem same_more {l m : List Sgn} {i : Nat} (h : ∀ j, j < i → (l.getD j s0).root = (m.getD j s0).root) (hp : (l.getD i s0).root = (m.getD i s0).root) : ∀ j, j < i + 1 → (l.getD j s0).root = (m.getD j s0).root := fun j hj => by
  by_cases e : j = i
  · subst e; exact hp
  · exact h j (by omega)

theorem none_some {o : Option Nat} {i : Nat} (h1 : o = none) (h2 : o = some i) : False := by rw [h1] at h2; cases h2
theorem lt_k {l m : List Sgn} {i k : Nat} (h : i ≤ k) (hk : ¬ (l.getD k s0).root = (m.getD k s0).root) (he : (l.getD i s0).root = (m.getD i s0).root) : i + 1 ≤ k := by
  by_cases e : i = k
  · subst e; exact absurd he hk
  · omega
theorem at_k {l m : List Sgn} {i k : Nat} (h : i ≤ k) (hk : ∀ j, j < k → (l.getD j s0).root = (m.getD j s0).root) (he : ¬ (l.getD i s0).root = (m.getD i s0).root) : i = k := by
  by_cases e : i = k
  · exact e
  · exact absurd (hk i (by omega)) he
theorem chk_not {pin : List UInt8} {e : Evd} (h : ¬ chkE pin e = 0) : ¬ okE pin e = true := fun k => h (chkE_yes k)

section
variable (pin : List UInt8) (hp : pin.length = 32) (l m : List Sgn) (hl : ∀ s, s ∈ l → wfS s) (hm : ∀ s, s ∈ m → wfS s) (la : l.length < 2 ^ 62)
include hp hl hm la
theorem efind_ok : LocalCall Try.prog 25 [.d (digD pin), .d (.sl (l.map sD)), .d (.sl (m.map sD))] [] [] (one [.d (eD (findE pin l m)), .d (.bool (findF pin l m).isSome)]) [] := by
  have xa : (l.map sD).length = l.length := List.length_map _
  have xb : (m.map sD).length = m.length := List.length_map _
  have c1 : ∀ i, i < l.length → _ := fun i hi => echeck_ok pin hp (evAt l m i) (evAt_wf hl hm i) (by show (l.take i).length < _; rw [List.length_take]; omega)
  cases hf : findF pin l m with
  | none =>
    have e1 : findE pin l m = e0 := by unfold findE; rw [hf]
    rw [e1]
    have key : LocalCall Try.prog 25 [.d (digD pin), .d (.sl (l.map sD)), .d (.sl (m.map sD))] [] [] (one [.d evZ, .d (.bool false)]) [] := by
      refine vc_fn mixed Try.func25 rfl rfl [] (vc_chk rfl) ?_
      repeat' (first
          | ((with_reducible refine vc_chk ?_); first | decide +kernel | rfl)
          | (with_reducible refine vc_side0 ?_; rfl)
          | (with_reducible first
               | refine vc_true ?_ | refine vc_true2 ?_ | refine vc_side ?_ ?_ | refine vc_triv | refine vc_later ?_ | refine vc_caseT ?_ | refine vc_caseF ?_ | refine vc_cons ?_ | refine vc_nil ?_ ?_ | refine vc_seq ?_
                  | refine vc_region ?_ | refine vc_cond ?_ | refine vc_block ?_ | refine vc_retc ?_ | refine vc_exit ?_ | refine vc_skip ?_ | refine vc_scope ?_ | refine vc_label ?_ | refine vc_goto ?_ | refine vc_wkSl0
                  | refine vc_wkHp0 | refine vc_eqAVs0 | refine vc_preG0 | refine vc_wkSl ?_ ?_ | refine vc_wkHp ?_ ?_ | refine vc_eqAVs ?_ ?_ | refine vc_preG ?_ ?_ | refine vc_side0 ?_ | refine vc_call [] (c1 i (by omega)) ?_
                  | refine vc_loopI 58 (fun (i : Nat) => [(1, .d (.sl (l.map sD))), (2, .d (.sl (m.map sD))), (3, .ptr 1000 []), (6, .ptr 1004 []), (16, .d (.int .i64 (min ((l.map sD).length : Int) ((m.map sD).length : Int)))), (17, .d (.int .i64 (i : Int)))]) (fun _ => [(1000, .var (.d (digD pin))), (1004, .var (.d evZ))]) (fun i => l.length - i) (fun i => i ≤ l.length ∧ i ≤ m.length ∧ ∀ j, j < i → (l.getD j s0).root = (m.getD j s0).root) 0 [] ?_ ?_ ?_ ?_ ?_ (fun i hI => ?_)
                  | refine vc_nextI (i + 1) [] ?_ ?_ ?_ ?_ ?_ ?_ | refine vc_weakf [] ?_ ?_ ?_ | refine vc_and ?_ ?_ | refine vc_ret [] [] ?_)
          | ((with_reducible first | refine vc_caseD (fun h => ?_) (fun h => ?_) | refine vc_caseN (fun h => ?_) (fun h => ?_)) <;> try (exfalso; omega))
          | ((with_reducible refine vc_case (fun h => ?_) (fun h => ?_)) <;> (try simp only [Go.Sym.vs1, reduceCtorEq] at h) <;> try (exfalso; first | omega | (simp at h; done)))
          | (conv in Vc _ => arg 1; whnf
             first
              | (with_reducible refine vc_side0 ?_; rfl)
              | (with_reducible first
                  | refine vc_true ?_ | refine vc_true2 ?_ | refine vc_side ?_ ?_ | refine vc_triv | refine vc_later ?_ | refine vc_caseT ?_ | refine vc_caseF ?_ | refine vc_cons ?_ | refine vc_nil ?_ ?_ | refine vc_seq ?_
                     | refine vc_region ?_ | refine vc_cond ?_ | refine vc_block ?_ | refine vc_retc ?_ | refine vc_exit ?_ | refine vc_skip ?_ | refine vc_scope ?_ | refine vc_label ?_ | refine vc_goto ?_ | refine vc_wkSl0
                     | refine vc_wkHp0 | refine vc_eqAVs0 | refine vc_preG0 | refine vc_wkSl ?_ ?_ | refine vc_wkHp ?_ ?_ | refine vc_eqAVs ?_ ?_ | refine vc_preG ?_ ?_ | refine vc_side0 ?_ | refine vc_call [] (c1 i (by omega)) ?_
                     | refine vc_loopI 58 (fun (i : Nat) => [(1, .d (.sl (l.map sD))), (2, .d (.sl (m.map sD))), (3, .ptr 1000 []), (6, .ptr 1004 []), (16, .d (.int .i64 (min ((l.map sD).length : Int) ((m.map sD).length : Int)))), (17, .d (.int .i64 (i : Int)))]) (fun _ => [(1000, .var (.d (digD pin))), (1004, .var (.d evZ))]) (fun i => l.length - i) (fun i => i ≤ l.length ∧ i ≤ m.length ∧ ∀ j, j < i → (l.getD j s0).root = (m.getD j s0).root) 0 [] ?_ ?_ ?_ ?_ ?_ (fun i hI => ?_)
                     | refine vc_nextI (i + 1) [] ?_ ?_ ?_ ?_ ?_ ?_ | refine vc_weakf [] ?_ ?_ ?_ | refine vc_and ?_ ?_ | refine vc_ret [] [] ?_)
              | ((with_reducible first | refine vc_caseD (fun h => ?_) (fun h => ?_) | refine vc_caseN (fun h => ?_) (fun h => ?_)) <;> try (exfalso; omega))
              | ((with_reducible refine vc_case (fun h => ?_) (fun h => ?_)) <;> (try simp only [Go.Sym.vs1, reduceCtorEq] at h) <;> try (exfalso; first | omega | (simp at h; done)))))
      all_goals (try have hi : i < l.length := (by omega))
      all_goals (try have hj : i < m.length := (by omega))
      all_goals (try simp only [Int.toNat_natCast, sgn_at hi, sgn_at hj] at *)
      all_goals (try (exfalso; exact none_some hf (findF_yes (partF_some hi hj hI.2.2 (rtOff (by assumption))) (chkE_ok (by assumption)))))
      all_goals first
        | with_reducible rfl
        | omega
        | exact ⟨trivial, trivial, trivial⟩
        | exact ⟨trivial, trivial, trivial, trivial⟩
        | exact ⟨Nat.zero_le _, Nat.zero_le _, fun j hj => absurd hj (Nat.not_lt_zero j)⟩
        | exact ⟨⟨by omega, by omega⟩, rfl⟩
        | exact ⟨⟨by omega, by omega, by omega⟩, sgn_size l⟩
        | exact ⟨by decide +kernel, fits_root 5 _, fits_root 5 _⟩
        | exact ⟨by omega, by omega, same_more hI.2.2 (rtNo (by assumption))⟩
        | (rw [wrap64_id (by omega) (by omega)]; rfl)
        | (rw [cutS]; rfl)
        | rfl
        | trace_state
    exact local_dn key
  | some k =>
    have e1 : findE pin l m = evAt l m k := by unfold findE; rw [hf]
    rw [e1]
    obtain ⟨k1, k2⟩ := findF_at hf
    obtain ⟨k3, k4, k5, k6⟩ := partF_at k1
    obtain ⟨s1, s2⟩ := okE_small k2
    have wk := evAt_wf hl hm k
    have fk := fit_of wk (fun s hs => Nat.le_trans (s2 s hs) (by decide))
    have c2 := ebytes_ok (evAt l m k) fk (by omega)
    have c3 := eread_some (evB (evAt l m k)) (evB_len fk (by omega)) (evAt l m k) (rdE_back wk s1 s2)
    have ck := c1 k k3
    rw [chkE_yes k2] at ck
    refine vc_fn mixed Try.func25 rfl rfl [] (vc_chk rfl) ?_
    repeat' (first
        | ((with_reducible refine vc_chk ?_); first | decide +kernel | rfl)
        | (with_reducible refine vc_side0 ?_; rfl)
        | (with_reducible first
             | refine vc_true ?_ | refine vc_true2 ?_ | refine vc_side ?_ ?_ | refine vc_triv | refine vc_later ?_ | refine vc_caseT ?_ | refine vc_caseF ?_ | refine vc_cons ?_ | refine vc_nil ?_ ?_ | refine vc_seq ?_
                | refine vc_region ?_ | refine vc_cond ?_ | refine vc_block ?_ | refine vc_retc ?_ | refine vc_exit ?_ | refine vc_skip ?_ | refine vc_scope ?_ | refine vc_label ?_ | refine vc_goto ?_ | refine vc_wkSl0
                | refine vc_wkHp0 | refine vc_eqAVs0 | refine vc_preG0 | refine vc_wkSl ?_ ?_ | refine vc_wkHp ?_ ?_ | refine vc_eqAVs ?_ ?_ | refine vc_preG ?_ ?_ | refine vc_side0 ?_ | refine vc_call [] ck ?_
                | refine vc_call [] c2 ?_ | refine vc_call [] c3 ?_
                | refine vc_loopI 58 (fun (i : Nat) => [(1, .d (.sl (l.map sD))), (2, .d (.sl (m.map sD))), (3, .ptr 1000 []), (6, .ptr 1004 []), (16, .d (.int .i64 (min ((l.map sD).length : Int) ((m.map sD).length : Int)))), (17, .d (.int .i64 (i : Int)))]) (fun _ => [(1000, .var (.d (digD pin))), (1004, .var (.d evZ))]) (fun i => l.length - i) (fun i => i ≤ k) 0 [] ?_ ?_ ?_ ?_ ?_ (fun i hI => ?_)
                | refine vc_nextI (i + 1) [] ?_ ?_ ?_ ?_ ?_ ?_ | refine vc_weakf [] ?_ ?_ ?_ | refine vc_and ?_ ?_ | refine vc_ret [] [] ?_)
        | ((with_reducible first | refine vc_caseD (fun h => ?_) (fun h => ?_) | refine vc_caseN (fun h => ?_) (fun h => ?_)) <;> try (exfalso; omega))
        | ((with_reducible refine vc_case (fun h => ?_) (fun h => ?_)) <;> (try simp only [Go.Sym.vs1, reduceCtorEq] at h) <;> try (exfalso; first | omega | (simp at h; done)))
        | (conv in Vc _ => arg 1; whnf
           first
            | (with_reducible refine vc_side0 ?_; rfl)
            | (with_reducible first
                | refine vc_true ?_ | refine vc_true2 ?_ | refine vc_side ?_ ?_ | refine vc_triv | refine vc_later ?_ | refine vc_caseT ?_ | refine vc_caseF ?_ | refine vc_cons ?_ | refine vc_nil ?_ ?_ | refine vc_seq ?_
                   | refine vc_region ?_ | refine vc_cond ?_ | refine vc_block ?_ | refine vc_retc ?_ | refine vc_exit ?_ | refine vc_skip ?_ | refine vc_scope ?_ | refine vc_label ?_ | refine vc_goto ?_ | refine vc_wkSl0
                   | refine vc_wkHp0 | refine vc_eqAVs0 | refine vc_preG0 | refine vc_wkSl ?_ ?_ | refine vc_wkHp ?_ ?_ | refine vc_eqAVs ?_ ?_ | refine vc_preG ?_ ?_ | refine vc_side0 ?_ | refine vc_call [] ck ?_
                   | refine vc_call [] c2 ?_ | refine vc_call [] c3 ?_
                   | refine vc_loopI 58 (fun (i : Nat) => [(1, .d (.sl (l.map sD))), (2, .d (.sl (m.map sD))), (3, .ptr 1000 []), (6, .ptr 1004 []), (16, .d (.int .i64 (min ((l.map sD).length : Int) ((m.map sD).length : Int)))), (17, .d (.int .i64 (i : Int)))]) (fun _ => [(1000, .var (.d (digD pin))), (1004, .var (.d evZ))]) (fun i => l.length - i) (fun i => i ≤ k) 0 [] ?_ ?_ ?_ ?_ ?_ (fun i hI => ?_)
                   | refine vc_nextI (i + 1) [] ?_ ?_ ?_ ?_ ?_ ?_ | refine vc_weakf [] ?_ ?_ ?_ | refine vc_and ?_ ?_ | refine vc_ret [] [] ?_)
            | ((with_reducible first | refine vc_caseD (fun h => ?_) (fun h => ?_) | refine vc_caseN (fun h => ?_) (fun h => ?_)) <;> try (exfalso; omega))
            | ((with_reducible refine vc_case (fun h => ?_) (fun h => ?_)) <;> (try simp only [Go.Sym.vs1, reduceCtorEq] at h) <;> try (exfalso; first | omega | (simp at h; done)))))
    all_goals (try have hi : i < l.length := (by omega))
    all_goals (try have hj : i < m.length := (by omega))
    all_goals (try simp only [Int.toNat_natCast, sgn_at hi, sgn_at hj] at *)
    all_goals first
      | with_reducible rfl
      | omega
      | exact ⟨trivial, trivial, trivial⟩
      | exact ⟨trivial, trivial, trivial, trivial⟩
      | exact ⟨⟨by omega, by omega⟩, rfl⟩
      | exact ⟨⟨by omega, by omega, by omega⟩, sgn_size l⟩
      | exact ⟨by decide +kernel, fits_root 5 _, fits_root 5 _⟩
      | exact lt_k hI k5 (rtNo (by assumption))
      | (rw [wrap64_id (by omega) (by omega)]; rfl)
      | (have e := at_k hI k6 (rtOff (by assumption)); subst e; rw [cutS]; rfl)
      | rfl
      | trace_state

theorem rEfind_ok : LocalCall Try.prog 26 [.d (digD pin), .d (.sl (l.map sD)), .d (.sl (m.map sD))] [] [] (one [.d (.int .i64 (findI pin l m))]) [] := by
  have xa : (l.map sD).length = l.length := List.length_map _
  have xb : (m.map sD).length = m.length := List.length_map _
  have c1 : ∀ i, i < l.length → _ := fun i hi => rEcheck_ok pin hp (evAt l m i) (evAt_wf hl hm i) (by show (l.take i).length < _; rw [List.length_take]; omega)
  refine vc_fn mixed Try.func26 rfl rfl [] (vc_chk rfl) ?_
  repeat' (first
      | ((with_reducible refine vc_chk ?_); first | decide +kernel | rfl)
      | (with_reducible refine vc_side0 ?_; rfl)
      | (with_reducible first
           | refine vc_true ?_ | refine vc_true2 ?_ | refine vc_side ?_ ?_ | refine vc_triv | refine vc_later ?_ | refine vc_caseT ?_ | refine vc_caseF ?_ | refine vc_cons ?_ | refine vc_nil ?_ ?_ | refine vc_seq ?_
              | refine vc_region ?_ | refine vc_cond ?_ | refine vc_block ?_ | refine vc_retc ?_ | refine vc_exit ?_ | refine vc_skip ?_ | refine vc_scope ?_ | refine vc_label ?_ | refine vc_goto ?_ | refine vc_wkSl0
              | refine vc_wkHp0 | refine vc_eqAVs0 | refine vc_preG0 | refine vc_wkSl ?_ ?_ | refine vc_wkHp ?_ ?_ | refine vc_eqAVs ?_ ?_ | refine vc_preG ?_ ?_ | refine vc_side0 ?_ | refine vc_call [] (c1 i (by omega)) ?_
              | refine vc_loopI 47 (fun (i : Nat) => [(1, .d (.sl (l.map sD))), (2, .d (.sl (m.map sD))), (3, .ptr 1000 []), (7, .d (.int .i64 (i : Int)))]) (fun _ => [(1000, .var (.d (digD pin)))]) (fun i => l.length - i) (fun i => i ≤ l.length ∧ i ≤ m.length ∧ ∀ j, j < i → (l.getD j s0).root = (m.getD j s0).root) 0 [] ?_ ?_ ?_ ?_ ?_ (fun i hI => ?_)
              | refine vc_nextI (i + 1) [] ?_ ?_ ?_ ?_ ?_ ?_ | refine vc_weakf [] ?_ ?_ ?_ | refine vc_and ?_ ?_ | refine vc_ret [] [] ?_)
      | ((with_reducible first | refine vc_caseD (fun h => ?_) (fun h => ?_) | refine vc_caseN (fun h => ?_) (fun h => ?_)) <;> try (exfalso; omega))
      | ((with_reducible refine vc_case (fun h => ?_) (fun h => ?_)) <;> (try simp only [Go.Sym.vs1, reduceCtorEq] at h) <;> try (exfalso; first | omega | (simp at h; done)))
      | (conv in Vc _ => arg 1; whnf
         first
          | (with_reducible refine vc_side0 ?_; rfl)
          | (with_reducible first
              | refine vc_true ?_ | refine vc_true2 ?_ | refine vc_side ?_ ?_ | refine vc_triv | refine vc_later ?_ | refine vc_caseT ?_ | refine vc_caseF ?_ | refine vc_cons ?_ | refine vc_nil ?_ ?_ | refine vc_seq ?_
                 | refine vc_region ?_ | refine vc_cond ?_ | refine vc_block ?_ | refine vc_retc ?_ | refine vc_exit ?_ | refine vc_skip ?_ | refine vc_scope ?_ | refine vc_label ?_ | refine vc_goto ?_ | refine vc_wkSl0
                 | refine vc_wkHp0 | refine vc_eqAVs0 | refine vc_preG0 | refine vc_wkSl ?_ ?_ | refine vc_wkHp ?_ ?_ | refine vc_eqAVs ?_ ?_ | refine vc_preG ?_ ?_ | refine vc_side0 ?_ | refine vc_call [] (c1 i (by omega)) ?_
                 | refine vc_loopI 47 (fun (i : Nat) => [(1, .d (.sl (l.map sD))), (2, .d (.sl (m.map sD))), (3, .ptr 1000 []), (7, .d (.int .i64 (i : Int)))]) (fun _ => [(1000, .var (.d (digD pin)))]) (fun i => l.length - i) (fun i => i ≤ l.length ∧ i ≤ m.length ∧ ∀ j, j < i → (l.getD j s0).root = (m.getD j s0).root) 0 [] ?_ ?_ ?_ ?_ ?_ (fun i hI => ?_)
                 | refine vc_nextI (i + 1) [] ?_ ?_ ?_ ?_ ?_ ?_ | refine vc_weakf [] ?_ ?_ ?_ | refine vc_and ?_ ?_ | refine vc_ret [] [] ?_)
          | ((with_reducible first | refine vc_caseD (fun h => ?_) (fun h => ?_) | refine vc_caseN (fun h => ?_) (fun h => ?_)) <;> try (exfalso; omega))
          | ((with_reducible refine vc_case (fun h => ?_) (fun h => ?_)) <;> (try simp only [Go.Sym.vs1, reduceCtorEq] at h) <;> try (exfalso; first | omega | (simp at h; done)))))
  all_goals (try have hi : i < l.length := (by omega))
  all_goals (try have hj : i < m.length := (by omega))
  all_goals (try simp only [Int.toNat_natCast, sgn_at hi, sgn_at hj] at *)
  all_goals first
    | with_reducible rfl
    | omega
    | exact ⟨trivial, trivial, trivial, trivial⟩
    | exact ⟨Nat.zero_le _, Nat.zero_le _, fun j hj => absurd hj (Nat.not_lt_zero j)⟩
    | exact ⟨⟨by omega, by omega⟩, rfl⟩
    | exact ⟨⟨by omega, by omega, by omega⟩, sgn_size l⟩
    | exact ⟨by decide +kernel, fits_root 5 _, fits_root 5 _⟩
    | exact ⟨by omega, by omega, same_more hI.2.2 (rtYes (by assumption))⟩
    | (rw [wrap64_id (by omega) (by omega)]; rfl)
    | (rw [cutS]; rfl)
    | (unfold findI; rw [findF_yes (partF_some hi hj hI.2.2 (rtNe (by assumption))) (chkE_ok (by assumption))]; done)
    | (unfold findI; rw [findF_no (partF_some hi hj hI.2.2 (rtNe (by assumption))) (chk_not (by assumption))]; done)
    | (unfold findI; rw [findF_none (partF_none (by omega) hI.2.2)]; done)
    | rfl
    | trace_state
end

end Go.Proofs.Ytcdjheiccefcdaa
