import Derived.Test.YtcdjheiccefcdaaJ14
set_option linter.unusedSimpArgs false
set_option linter.unusedVariables false
/-
What the laws of evidence found, and written and read, return.
-/
set_option linter.unusedSimpArgs false
set_option linter.unusedVariables false
namespace Go.Proofs.Ytcdjheiccefcdaa
open Go.Sym
set_option maxRecDepth 10000
set_option maxHeartbeats 4000000

theorem sumW_bound : ∀ (l : List Sgn) (n : Int), 0 ≤ n → n ≤ 2 ^ 40 → (∀ s, s ∈ l → s.sig.length ≤ 2 ^ 21) → sumW l n ≤ 524288 → n ≤ 524288 ∧ ∀ s, s ∈ l → n + (s.sig.length : Int) ≤ 524288
  | [], n, _, _, _, h => ⟨h, nofun⟩
  | s :: l, n, h0, h1, hs, h => by
    have hl := hs s (by simp)
    by_cases hn : n ≤ 524288
    · rw [sumW, decide_eq_true hn, cond_true, wrap64_id (by omega) (by omega)] at h
      have ih := sumW_bound l (n + (s.sig.length : Int)) (by omega) (by omega) (fun t ht => hs t (by simp [ht])) h
      refine ⟨hn, fun t ht => ?_⟩
      rcases List.mem_cons.1 ht with rfl | ht
      · exact ih.1
      · have := ih.2 t ht; omega
    · rw [sumW, decide_eq_false hn, cond_false] at h
      exact absurd h hn
theorem few_sig {l : List Sgn} (h : fewB l = true) (hs : ∀ s, s ∈ l → s.sig.length ≤ 2 ^ 21) : ∀ s, s ∈ l → s.sig.length ≤ 524288 := fun s hm => by
  have hk := fewB_le h
  unfold fewB at h
  rw [decide_eq_false (by omega), cond_false, decide_eq_true_eq] at h
  have := (sumW_bound l 0 (by decide) (by decide) hs h).2 s hm
  omega
theorem accV_back {pin : List UInt8} {e : Evd} (h : rdE (evB e) = some e) : accV pin (evB e) = chkE pin e := by unfold accV; rw [h]

theorem forkBack_main (e : Evd) (hw : wfE e) (hs : ∀ s, s ∈ evL e → s.sig.length ≤ 2 ^ 21) : LocalCall Try.prog 4 [.d (eD e)] [] [] (one [.d (.bool true)]) [] := by
  have c0 := light12_ok e
  refine vc_fn mixed Try.func4 rfl rfl [] (vc_chk rfl) ?_
  by_cases hL : lightB e = true
  · have l1 := light_len hL
    have sg : ∀ s, s ∈ evL e → s.sig.length ≤ 524288 := fun s hm => by
      unfold lightB at hL
      simp only [Bool.and_eq_true] at hL
      rcases List.mem_append.1 hm with h | h
      · exact few_sig hL.1 (fun t ht => hs t (List.mem_append_left _ ht)) s h
      · exact few_sig hL.2 (fun t ht => hs t (List.mem_append_right _ ht)) s h
    have fe : fitL (evL e) := fun s hm => ⟨evL_wf hw s hm, hs s hm⟩
    have c1 := ebytes_ok e fe (by omega)
    have c2 := eread_some (evB e) (evB_len fe (by omega)) e (rdE_back hw (by omega) (fun s hm => Nat.le_trans (sg s hm) (by decide)))
    have c3 := rEbytes_ok e fe (by omega)
    have c4 := same_yes (evB e)
    have c5 := sameE_ok e e (by omega)
    rw [decide_eq_true rfl] at c5
    rw [hL] at c0
    repeat' (first
        | ((with_reducible refine vc_chk ?_); first | decide +kernel | rfl)
        | (with_reducible refine vc_side0 ?_; rfl)
        | (with_reducible first
             | refine vc_true ?_ | refine vc_true2 ?_ | refine vc_side ?_ ?_ | refine vc_triv | refine vc_later ?_ | refine vc_caseT ?_ | refine vc_caseF ?_ | refine vc_cons ?_ | refine vc_nil ?_ ?_ | refine vc_seq ?_
                | refine vc_region ?_ | refine vc_cond ?_ | refine vc_block ?_ | refine vc_retc ?_ | refine vc_exit ?_ | refine vc_skip ?_ | refine vc_scope ?_ | refine vc_label ?_ | refine vc_goto ?_ | refine vc_wkSl0
                | refine vc_wkHp0 | refine vc_eqAVs0 | refine vc_preG0 | refine vc_wkSl ?_ ?_ | refine vc_wkHp ?_ ?_ | refine vc_eqAVs ?_ ?_ | refine vc_preG ?_ ?_ | refine vc_side0 ?_ | refine vc_pure c0 ?_ ?_ ?_
                | refine vc_pure c1 ?_ ?_ ?_ | refine vc_pure c2 ?_ ?_ ?_ | refine vc_pure c3 ?_ ?_ ?_ | refine vc_pure c4 ?_ ?_ ?_ | refine vc_pure c5 ?_ ?_ ?_ | refine vc_pure works12_ok ?_ ?_ ?_ | refine vc_weakf [] ?_ ?_ ?_
                | refine vc_and ?_ ?_ | refine vc_ret [] [] ?_)
        | ((with_reducible first | refine vc_caseD (fun h => ?_) (fun h => ?_) | refine vc_caseN (fun h => ?_) (fun h => ?_)) <;> try (exfalso; omega))
        | ((with_reducible refine vc_case (fun h => ?_) (fun h => ?_)) <;> (try simp only [Go.Sym.vs1, reduceCtorEq] at h) <;> try (exfalso; first | omega | (simp at h; done)))
        | (conv in Vc _ => arg 1; whnf
           first
            | (with_reducible refine vc_side0 ?_; rfl)
            | (with_reducible first
                | refine vc_true ?_ | refine vc_true2 ?_ | refine vc_side ?_ ?_ | refine vc_triv | refine vc_later ?_ | refine vc_caseT ?_ | refine vc_caseF ?_ | refine vc_cons ?_ | refine vc_nil ?_ ?_ | refine vc_seq ?_
                   | refine vc_region ?_ | refine vc_cond ?_ | refine vc_block ?_ | refine vc_retc ?_ | refine vc_exit ?_ | refine vc_skip ?_ | refine vc_scope ?_ | refine vc_label ?_ | refine vc_goto ?_ | refine vc_wkSl0
                   | refine vc_wkHp0 | refine vc_eqAVs0 | refine vc_preG0 | refine vc_wkSl ?_ ?_ | refine vc_wkHp ?_ ?_ | refine vc_eqAVs ?_ ?_ | refine vc_preG ?_ ?_ | refine vc_side0 ?_ | refine vc_pure c0 ?_ ?_ ?_
                   | refine vc_pure c1 ?_ ?_ ?_ | refine vc_pure c2 ?_ ?_ ?_ | refine vc_pure c3 ?_ ?_ ?_ | refine vc_pure c4 ?_ ?_ ?_ | refine vc_pure c5 ?_ ?_ ?_ | refine vc_pure works12_ok ?_ ?_ ?_ | refine vc_weakf [] ?_ ?_ ?_
                   | refine vc_and ?_ ?_ | refine vc_ret [] [] ?_)
            | ((with_reducible first | refine vc_caseD (fun h => ?_) (fun h => ?_) | refine vc_caseN (fun h => ?_) (fun h => ?_)) <;> try (exfalso; omega))
            | ((with_reducible refine vc_case (fun h => ?_) (fun h => ?_)) <;> (try simp only [Go.Sym.vs1, reduceCtorEq] at h) <;> try (exfalso; first | omega | (simp at h; done)))))
    all_goals first
      | with_reducible rfl
      | omega
      | exact ⟨trivial, trivial⟩
      | exact ⟨trivial, trivial, trivial⟩
      | exact ⟨trivial, trivial, trivial, trivial⟩
      | exact ⟨⟨by decide, by decide, by decide⟩, trivial⟩
      | exact ⟨Nat.le_of_eq (Nat.zero_add _), trivial⟩
      | exact ⟨Nat.le_refl _, trivial, trivial⟩
      | (rw [wrap64_id (by omega) (by omega)]; rfl)
      | rfl
      | (exfalso; simp at h; done)
      | skip
  · rw [Bool.eq_false_iff.2 hL] at c0
    repeat' (first
        | ((with_reducible refine vc_chk ?_); first | decide +kernel | rfl)
        | (with_reducible refine vc_side0 ?_; rfl)
        | (with_reducible first
             | refine vc_true ?_ | refine vc_true2 ?_ | refine vc_side ?_ ?_ | refine vc_triv | refine vc_later ?_ | refine vc_caseT ?_ | refine vc_caseF ?_ | refine vc_cons ?_ | refine vc_nil ?_ ?_ | refine vc_seq ?_
                | refine vc_region ?_ | refine vc_cond ?_ | refine vc_block ?_ | refine vc_retc ?_ | refine vc_exit ?_ | refine vc_skip ?_ | refine vc_scope ?_ | refine vc_label ?_ | refine vc_goto ?_ | refine vc_wkSl0
                | refine vc_wkHp0 | refine vc_eqAVs0 | refine vc_preG0 | refine vc_wkSl ?_ ?_ | refine vc_wkHp ?_ ?_ | refine vc_eqAVs ?_ ?_ | refine vc_preG ?_ ?_ | refine vc_side0 ?_ | refine vc_pure c0 ?_ ?_ ?_
                | refine vc_pure works12_ok ?_ ?_ ?_ | refine vc_weakf [] ?_ ?_ ?_ | refine vc_and ?_ ?_ | refine vc_ret [] [] ?_)
        | ((with_reducible first | refine vc_caseD (fun h => ?_) (fun h => ?_) | refine vc_caseN (fun h => ?_) (fun h => ?_)) <;> try (exfalso; omega))
        | ((with_reducible refine vc_case (fun h => ?_) (fun h => ?_)) <;> (try simp only [Go.Sym.vs1, reduceCtorEq] at h) <;> try (exfalso; first | omega | (simp at h; done)))
        | (conv in Vc _ => arg 1; whnf
           first
            | (with_reducible refine vc_side0 ?_; rfl)
            | (with_reducible first
                | refine vc_true ?_ | refine vc_true2 ?_ | refine vc_side ?_ ?_ | refine vc_triv | refine vc_later ?_ | refine vc_caseT ?_ | refine vc_caseF ?_ | refine vc_cons ?_ | refine vc_nil ?_ ?_ | refine vc_seq ?_
                   | refine vc_region ?_ | refine vc_cond ?_ | refine vc_block ?_ | refine vc_retc ?_ | refine vc_exit ?_ | refine vc_skip ?_ | refine vc_scope ?_ | refine vc_label ?_ | refine vc_goto ?_ | refine vc_wkSl0
                   | refine vc_wkHp0 | refine vc_eqAVs0 | refine vc_preG0 | refine vc_wkSl ?_ ?_ | refine vc_wkHp ?_ ?_ | refine vc_eqAVs ?_ ?_ | refine vc_preG ?_ ?_ | refine vc_side0 ?_ | refine vc_pure c0 ?_ ?_ ?_
                   | refine vc_pure works12_ok ?_ ?_ ?_ | refine vc_weakf [] ?_ ?_ ?_ | refine vc_and ?_ ?_ | refine vc_ret [] [] ?_)
            | ((with_reducible first | refine vc_caseD (fun h => ?_) (fun h => ?_) | refine vc_caseN (fun h => ?_) (fun h => ?_)) <;> try (exfalso; omega))
            | ((with_reducible refine vc_case (fun h => ?_) (fun h => ?_)) <;> (try simp only [Go.Sym.vs1, reduceCtorEq] at h) <;> try (exfalso; first | omega | (simp at h; done)))))
    all_goals first
      | with_reducible rfl
      | omega
      | exact ⟨trivial, trivial⟩
      | exact ⟨trivial, trivial, trivial⟩
      | exact ⟨trivial, trivial, trivial, trivial⟩
      | exact ⟨⟨by decide, by decide, by decide⟩, trivial⟩
      | exact ⟨Nat.le_of_eq (Nat.zero_add _), trivial⟩
      | exact ⟨Nat.le_refl _, trivial, trivial⟩
      | (rw [wrap64_id (by omega) (by omega)]; rfl)
      | rfl
      | (exfalso; simp at h; done)
      | skip

/-- Were two roots unlike so far? -/
def unl (l m : List Sgn) (i : Nat) : Bool := (List.range i).any fun j => !decide ((l.getD j s0).root = (m.getD j s0).root)
theorem unl_succ (l m : List Sgn) (i : Nat) : unl l m (i + 1) = (unl l m i || !decide ((l.getD i s0).root = (m.getD i s0).root)) := by
  unfold unl
  rw [List.range_succ, List.any_append]; simp
theorem unl_end {l m : List Sgn} {i : Nat} (h1 : i ≤ l.length) (h2 : i ≤ m.length) (h : l.length ≤ i ∨ m.length ≤ i) : unl l m i = (partF l m).isSome := by
  unfold unl partF
  rw [show min l.length m.length = i by omega, Bool.eq_iff_iff, List.any_eq_true, List.find?_isSome]
theorem unl_law {pin : List UInt8} {l m : List Sgn} {r1 r2 : Int} {o : Option Nat} {i : Nat} (law : r1 = 0 → r2 = 0 → findF pin l m = partF l m) (hF : findF pin l m = o) (h1 : r1 = 0) (h2 : r2 = 0) (hi : i ≤ l.length) (hj : i ≤ m.length) (h : l.length ≤ i ∨ m.length ≤ i) : o.isSome = unl l m i := by
  rw [unl_end hi hj h, ← law h1 h2, hF]
theorem unl_bool (a b : Rt) : D.bool (bif true then !(D.beq (rootD a) (rootD b)) else D.beq (rootD a) (rootD b)) = D.bool (!decide (a = b)) := by
  show D.bool (!(D.beq (rootD a) (rootD b))) = _
  rw [beq_root]

theorem forkFinds_main (pin : List UInt8) (hp : pin.length = 32) (l m : List Sgn) (hl : ∀ s, s ∈ l → wfS s) (hm : ∀ s, s ∈ m → wfS s) :
    LocalCall Try.prog 8 [.d (digD pin), .d (.sl (l.map sD)), .d (.sl (m.map sD))] [] [] (one [.d (.bool true)]) [] := by
  have xa : (l.map sD).length = l.length := List.length_map _
  have xb : (m.map sD).length = m.length := List.length_map _
  have f1 := few12_ok l
  have f2 := few12_ok m
  refine vc_fn mixed Try.func8 rfl rfl [] (vc_chk rfl) ?_
  by_cases h1 : fewB l = true
  · by_cases h2 : fewB m = true
    · have la := fewB_le h1
      have lb := fewB_le h2
      have cf := efind_ok pin hp l m hl hm (by omega)
      have cr := rEfind_ok pin hp l m hl hm (by omega)
      have st := start_ok pin
      have w1 := walk_ok (hdP pin) l (wf_hdP hp) hl (by omega)
      have w2 := walk_ok (hdP pin) m (wf_hdP hp) hm (by omega)
      have law : (walk (hdP pin) l).2.2 = 0 → (walk (hdP pin) m).2.2 = 0 → findF pin l m = partF l m := find_law
      rw [h1] at f1
      rw [h2] at f2
      generalize (walk (hdP pin) l).2.2 = r1 at *
      generalize (walk (hdP pin) m).2.2 = r2 at *
      cases hF : findF pin l m with
      | none =>
        have e1 : findE pin l m = e0 := by unfold findE; rw [hF]
        have e2 : findI pin l m = -1 := by unfold findI; rw [hF]
        rw [e1, hF] at cf
        rw [e2] at cr
        repeat' (first
            | ((with_reducible refine vc_chk ?_); first | decide +kernel | rfl)
            | (with_reducible refine vc_side0 ?_; rfl)
            | (with_reducible first
                 | refine vc_true ?_ | refine vc_true2 ?_ | refine vc_side ?_ ?_ | refine vc_triv | refine vc_later ?_ | refine vc_caseT ?_ | refine vc_caseF ?_ | refine vc_cons ?_ | refine vc_nil ?_ ?_ | refine vc_seq ?_
                    | refine vc_region ?_ | refine vc_cond ?_ | refine vc_block ?_ | refine vc_retc ?_ | refine vc_exit ?_ | refine vc_skip ?_ | refine vc_scope ?_ | refine vc_label ?_ | refine vc_goto ?_ | refine vc_wkSl0
                    | refine vc_wkHp0 | refine vc_eqAVs0 | refine vc_preG0 | refine vc_wkSl ?_ ?_ | refine vc_wkHp ?_ ?_ | refine vc_eqAVs ?_ ?_ | refine vc_preG ?_ ?_ | refine vc_side0 ?_ | refine vc_pure f1 ?_ ?_ ?_
                    | refine vc_pure f2 ?_ ?_ ?_ | refine vc_pure cf ?_ ?_ ?_ | refine vc_pure cr ?_ ?_ ?_ | refine vc_pure st ?_ ?_ ?_ | refine vc_pure w1 ?_ ?_ ?_ | refine vc_pure w2 ?_ ?_ ?_ | refine vc_pure works12_ok ?_ ?_ ?_
                    | refine vc_loopI 121 (fun (i : Nat) => [(1, .d (.sl (l.map sD))), (2, .d (.sl (m.map sD))), (8, .d (.bool (none : Option Nat).isSome)), (12, .d (.int .i64 r1)), (15, .d (.int .i64 r2)), (16, .d (.bool (unl l m i))), (17, .d (.int .i64 (i : Int)))]) (fun _ => []) (fun i => l.length - i) (fun i => i ≤ l.length ∧ i ≤ m.length) 0 [] ?_ ?_ ?_ ?_ ?_ (fun i hI => ?_)
                    | refine vc_nextI (i + 1) [] ?_ ?_ ?_ ?_ ?_ ?_ | refine vc_weakf [] ?_ ?_ ?_ | refine vc_and ?_ ?_ | refine vc_ret [] [] ?_)
            | ((with_reducible first | refine vc_caseD (fun h => ?_) (fun h => ?_) | refine vc_caseN (fun h => ?_) (fun h => ?_)) <;> try (exfalso; omega))
            | ((with_reducible refine vc_case (fun h => ?_) (fun h => ?_)) <;> (try simp only [Go.Sym.vs1, reduceCtorEq] at h) <;> try (exfalso; first | omega | (simp at h; done)))
            | (conv in Vc _ => arg 1; whnf
               first
                | (with_reducible refine vc_side0 ?_; rfl)
                | (with_reducible first
                    | refine vc_true ?_ | refine vc_true2 ?_ | refine vc_side ?_ ?_ | refine vc_triv | refine vc_later ?_ | refine vc_caseT ?_ | refine vc_caseF ?_ | refine vc_cons ?_ | refine vc_nil ?_ ?_ | refine vc_seq ?_
                       | refine vc_region ?_ | refine vc_cond ?_ | refine vc_block ?_ | refine vc_retc ?_ | refine vc_exit ?_ | refine vc_skip ?_ | refine vc_scope ?_ | refine vc_label ?_ | refine vc_goto ?_ | refine vc_wkSl0
                       | refine vc_wkHp0 | refine vc_eqAVs0 | refine vc_preG0 | refine vc_wkSl ?_ ?_ | refine vc_wkHp ?_ ?_ | refine vc_eqAVs ?_ ?_ | refine vc_preG ?_ ?_ | refine vc_side0 ?_ | refine vc_pure f1 ?_ ?_ ?_
                       | refine vc_pure f2 ?_ ?_ ?_ | refine vc_pure cf ?_ ?_ ?_ | refine vc_pure cr ?_ ?_ ?_ | refine vc_pure st ?_ ?_ ?_ | refine vc_pure w1 ?_ ?_ ?_ | refine vc_pure w2 ?_ ?_ ?_
                       | refine vc_pure works12_ok ?_ ?_ ?_
                       | refine vc_loopI 121 (fun (i : Nat) => [(1, .d (.sl (l.map sD))), (2, .d (.sl (m.map sD))), (8, .d (.bool (none : Option Nat).isSome)), (12, .d (.int .i64 r1)), (15, .d (.int .i64 r2)), (16, .d (.bool (unl l m i))), (17, .d (.int .i64 (i : Int)))]) (fun _ => []) (fun i => l.length - i) (fun i => i ≤ l.length ∧ i ≤ m.length) 0 [] ?_ ?_ ?_ ?_ ?_ (fun i hI => ?_)
                       | refine vc_nextI (i + 1) [] ?_ ?_ ?_ ?_ ?_ ?_ | refine vc_weakf [] ?_ ?_ ?_ | refine vc_and ?_ ?_ | refine vc_ret [] [] ?_)
                | ((with_reducible first | refine vc_caseD (fun h => ?_) (fun h => ?_) | refine vc_caseN (fun h => ?_) (fun h => ?_)) <;> try (exfalso; omega))
                | ((with_reducible refine vc_case (fun h => ?_) (fun h => ?_)) <;> (try simp only [Go.Sym.vs1, reduceCtorEq] at h) <;> try (exfalso; first | omega | (simp at h; done)))))
        all_goals (try have hi : i < l.length := (by omega))
        all_goals (try have hj : i < m.length := (by omega))
        all_goals (try simp only [Int.toNat_natCast, sgn_at hi, sgn_at hj] at *)
        all_goals first
          | with_reducible rfl
          | omega
          | exact ⟨trivial, trivial, trivial⟩
          | exact ⟨Nat.zero_le _, Nat.zero_le _⟩
          | exact ⟨⟨by omega, by omega⟩, rfl⟩
          | exact ⟨by omega, by omega⟩
          | exact ⟨by decide +kernel, fits_root 5 _, fits_root 5 _⟩
          | (rw [wrap64_id (by omega) (by omega)]; rfl)
          | (rw [unl_succ, h]; rfl)
          | (rw [unl_succ, h, Bool.false_or]; exact unl_bool _ _)
          | exact absurd (unl_law law hF (by assumption) (by assumption) hI.1 hI.2 (by omega)) h
          | exact absurd rfl h
          | rfl
          | trace_state
      | some k =>
        have e1 : findE pin l m = evAt l m k := by unfold findE; rw [hF]
        have e2 : findI pin l m = k := by unfold findI; rw [hF]
        rw [e1, hF] at cf
        rw [e2] at cr
        obtain ⟨k1, k2⟩ := findF_at hF
        obtain ⟨k3, k4, k5, k6⟩ := partF_at k1
        obtain ⟨s1, s2⟩ := okE_small k2
        have wk := evAt_wf hl hm k
        have fk := fit_of wk (fun s hs => Nat.le_trans (s2 s hs) (by decide))
        have q1 := echeck_ok pin hp (evAt l m k) wk (by show (l.take k).length < _; rw [List.length_take]; omega)
        have q2 := ebytes_ok (evAt l m k) fk (by omega)
        have q3 := eaccept_ok pin hp (evB (evAt l m k)) (evB_len fk (by omega))
        rw [chkE_yes k2] at q1
        rw [accV_back (rdE_back wk s1 s2), chkE_yes k2] at q3
        have tl : (evAt l m k).trunk = l.take k := rfl
        repeat' (first
            | ((with_reducible refine vc_chk ?_); first | decide +kernel | rfl)
            | (with_reducible refine vc_side0 ?_; rfl)
            | (with_reducible first
                 | refine vc_true ?_ | refine vc_true2 ?_ | refine vc_side ?_ ?_ | refine vc_triv | refine vc_later ?_ | refine vc_caseT ?_ | refine vc_caseF ?_ | refine vc_cons ?_ | refine vc_nil ?_ ?_ | refine vc_seq ?_
                    | refine vc_region ?_ | refine vc_cond ?_ | refine vc_block ?_ | refine vc_retc ?_ | refine vc_exit ?_ | refine vc_skip ?_ | refine vc_scope ?_ | refine vc_label ?_ | refine vc_goto ?_ | refine vc_wkSl0
                    | refine vc_wkHp0 | refine vc_eqAVs0 | refine vc_preG0 | refine vc_wkSl ?_ ?_ | refine vc_wkHp ?_ ?_ | refine vc_eqAVs ?_ ?_ | refine vc_preG ?_ ?_ | refine vc_side0 ?_ | refine vc_pure f1 ?_ ?_ ?_
                    | refine vc_pure f2 ?_ ?_ ?_ | refine vc_pure cf ?_ ?_ ?_ | refine vc_pure cr ?_ ?_ ?_ | refine vc_pure q1 ?_ ?_ ?_ | refine vc_pure q2 ?_ ?_ ?_ | refine vc_pure q3 ?_ ?_ ?_ | refine vc_pure st ?_ ?_ ?_
                    | refine vc_pure w1 ?_ ?_ ?_ | refine vc_pure w2 ?_ ?_ ?_ | refine vc_pure works12_ok ?_ ?_ ?_
                    | refine vc_loopI 121 (fun (i : Nat) => [(1, .d (.sl (l.map sD))), (2, .d (.sl (m.map sD))), (8, .d (.bool (some k : Option Nat).isSome)), (12, .d (.int .i64 r1)), (15, .d (.int .i64 r2)), (16, .d (.bool (unl l m i))), (17, .d (.int .i64 (i : Int)))]) (fun _ => []) (fun i => l.length - i) (fun i => i ≤ l.length ∧ i ≤ m.length) 0 [] ?_ ?_ ?_ ?_ ?_ (fun i hI => ?_)
                    | refine vc_nextI (i + 1) [] ?_ ?_ ?_ ?_ ?_ ?_ | refine vc_weakf [] ?_ ?_ ?_ | refine vc_and ?_ ?_ | refine vc_ret [] [] ?_)
            | ((with_reducible first | refine vc_caseD (fun h => ?_) (fun h => ?_) | refine vc_caseN (fun h => ?_) (fun h => ?_)) <;> try (exfalso; omega))
            | ((with_reducible refine vc_case (fun h => ?_) (fun h => ?_)) <;> (try simp only [Go.Sym.vs1, reduceCtorEq] at h) <;> try (exfalso; first | omega | (simp at h; done)))
            | (conv in Vc _ => arg 1; whnf
               first
                | (with_reducible refine vc_side0 ?_; rfl)
                | (with_reducible first
                    | refine vc_true ?_ | refine vc_true2 ?_ | refine vc_side ?_ ?_ | refine vc_triv | refine vc_later ?_ | refine vc_caseT ?_ | refine vc_caseF ?_ | refine vc_cons ?_ | refine vc_nil ?_ ?_ | refine vc_seq ?_
                       | refine vc_region ?_ | refine vc_cond ?_ | refine vc_block ?_ | refine vc_retc ?_ | refine vc_exit ?_ | refine vc_skip ?_ | refine vc_scope ?_ | refine vc_label ?_ | refine vc_goto ?_ | refine vc_wkSl0
                       | refine vc_wkHp0 | refine vc_eqAVs0 | refine vc_preG0 | refine vc_wkSl ?_ ?_ | refine vc_wkHp ?_ ?_ | refine vc_eqAVs ?_ ?_ | refine vc_preG ?_ ?_ | refine vc_side0 ?_ | refine vc_pure f1 ?_ ?_ ?_
                       | refine vc_pure f2 ?_ ?_ ?_ | refine vc_pure cf ?_ ?_ ?_ | refine vc_pure cr ?_ ?_ ?_ | refine vc_pure q1 ?_ ?_ ?_ | refine vc_pure q2 ?_ ?_ ?_ | refine vc_pure q3 ?_ ?_ ?_ | refine vc_pure st ?_ ?_ ?_
                       | refine vc_pure w1 ?_ ?_ ?_ | refine vc_pure w2 ?_ ?_ ?_ | refine vc_pure works12_ok ?_ ?_ ?_
                       | refine vc_loopI 121 (fun (i : Nat) => [(1, .d (.sl (l.map sD))), (2, .d (.sl (m.map sD))), (8, .d (.bool (some k : Option Nat).isSome)), (12, .d (.int .i64 r1)), (15, .d (.int .i64 r2)), (16, .d (.bool (unl l m i))), (17, .d (.int .i64 (i : Int)))]) (fun _ => []) (fun i => l.length - i) (fun i => i ≤ l.length ∧ i ≤ m.length) 0 [] ?_ ?_ ?_ ?_ ?_ (fun i hI => ?_)
                       | refine vc_nextI (i + 1) [] ?_ ?_ ?_ ?_ ?_ ?_ | refine vc_weakf [] ?_ ?_ ?_ | refine vc_and ?_ ?_ | refine vc_ret [] [] ?_)
                | ((with_reducible first | refine vc_caseD (fun h => ?_) (fun h => ?_) | refine vc_caseN (fun h => ?_) (fun h => ?_)) <;> try (exfalso; omega))
                | ((with_reducible refine vc_case (fun h => ?_) (fun h => ?_)) <;> (try simp only [Go.Sym.vs1, reduceCtorEq] at h) <;> try (exfalso; first | omega | (simp at h; done)))))
        all_goals (try have hi : i < l.length := (by omega))
        all_goals (try have hj : i < m.length := (by omega))
        all_goals (try simp only [Int.toNat_natCast, sgn_at hi, sgn_at hj] at *)
        all_goals first
          | with_reducible rfl
          | omega
          | exact ⟨trivial, trivial, trivial⟩
          | exact ⟨Nat.zero_le _, Nat.zero_le _⟩
          | exact ⟨⟨by omega, by omega⟩, rfl⟩
          | exact ⟨by omega, by omega⟩
          | exact ⟨by decide +kernel, fits_root 5 _, fits_root 5 _⟩
          | (rw [wrap64_id (by omega) (by omega)]; rfl)
          | (rw [unl_succ, h]; rfl)
          | (rw [unl_succ, h, Bool.false_or]; exact unl_bool _ _)
          | (exfalso; exact h (by rw [List.length_map]; show ((l.take k).length : Int) = _; rw [List.length_take, Nat.min_eq_left (by omega)]))
          | exact absurd (unl_law law hF (by assumption) (by assumption) hI.1 hI.2 (by omega)) h
          | exact absurd rfl h
          | rfl
          | trace_state
    · rw [h1] at f1
      rw [Bool.eq_false_iff.2 h2] at f2
      repeat' (first
          | ((with_reducible refine vc_chk ?_); first | decide +kernel | rfl)
          | (with_reducible refine vc_side0 ?_; rfl)
          | (with_reducible first
               | refine vc_true ?_ | refine vc_true2 ?_ | refine vc_side ?_ ?_ | refine vc_triv | refine vc_later ?_ | refine vc_caseT ?_ | refine vc_caseF ?_ | refine vc_cons ?_ | refine vc_nil ?_ ?_ | refine vc_seq ?_
                  | refine vc_region ?_ | refine vc_cond ?_ | refine vc_block ?_ | refine vc_retc ?_ | refine vc_exit ?_ | refine vc_skip ?_ | refine vc_scope ?_ | refine vc_label ?_ | refine vc_goto ?_ | refine vc_wkSl0
                  | refine vc_wkHp0 | refine vc_eqAVs0 | refine vc_preG0 | refine vc_wkSl ?_ ?_ | refine vc_wkHp ?_ ?_ | refine vc_eqAVs ?_ ?_ | refine vc_preG ?_ ?_ | refine vc_side0 ?_ | refine vc_pure f1 ?_ ?_ ?_
                  | refine vc_pure f2 ?_ ?_ ?_ | refine vc_pure works12_ok ?_ ?_ ?_ | refine vc_weakf [] ?_ ?_ ?_ | refine vc_and ?_ ?_ | refine vc_ret [] [] ?_)
          | ((with_reducible first | refine vc_caseD (fun h => ?_) (fun h => ?_) | refine vc_caseN (fun h => ?_) (fun h => ?_)) <;> try (exfalso; omega))
          | ((with_reducible refine vc_case (fun h => ?_) (fun h => ?_)) <;> (try simp only [Go.Sym.vs1, reduceCtorEq] at h) <;> try (exfalso; first | omega | (simp at h; done)))
          | (conv in Vc _ => arg 1; whnf
             first
              | (with_reducible refine vc_side0 ?_; rfl)
              | (with_reducible first
                  | refine vc_true ?_ | refine vc_true2 ?_ | refine vc_side ?_ ?_ | refine vc_triv | refine vc_later ?_ | refine vc_caseT ?_ | refine vc_caseF ?_ | refine vc_cons ?_ | refine vc_nil ?_ ?_ | refine vc_seq ?_
                     | refine vc_region ?_ | refine vc_cond ?_ | refine vc_block ?_ | refine vc_retc ?_ | refine vc_exit ?_ | refine vc_skip ?_ | refine vc_scope ?_ | refine vc_label ?_ | refine vc_goto ?_ | refine vc_wkSl0
                     | refine vc_wkHp0 | refine vc_eqAVs0 | refine vc_preG0 | refine vc_wkSl ?_ ?_ | refine vc_wkHp ?_ ?_ | refine vc_eqAVs ?_ ?_ | refine vc_preG ?_ ?_ | refine vc_side0 ?_ | refine vc_pure f1 ?_ ?_ ?_
                     | refine vc_pure f2 ?_ ?_ ?_ | refine vc_pure works12_ok ?_ ?_ ?_ | refine vc_weakf [] ?_ ?_ ?_ | refine vc_and ?_ ?_ | refine vc_ret [] [] ?_)
              | ((with_reducible first | refine vc_caseD (fun h => ?_) (fun h => ?_) | refine vc_caseN (fun h => ?_) (fun h => ?_)) <;> try (exfalso; omega))
              | ((with_reducible refine vc_case (fun h => ?_) (fun h => ?_)) <;> (try simp only [Go.Sym.vs1, reduceCtorEq] at h) <;> try (exfalso; first | omega | (simp at h; done)))))
      all_goals first
        | with_reducible rfl
        | omega
        | exact ⟨trivial, trivial⟩
        | exact ⟨trivial, trivial, trivial⟩
        | exact ⟨trivial, trivial, trivial, trivial⟩
        | exact ⟨⟨by decide, by decide, by decide⟩, trivial⟩
        | exact ⟨Nat.le_of_eq (Nat.zero_add _), trivial⟩
        | exact ⟨Nat.le_refl _, trivial, trivial⟩
        | (rw [wrap64_id (by omega) (by omega)]; rfl)
        | rfl
        | (exfalso; simp at h; done)
        | skip
  · rw [Bool.eq_false_iff.2 h1] at f1
    repeat' (first
        | ((with_reducible refine vc_chk ?_); first | decide +kernel | rfl)
        | (with_reducible refine vc_side0 ?_; rfl)
        | (with_reducible first
             | refine vc_true ?_ | refine vc_true2 ?_ | refine vc_side ?_ ?_ | refine vc_triv | refine vc_later ?_ | refine vc_caseT ?_ | refine vc_caseF ?_ | refine vc_cons ?_ | refine vc_nil ?_ ?_ | refine vc_seq ?_
                | refine vc_region ?_ | refine vc_cond ?_ | refine vc_block ?_ | refine vc_retc ?_ | refine vc_exit ?_ | refine vc_skip ?_ | refine vc_scope ?_ | refine vc_label ?_ | refine vc_goto ?_ | refine vc_wkSl0
                | refine vc_wkHp0 | refine vc_eqAVs0 | refine vc_preG0 | refine vc_wkSl ?_ ?_ | refine vc_wkHp ?_ ?_ | refine vc_eqAVs ?_ ?_ | refine vc_preG ?_ ?_ | refine vc_side0 ?_ | refine vc_pure f1 ?_ ?_ ?_
                | refine vc_pure works12_ok ?_ ?_ ?_ | refine vc_weakf [] ?_ ?_ ?_ | refine vc_and ?_ ?_ | refine vc_ret [] [] ?_)
        | ((with_reducible first | refine vc_caseD (fun h => ?_) (fun h => ?_) | refine vc_caseN (fun h => ?_) (fun h => ?_)) <;> try (exfalso; omega))
        | ((with_reducible refine vc_case (fun h => ?_) (fun h => ?_)) <;> (try simp only [Go.Sym.vs1, reduceCtorEq] at h) <;> try (exfalso; first | omega | (simp at h; done)))
        | (conv in Vc _ => arg 1; whnf
           first
            | (with_reducible refine vc_side0 ?_; rfl)
            | (with_reducible first
                | refine vc_true ?_ | refine vc_true2 ?_ | refine vc_side ?_ ?_ | refine vc_triv | refine vc_later ?_ | refine vc_caseT ?_ | refine vc_caseF ?_ | refine vc_cons ?_ | refine vc_nil ?_ ?_ | refine vc_seq ?_
                   | refine vc_region ?_ | refine vc_cond ?_ | refine vc_block ?_ | refine vc_retc ?_ | refine vc_exit ?_ | refine vc_skip ?_ | refine vc_scope ?_ | refine vc_label ?_ | refine vc_goto ?_ | refine vc_wkSl0
                   | refine vc_wkHp0 | refine vc_eqAVs0 | refine vc_preG0 | refine vc_wkSl ?_ ?_ | refine vc_wkHp ?_ ?_ | refine vc_eqAVs ?_ ?_ | refine vc_preG ?_ ?_ | refine vc_side0 ?_ | refine vc_pure f1 ?_ ?_ ?_
                   | refine vc_pure works12_ok ?_ ?_ ?_ | refine vc_weakf [] ?_ ?_ ?_ | refine vc_and ?_ ?_ | refine vc_ret [] [] ?_)
            | ((with_reducible first | refine vc_caseD (fun h => ?_) (fun h => ?_) | refine vc_caseN (fun h => ?_) (fun h => ?_)) <;> try (exfalso; omega))
            | ((with_reducible refine vc_case (fun h => ?_) (fun h => ?_)) <;> (try simp only [Go.Sym.vs1, reduceCtorEq] at h) <;> try (exfalso; first | omega | (simp at h; done)))))
    all_goals first
      | with_reducible rfl
      | omega
      | exact ⟨trivial, trivial⟩
      | exact ⟨trivial, trivial, trivial⟩
      | exact ⟨trivial, trivial, trivial, trivial⟩
      | exact ⟨⟨by decide, by decide, by decide⟩, trivial⟩
      | exact ⟨Nat.le_of_eq (Nat.zero_add _), trivial⟩
      | exact ⟨Nat.le_refl _, trivial, trivial⟩
      | (rw [wrap64_id (by omega) (by omega)]; rfl)
      | rfl
      | (exfalso; simp at h; done)
      | skip

end Go.Proofs.Ytcdjheiccefcdaa
