import Derived.Test.YtcdjheiccefcdaaJ5
import Derived.Test.YtcdjheiccefcdaaJ11
set_option linter.unusedSimpArgs false
set_option linter.unusedVariables false
/-
Evidence read, by the program and by the document; bytes taken.
-/
set_option linter.unusedSimpArgs false
set_option linter.unusedVariables false
namespace Go.Proofs.Ytcdjheiccefcdaa
open Go.Sym
set_option maxRecDepth 10000
set_option maxHeartbeats 4000000

theorem frdT_len {bs : List UInt8} {ts : List (List UInt8)} (h : rdTexts bs = some ts) {i : Nat} (hi : i < ts.length) : (ts.getD i []).length < 2 ^ 63 :=
  Nat.lt_of_le_of_lt ((rdTexts_iff.1 h).2.2 _ (by rw [List.getD_eq_getElem?_getD, List.getElem?_eq_getElem hi]; simp)) (by decide)
theorem ftext_at {ts : List (List UInt8)} {i : Nat} (hi : i < ts.length) : (ts.map tD).getD i .nilp = tD (ts.getD i []) := (map_at (f := tD) (d := []) hi).1
theorem rd_cases {bs : List UInt8} : (rdTexts bs = none ∧ rdE bs = none) ∨ (∃ ts, rdTexts bs = some ts ∧ ¬ (2 ≤ ts.length ∧ ts.length ≤ 65) ∧ rdE bs = none) ∨ ∃ ts, rdTexts bs = some ts ∧ (2 ≤ ts.length ∧ ts.length ≤ 65) ∧ rdE bs = (rdSs ts).map mkE := by
  unfold rdE
  cases h : rdTexts bs with
  | none => exact .inl ⟨rfl, rfl⟩
  | some ts =>
    refine .inr ?_
    by_cases hn : 2 ≤ ts.length ∧ ts.length ≤ 65
    · exact .inr ⟨ts, rfl, hn, by rw [Option.bind_some, decide_eq_true hn]; rfl⟩
    · exact .inl ⟨ts, rfl, hn, by rw [Option.bind_some, decide_eq_false hn]; rfl⟩
theorem errI_ne {α : Type} {o : Option α} (h : ¬ errI o = 0) : o = none := by
  cases o with
  | none => rfl
  | some x => exact absurd (errI_some x) h
theorem errI_eq {α : Type} {o : Option α} (h : errI o = 0) : o.isSome = true := by
  cases o with
  | none => rw [errI_none] at h; cases h
  | some x => rfl

abbrev sgZ : D := .st [.st [.int .u64 0, digD zero32, digD zero32, digD zero32], .nils]
abbrev evZ : D := .st [.nils, sgZ, sgZ]

theorem got_all {ts : List (List UInt8)} {l : List Sgn} {i : Nat} (hs : rdSs ts = some l) (h : ∀ j, j < i → (rdS (ts.getD j [])).isSome = true) (h1 : ts.length ≤ i) (h2 : i ≤ ts.length) : gotL ts i = l := by
  obtain rfl : i = ts.length := by omega
  exact Option.some.inj ((rdSs_all h).symm.trans hs)
theorem got_none {ts : List (List UInt8)} {i : Nat} (hs : rdSs ts = none) (h : ∀ j, j < i → (rdS (ts.getD j [])).isSome = true) (h1 : ts.length ≤ i) (h2 : i ≤ ts.length) : False := by
  obtain rfl : i = ts.length := by omega
  have := (rdSs_all h).symm.trans hs
  cases this
theorem some_more {ts : List (List UInt8)} {i : Nat} (h : ∀ j, j < i → (rdS (ts.getD j [])).isSome = true) (hp : (rdS (ts.getD i [])).isSome = true) : ∀ j, j < i + 1 → (rdS (ts.getD j [])).isSome = true := fun j hj => by
  by_cases e : j = i
  · subst e; exact hp
  · exact h j (by omega)
theorem got_app {ts : List (List UInt8)} {i : Nat} (h : i < ts.length) : (gotL ts i).map sD ++ [sD ((rdS (ts.getD i [])).getD s0)] = (gotL ts (i + 1)).map sD := by
  rw [gotL_succ h, List.map_append]; rfl

/-- Texts of the right number of which each is a signed root, or not. -/
theorem eread_in (bs : List UInt8) (hl : bs.length < 2 ^ 63) (ts : List (List UInt8)) (ht : rdTexts bs = some ts) (hn : 2 ≤ ts.length ∧ ts.length ≤ 65) (l : List Sgn) (hs : rdSs ts = some l) :
    LocalCall Try.prog 14 [.d (.sl (bs.map byteD))] [] [] (one [.d (eD (mkE l)), .d (.int .i64 0)]) [] := by
  have lt : (ts.map tD).length = ts.length := List.length_map _
  have c1 := rTexts_any bs hl
  rw [ht] at c1
  replace c1 : LocalCall Try.prog 34 [.d (.sl (bs.map byteD))] [] [] (one [.d (.sl (ts.map tD)), .d (.int .i64 0)]) [] := c1
  have c2 : ∀ i, i < ts.length → _ := fun i hi => sgn_ok ((ts.getD i []).map byteD) (ts.getD i []) rfl (frdT_len ht hi) (rdS (ts.getD i [])) rfl
  have ln : l.length = ts.length := by rw [(rdSs_some hs).1, List.length_map]
  have tk : List.take l.length (l.map sD) = l.map sD := List.take_of_length_le (by rw [List.length_map]; exact Nat.le_refl _)
  have w1 : IntKind.i64.wrap ((l.length : Int) - 2) = ((l.length - 2 : Nat) : Int) := by rw [wrap64_id (by omega) (by omega)]; omega
  have w2 : IntKind.i64.wrap (((l.length - 2 : Nat) : Int) + 1) = ((l.length - 1 : Nat) : Int) := by rw [wrap64_id (by omega) (by omega)]; omega
  have bad : ∀ i, i < ts.length → ¬ errI (rdS (ts.getD i [])) = 0 → False := fun i hi h => by
    have := rdSs_bad hi (errI_ne h)
    rw [hs] at this; cases this
  refine vc_fn mixed Try.func14 rfl rfl [(500004, [9098006]), (13, [6])] (vc_chk rfl) ?_
  repeat' (first
      | ((with_reducible refine vc_chk ?_); first | decide +kernel | rfl)
      | (with_reducible refine vc_side0 ?_; rfl)
      | (with_reducible first
           | refine vc_true ?_ | refine vc_true2 ?_ | refine vc_side ?_ ?_ | refine vc_triv | refine vc_later ?_ | refine vc_caseT ?_ | refine vc_caseF ?_ | refine vc_cons ?_ | refine vc_nil ?_ ?_ | refine vc_seq ?_
              | refine vc_region ?_ | refine vc_cond ?_ | refine vc_block ?_ | refine vc_retc ?_ | refine vc_exit ?_ | refine vc_skip ?_ | refine vc_scope ?_ | refine vc_label ?_ | refine vc_goto ?_ | refine vc_wkSl0
              | refine vc_wkHp0 | refine vc_eqAVs0 | refine vc_preG0 | refine vc_wkSl ?_ ?_ | refine vc_wkHp ?_ ?_ | refine vc_eqAVs ?_ ?_ | refine vc_preG ?_ ?_ | refine vc_side0 ?_ | refine vc_pure c1 ?_ ?_ ?_
              | refine vc_call [] (c2 i (by omega)) ?_
              | refine vc_loopI 67 (fun (i : Nat) => [(2, .ptr 1000 []), (6, .sl 9 [] 98 0 (gotL ts i).length), (30, .d (.sl (ts.map tD))), (31, .d (.int .i64 ((ts.map tD).length : Nat))), (32, .d (.int .i64 (i : Int)))]) (fun i => [(1000, .var (.d evZ)), (9, .row 98 ((gotL ts i).map sD))]) (fun i => ts.length - i) (fun i => i ≤ ts.length ∧ ∀ j, j < i → (rdS (ts.getD j [])).isSome = true) 0 [] ?_ ?_ ?_ ?_ ?_ (fun i hI => ?_)
              | refine vc_nextI (i + 1) [(9, 12012)] ?_ ?_ ?_ ?_ ?_ ?_ | refine vc_weakf [] ?_ ?_ ?_ | refine vc_and ?_ ?_ | refine vc_ret [] [] ?_)
      | ((with_reducible first | refine vc_caseD (fun h => ?_) (fun h => ?_) | refine vc_caseN (fun h => ?_) (fun h => ?_)) <;> try (exfalso; omega))
      | ((with_reducible refine vc_case (fun h => ?_) (fun h => ?_)) <;> (try simp only [Go.Sym.vs1, reduceCtorEq] at h) <;> try (exfalso; first | omega | (simp at h; done)))
      | (conv in Vc _ => arg 1; whnf
         first
          | (with_reducible refine vc_side0 ?_; rfl)
          | (with_reducible first
              | refine vc_true ?_ | refine vc_true2 ?_ | refine vc_side ?_ ?_ | refine vc_triv | refine vc_later ?_ | refine vc_caseT ?_ | refine vc_caseF ?_ | refine vc_cons ?_ | refine vc_nil ?_ ?_ | refine vc_seq ?_
                 | refine vc_region ?_ | refine vc_cond ?_ | refine vc_block ?_ | refine vc_retc ?_ | refine vc_exit ?_ | refine vc_skip ?_ | refine vc_scope ?_ | refine vc_label ?_ | refine vc_goto ?_ | refine vc_wkSl0
                 | refine vc_wkHp0 | refine vc_eqAVs0 | refine vc_preG0 | refine vc_wkSl ?_ ?_ | refine vc_wkHp ?_ ?_ | refine vc_eqAVs ?_ ?_ | refine vc_preG ?_ ?_ | refine vc_side0 ?_ | refine vc_pure c1 ?_ ?_ ?_
                 | refine vc_call [] (c2 i (by omega)) ?_
                 | refine vc_loopI 67 (fun (i : Nat) => [(2, .ptr 1000 []), (6, .sl 9 [] 98 0 (gotL ts i).length), (30, .d (.sl (ts.map tD))), (31, .d (.int .i64 ((ts.map tD).length : Nat))), (32, .d (.int .i64 (i : Int)))]) (fun i => [(1000, .var (.d evZ)), (9, .row 98 ((gotL ts i).map sD))]) (fun i => ts.length - i) (fun i => i ≤ ts.length ∧ ∀ j, j < i → (rdS (ts.getD j [])).isSome = true) 0 [] ?_ ?_ ?_ ?_ ?_ (fun i hI => ?_)
                 | refine vc_nextI (i + 1) [(9, 12012)] ?_ ?_ ?_ ?_ ?_ ?_ | refine vc_weakf [] ?_ ?_ ?_ | refine vc_and ?_ ?_ | refine vc_ret [] [] ?_)
          | ((with_reducible first | refine vc_caseD (fun h => ?_) (fun h => ?_) | refine vc_caseN (fun h => ?_) (fun h => ?_)) <;> try (exfalso; omega))
          | ((with_reducible refine vc_case (fun h => ?_) (fun h => ?_)) <;> (try simp only [Go.Sym.vs1, reduceCtorEq] at h) <;> try (exfalso; first | omega | (simp at h; done)))))
  all_goals (try (exfalso; exact bad i (by omega) h))
  all_goals (try simp only [Nat.zero_add, Int.toNat_natCast, List.nil_append, List.drop_zero, List.take_length, Nat.sub_zero])
  all_goals (try have gl : gotL ts i = l := got_all hs hI.2 (by omega) hI.1)
  all_goals (try simp only [gl, tk, List.length_map, w1])
  all_goals (try simp only [w2, Int.toNat_natCast])
  all_goals first
    | with_reducible rfl
    | omega
    | exact ⟨trivial, trivial, trivial⟩
    | exact ⟨trivial, trivial, trivial, trivial⟩
    | exact ⟨⟨by omega, by omega, by omega, by omega⟩, sgn_size l⟩
    | exact ⟨⟨by omega, by omega⟩, by rw [sgn_at (by omega)]; rfl⟩
    | (simp only [cutS, sgn_at (show l.length - 2 < l.length by omega), sgn_at (show l.length - 1 < l.length by omega)]; rfl)
    | exact ⟨Nat.zero_le _, fun j hj => absurd hj (Nat.not_lt_zero j)⟩
    | exact ⟨⟨by omega, by omega⟩, by rw [ftext_at (by omega)]; rfl⟩
    | (rw [ftext_at (by omega)]; rfl)
    | exact ⟨by omega, some_more hI.2 (errI_eq h)⟩
    | exact ⟨⟨Nat.le_refl _, by first | trivial | rw [List.length_map], room128 (by rw [List.length_append, List.length_map, gotL_length (by omega)]; show _ + 1 ≤ _; omega)⟩, fun y hy => (by rw [List.mem_singleton.1 hy]; rfl)⟩
    | exact got_app (by omega)
    | (rw [List.length_append, List.length_map, gotL_length (by omega), gotL_length (by omega)]; rfl)
    | (rw [wrap64_id (by omega) (by omega)]; rfl)
    | (rw [List.length_map]; done)
    | rfl
    | trace_state

theorem eread_some (bs : List UInt8) (hl : bs.length < 2 ^ 63) (e : Evd) (h : rdE bs = some e) : LocalCall Try.prog 14 [.d (.sl (bs.map byteD))] [] [] (one [.d (eD e), .d (.int .i64 0)]) [] := by
  rcases rd_cases (bs := bs) with ⟨_, he⟩ | ⟨ts, _, _, he⟩ | ⟨ts, ht, hn, he⟩
  · rw [he] at h; cases h
  · rw [he] at h; cases h
  · rw [he] at h
    cases hs : rdSs ts with
    | none => rw [hs] at h; cases h
    | some l => rw [hs] at h; cases h; exact eread_in bs hl ts ht hn l hs
theorem evB_len {e : Evd} (h : fitL (evL e)) (hl : e.trunk.length ≤ 1000) : (evB e).length < 2 ^ 63 := by
  have h1 : ∀ v, v ∈ (evL e).map sgnB → v.length ≤ 2 ^ 22 := fun v hv => by
    obtain ⟨s, hs, rfl⟩ := List.mem_map.1 hv
    exact fit_len (h s hs)
  have h2 := flat_le h1
  have lv : (evL e).length = e.trunk.length + 2 := by simp [evL]
  have h3 := encT_len (fun v hv => Nat.lt_of_le_of_lt (h1 v hv) (by decide)) (show ((evL e).map sgnB).length < 2 ^ 64 by rw [List.length_map]; omega)
  rw [List.length_map] at h2 h3
  unfold evB
  omega

theorem eread_out (bs : List UInt8) (hl : bs.length < 2 ^ 63) (h : rdE bs = none) :
    LocalCall Try.prog 14 [.d (.sl (bs.map byteD))] [] [] (one [.d (eD e0), .d (.int .i64 3)]) [] := by
  have c1 := rTexts_any bs hl
  have key : LocalCall Try.prog 14 [.d (.sl (bs.map byteD))] [] [] (one [.d evZ, .d (.int .i64 3)]) [] := by
    rcases rd_cases (bs := bs) with ⟨ht, _⟩ | ⟨ts, ht, hn, _⟩ | ⟨ts, ht, hn, he⟩
    · rw [ht] at c1
      replace c1 : LocalCall Try.prog 34 [.d (.sl (bs.map byteD))] [] [] (one [.d (.sl []), .d (.int .i64 3)]) [] := c1
      refine vc_fn mixed Try.func14 rfl rfl [] (vc_chk rfl) ?_
      repeat' (first
          | ((with_reducible refine vc_chk ?_); first | decide +kernel | rfl)
          | (with_reducible refine vc_side0 ?_; rfl)
          | (with_reducible first
               | refine vc_true ?_ | refine vc_true2 ?_ | refine vc_side ?_ ?_ | refine vc_triv | refine vc_later ?_ | refine vc_caseT ?_ | refine vc_caseF ?_ | refine vc_cons ?_ | refine vc_nil ?_ ?_ | refine vc_seq ?_
                  | refine vc_region ?_ | refine vc_cond ?_ | refine vc_block ?_ | refine vc_retc ?_ | refine vc_exit ?_ | refine vc_skip ?_ | refine vc_scope ?_ | refine vc_label ?_ | refine vc_goto ?_ | refine vc_wkSl0
                  | refine vc_wkHp0 | refine vc_eqAVs0 | refine vc_preG0 | refine vc_wkSl ?_ ?_ | refine vc_wkHp ?_ ?_ | refine vc_eqAVs ?_ ?_ | refine vc_preG ?_ ?_ | refine vc_side0 ?_ | refine vc_pure c1 ?_ ?_ ?_
                  | refine vc_weakf [] ?_ ?_ ?_ | refine vc_and ?_ ?_ | refine vc_ret [] [] ?_)
          | ((with_reducible first | refine vc_caseD (fun h => ?_) (fun h => ?_) | refine vc_caseN (fun h => ?_) (fun h => ?_)) <;> try (exfalso; omega))
          | ((with_reducible refine vc_case (fun h => ?_) (fun h => ?_)) <;> (try simp only [Go.Sym.vs1, reduceCtorEq] at h) <;> try (exfalso; first | omega | (simp at h; done)))
          | (conv in Vc _ => arg 1; whnf
             first
              | (with_reducible refine vc_side0 ?_; rfl)
              | (with_reducible first
                  | refine vc_true ?_ | refine vc_true2 ?_ | refine vc_side ?_ ?_ | refine vc_triv | refine vc_later ?_ | refine vc_caseT ?_ | refine vc_caseF ?_ | refine vc_cons ?_ | refine vc_nil ?_ ?_ | refine vc_seq ?_
                     | refine vc_region ?_ | refine vc_cond ?_ | refine vc_block ?_ | refine vc_retc ?_ | refine vc_exit ?_ | refine vc_skip ?_ | refine vc_scope ?_ | refine vc_label ?_ | refine vc_goto ?_ | refine vc_wkSl0
                     | refine vc_wkHp0 | refine vc_eqAVs0 | refine vc_preG0 | refine vc_wkSl ?_ ?_ | refine vc_wkHp ?_ ?_ | refine vc_eqAVs ?_ ?_ | refine vc_preG ?_ ?_ | refine vc_side0 ?_ | refine vc_pure c1 ?_ ?_ ?_
                     | refine vc_weakf [] ?_ ?_ ?_ | refine vc_and ?_ ?_ | refine vc_ret [] [] ?_)
              | ((with_reducible first | refine vc_caseD (fun h => ?_) (fun h => ?_) | refine vc_caseN (fun h => ?_) (fun h => ?_)) <;> try (exfalso; omega))
              | ((with_reducible refine vc_case (fun h => ?_) (fun h => ?_)) <;> (try simp only [Go.Sym.vs1, reduceCtorEq] at h) <;> try (exfalso; first | omega | (simp at h; done)))))
      all_goals first
        | with_reducible rfl
        | exact ⟨trivial, trivial, trivial⟩
        | (exfalso; exact absurd rfl h)
        | rfl
        | trace_state
    · rw [ht] at c1
      replace c1 : LocalCall Try.prog 34 [.d (.sl (bs.map byteD))] [] [] (one [.d (.sl (ts.map tD)), .d (.int .i64 0)]) [] := c1
      have lt : (ts.map tD).length = ts.length := List.length_map _
      refine vc_fn mixed Try.func14 rfl rfl [] (vc_chk rfl) ?_
      repeat' (first
          | ((with_reducible refine vc_chk ?_); first | decide +kernel | rfl)
          | (with_reducible refine vc_side0 ?_; rfl)
          | (with_reducible first
               | refine vc_true ?_ | refine vc_true2 ?_ | refine vc_side ?_ ?_ | refine vc_triv | refine vc_later ?_ | refine vc_caseT ?_ | refine vc_caseF ?_ | refine vc_cons ?_ | refine vc_nil ?_ ?_ | refine vc_seq ?_
                  | refine vc_region ?_ | refine vc_cond ?_ | refine vc_block ?_ | refine vc_retc ?_ | refine vc_exit ?_ | refine vc_skip ?_ | refine vc_scope ?_ | refine vc_label ?_ | refine vc_goto ?_ | refine vc_wkSl0
                  | refine vc_wkHp0 | refine vc_eqAVs0 | refine vc_preG0 | refine vc_wkSl ?_ ?_ | refine vc_wkHp ?_ ?_ | refine vc_eqAVs ?_ ?_ | refine vc_preG ?_ ?_ | refine vc_side0 ?_ | refine vc_pure c1 ?_ ?_ ?_
                  | refine vc_weakf [] ?_ ?_ ?_ | refine vc_and ?_ ?_ | refine vc_ret [] [] ?_)
          | ((with_reducible first | refine vc_caseD (fun h => ?_) (fun h => ?_) | refine vc_caseN (fun h => ?_) (fun h => ?_)) <;> try (exfalso; omega))
          | ((with_reducible refine vc_case (fun h => ?_) (fun h => ?_)) <;> (try simp only [Go.Sym.vs1, reduceCtorEq] at h) <;> try (exfalso; first | omega | (simp at h; done)))
          | (conv in Vc _ => arg 1; whnf
             first
              | (with_reducible refine vc_side0 ?_; rfl)
              | (with_reducible first
                  | refine vc_true ?_ | refine vc_true2 ?_ | refine vc_side ?_ ?_ | refine vc_triv | refine vc_later ?_ | refine vc_caseT ?_ | refine vc_caseF ?_ | refine vc_cons ?_ | refine vc_nil ?_ ?_ | refine vc_seq ?_
                     | refine vc_region ?_ | refine vc_cond ?_ | refine vc_block ?_ | refine vc_retc ?_ | refine vc_exit ?_ | refine vc_skip ?_ | refine vc_scope ?_ | refine vc_label ?_ | refine vc_goto ?_ | refine vc_wkSl0
                     | refine vc_wkHp0 | refine vc_eqAVs0 | refine vc_preG0 | refine vc_wkSl ?_ ?_ | refine vc_wkHp ?_ ?_ | refine vc_eqAVs ?_ ?_ | refine vc_preG ?_ ?_ | refine vc_side0 ?_ | refine vc_pure c1 ?_ ?_ ?_
                     | refine vc_weakf [] ?_ ?_ ?_ | refine vc_and ?_ ?_ | refine vc_ret [] [] ?_)
              | ((with_reducible first | refine vc_caseD (fun h => ?_) (fun h => ?_) | refine vc_caseN (fun h => ?_) (fun h => ?_)) <;> try (exfalso; omega))
              | ((with_reducible refine vc_case (fun h => ?_) (fun h => ?_)) <;> (try simp only [Go.Sym.vs1, reduceCtorEq] at h) <;> try (exfalso; first | omega | (simp at h; done)))))
      all_goals first
        | with_reducible rfl
        | exact ⟨trivial, trivial, trivial⟩
        | (exfalso; omega)
        | rfl
        | trace_state
    · have lt : (ts.map tD).length = ts.length := List.length_map _
      rw [ht] at c1
      replace c1 : LocalCall Try.prog 34 [.d (.sl (bs.map byteD))] [] [] (one [.d (.sl (ts.map tD)), .d (.int .i64 0)]) [] := c1
      have c2 : ∀ i, i < ts.length → _ := fun i hi => sgn_ok ((ts.getD i []).map byteD) (ts.getD i []) rfl (frdT_len ht hi) (rdS (ts.getD i [])) rfl
      have hs : rdSs ts = none := by
        rw [he] at h
        cases hr : rdSs ts with
        | none => rfl
        | some l => rw [hr] at h; cases h
      refine vc_fn mixed Try.func14 rfl rfl [(500004, [9098006]), (13, [6])] (vc_chk rfl) ?_
      repeat' (first
          | ((with_reducible refine vc_chk ?_); first | decide +kernel | rfl)
          | (with_reducible refine vc_side0 ?_; rfl)
          | (with_reducible first
               | refine vc_true ?_ | refine vc_true2 ?_ | refine vc_side ?_ ?_ | refine vc_triv | refine vc_later ?_ | refine vc_caseT ?_ | refine vc_caseF ?_ | refine vc_cons ?_ | refine vc_nil ?_ ?_ | refine vc_seq ?_
                  | refine vc_region ?_ | refine vc_cond ?_ | refine vc_block ?_ | refine vc_retc ?_ | refine vc_exit ?_ | refine vc_skip ?_ | refine vc_scope ?_ | refine vc_label ?_ | refine vc_goto ?_ | refine vc_wkSl0
                  | refine vc_wkHp0 | refine vc_eqAVs0 | refine vc_preG0 | refine vc_wkSl ?_ ?_ | refine vc_wkHp ?_ ?_ | refine vc_eqAVs ?_ ?_ | refine vc_preG ?_ ?_ | refine vc_side0 ?_ | refine vc_pure c1 ?_ ?_ ?_
                  | refine vc_call [] (c2 i (by omega)) ?_
                  | refine vc_loopI 67 (fun (i : Nat) => [(2, .ptr 1000 []), (6, .sl 9 [] 98 0 (gotL ts i).length), (30, .d (.sl (ts.map tD))), (31, .d (.int .i64 ((ts.map tD).length : Nat))), (32, .d (.int .i64 (i : Int)))]) (fun i => [(1000, .var (.d evZ)), (9, .row 98 ((gotL ts i).map sD))]) (fun i => ts.length - i) (fun i => i ≤ ts.length ∧ ∀ j, j < i → (rdS (ts.getD j [])).isSome = true) 0 [] ?_ ?_ ?_ ?_ ?_ (fun i hI => ?_)
                  | refine vc_nextI (i + 1) [(9, 12012)] ?_ ?_ ?_ ?_ ?_ ?_ | refine vc_weakf [] ?_ ?_ ?_ | refine vc_and ?_ ?_ | refine vc_ret [] [] ?_)
          | ((with_reducible first | refine vc_caseD (fun h => ?_) (fun h => ?_) | refine vc_caseN (fun h => ?_) (fun h => ?_)) <;> try (exfalso; omega))
          | ((with_reducible refine vc_case (fun h => ?_) (fun h => ?_)) <;> (try simp only [Go.Sym.vs1, reduceCtorEq] at h) <;> try (exfalso; first | omega | (simp at h; done)))
          | (conv in Vc _ => arg 1; whnf
             first
              | (with_reducible refine vc_side0 ?_; rfl)
              | (with_reducible first
                  | refine vc_true ?_ | refine vc_true2 ?_ | refine vc_side ?_ ?_ | refine vc_triv | refine vc_later ?_ | refine vc_caseT ?_ | refine vc_caseF ?_ | refine vc_cons ?_ | refine vc_nil ?_ ?_ | refine vc_seq ?_
                     | refine vc_region ?_ | refine vc_cond ?_ | refine vc_block ?_ | refine vc_retc ?_ | refine vc_exit ?_ | refine vc_skip ?_ | refine vc_scope ?_ | refine vc_label ?_ | refine vc_goto ?_ | refine vc_wkSl0
                     | refine vc_wkHp0 | refine vc_eqAVs0 | refine vc_preG0 | refine vc_wkSl ?_ ?_ | refine vc_wkHp ?_ ?_ | refine vc_eqAVs ?_ ?_ | refine vc_preG ?_ ?_ | refine vc_side0 ?_ | refine vc_pure c1 ?_ ?_ ?_
                     | refine vc_call [] (c2 i (by omega)) ?_
                     | refine vc_loopI 67 (fun (i : Nat) => [(2, .ptr 1000 []), (6, .sl 9 [] 98 0 (gotL ts i).length), (30, .d (.sl (ts.map tD))), (31, .d (.int .i64 ((ts.map tD).length : Nat))), (32, .d (.int .i64 (i : Int)))]) (fun i => [(1000, .var (.d evZ)), (9, .row 98 ((gotL ts i).map sD))]) (fun i => ts.length - i) (fun i => i ≤ ts.length ∧ ∀ j, j < i → (rdS (ts.getD j [])).isSome = true) 0 [] ?_ ?_ ?_ ?_ ?_ (fun i hI => ?_)
                     | refine vc_nextI (i + 1) [(9, 12012)] ?_ ?_ ?_ ?_ ?_ ?_ | refine vc_weakf [] ?_ ?_ ?_ | refine vc_and ?_ ?_ | refine vc_ret [] [] ?_)
              | ((with_reducible first | refine vc_caseD (fun h => ?_) (fun h => ?_) | refine vc_caseN (fun h => ?_) (fun h => ?_)) <;> try (exfalso; omega))
              | ((with_reducible refine vc_case (fun h => ?_) (fun h => ?_)) <;> (try simp only [Go.Sym.vs1, reduceCtorEq] at h) <;> try (exfalso; first | omega | (simp at h; done)))))
      all_goals (try (exfalso; exact got_none hs hI.2 (by omega) hI.1))
      all_goals (try simp only [Nat.zero_add, Int.toNat_natCast, List.nil_append, List.drop_zero, List.take_length, Nat.sub_zero])
      all_goals first
        | with_reducible rfl
        | omega
        | exact ⟨trivial, trivial, trivial⟩
        | exact ⟨Nat.zero_le _, fun j hj => absurd hj (Nat.not_lt_zero j)⟩
        | exact ⟨⟨by omega, by omega⟩, by rw [ftext_at (by omega)]; rfl⟩
        | (rw [ftext_at (by omega)]; rfl)
        | exact ⟨by omega, some_more hI.2 (errI_eq h)⟩
        | exact ⟨⟨Nat.le_refl _, by first | trivial | rw [List.length_map], room128 (by rw [List.length_append, List.length_map, gotL_length (by omega)]; show _ + 1 ≤ _; omega)⟩, fun y hy => (by rw [List.mem_singleton.1 hy]; rfl)⟩
        | exact got_app (by omega)
        | (rw [List.length_append, List.length_map, gotL_length (by omega), gotL_length (by omega)]; rfl)
        | (rw [wrap64_id (by omega) (by omega)]; rfl)
        | (rw [errI_ne h]; rfl)
        | (rw [List.length_map]; done)
        | rfl
        | trace_state
  exact local_dn key

end Go.Proofs.Ytcdjheiccefcdaa
