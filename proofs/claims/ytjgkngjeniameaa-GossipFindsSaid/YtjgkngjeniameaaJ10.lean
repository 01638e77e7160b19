import Derived.Test.YtjgkngjeniameaaJ8
import Derived.Test.YtjgkngjeniameaaJ9
set_option linter.unusedSimpArgs false
set_option linter.unusedVariables false
namespace Go.Proofs.Ytjgkngjeniameaa
open Go.Sym
set_option maxRecDepth 10000
set_option maxHeartbeats 4000000
theorem prD_has {p : Pee} (h : p.has = true) : prD p = .st [digD p.pin, .sl (p.chain.map sD), .bool true, eD p.ev] := by show D.st _ = _; rw [h]
theorem rBlame_ok (p : Pee) (hw : wfPe p) (bs : List UInt8) (hb : bs.length < 2 ^ 63) : LocalCall Try.prog 17 [.d (prD p), .d (.sl (bs.map byteD))] [] [] (one [.d (prD (blamP p bs)), .d (.int .i64 (blamI p bs))]) [] := by
  unfold blamP blamT
  cases hr : rdE bs with
  | none =>
    have e3 : blamI p bs = 3 := by unfold blamI accV; rw [hr]
    have c1 := rEread_out bs hb hr
    rw [e3, decide_eq_false (by decide), cond_false]
    have key : LocalCall Try.prog 17 [.d (prD p), .d (.sl (bs.map byteD))] [] [] (one [.d prZ, .d (.int .i64 3)]) [] := by
      refine vc_fn mixed Try.func17 rfl rfl [] (vzH rfl) ?_
      repeat' (first | ((with_reducible refine vzH ?_); first | decide +kernel | rfl) | (with_reducible refine vzC ?_; rfl) | (with_reducible first | (refine vzZ ?_; constructor) | refine vzC ?_ | refine vc_pure c1 ?_ ?_ ?_ | refine vzB [] ?_ ?_ ?_ | refine vzD ?_ ?_ | refine vc_ret [] [] ?_) | ((with_reducible first | refine vzE (fun h => ?_) (fun h => ?_) | refine vzF (fun h => ?_) (fun h => ?_)) <;> try (exfalso; omega)) | ((with_reducible refine vzG (fun h => ?_) (fun h => ?_)) <;> (try simp only [Go.Sym.vs1, reduceCtorEq] at h) <;> try (exfalso; first | omega | (simp at h; done))) | ((conv in Vc _ => arg 1; whnf); first | (with_reducible refine vzC ?_; rfl) | (with_reducible first | (refine vzZ ?_; constructor) | refine vzC ?_ | refine vc_pure c1 ?_ ?_ ?_ | refine vzB [] ?_ ?_ ?_ | refine vzD ?_ ?_ | refine vc_ret [] [] ?_) | ((with_reducible first | refine vzE (fun h => ?_) (fun h => ?_) | refine vzF (fun h => ?_) (fun h => ?_)) <;> try (exfalso; omega)) | ((with_reducible refine vzG (fun h => ?_) (fun h => ?_)) <;> (try simp only [Go.Sym.vs1, reduceCtorEq] at h) <;> try (exfalso; first | omega | (simp at h; done)))))
      all_goals first
        | with_reducible rfl
        | trivial
        | exact ⟨trivial, trivial, trivial, trivial⟩
        | (exfalso; exact absurd rfl h)
        | rfl
        | trace_state
    exact local_dn key
  | some e =>
    obtain ⟨_, he, h63, _⟩ := rdE_some hr
    have c1 := rEread_some bs hb e hr
    have c2 := rEcheck_ok p.pin hw.pin e he (by omega)
    have ei : blamI p bs = chkE p.pin e := by unfold blamI accV; rw [hr]
    rw [ei]
    by_cases hc : chkE p.pin e = 0
    · rw [hc] at c2 ⊢
      rw [decide_eq_true rfl, cond_true]
      cases hh : p.has with
      | true =>
        refine vc_fn mixed Try.func17 rfl rfl [] (vzH rfl) ?_
        repeat' (first | ((with_reducible refine vzH ?_); first | decide +kernel | rfl) | (with_reducible refine vzC ?_; rfl) | (with_reducible first | (refine vzZ ?_; constructor) | refine vzC ?_ | refine vc_pure c1 ?_ ?_ ?_ | refine vc_pure c2 ?_ ?_ ?_ | refine vzB [] ?_ ?_ ?_ | refine vzD ?_ ?_ | refine vc_ret [] [] ?_) | ((with_reducible first | refine vzE (fun h => ?_) (fun h => ?_) | refine vzF (fun h => ?_) (fun h => ?_)) <;> try (exfalso; omega)) | ((with_reducible refine vzG (fun h => ?_) (fun h => ?_)) <;> (try simp only [Go.Sym.vs1, reduceCtorEq] at h) <;> try (exfalso; first | omega | (simp at h; done))) | ((conv in Vc _ => arg 1; whnf); first | (with_reducible refine vzC ?_; rfl) | (with_reducible first | (refine vzZ ?_; constructor) | refine vzC ?_ | refine vc_pure c1 ?_ ?_ ?_ | refine vc_pure c2 ?_ ?_ ?_ | refine vzB [] ?_ ?_ ?_ | refine vzD ?_ ?_ | refine vc_ret [] [] ?_) | ((with_reducible first | refine vzE (fun h => ?_) (fun h => ?_) | refine vzF (fun h => ?_) (fun h => ?_)) <;> try (exfalso; omega)) | ((with_reducible refine vzG (fun h => ?_) (fun h => ?_)) <;> (try simp only [Go.Sym.vs1, reduceCtorEq] at h) <;> try (exfalso; first | omega | (simp at h; done)))))
        all_goals first
          | with_reducible rfl
          | trivial
          | exact ⟨trivial, trivial, trivial, trivial⟩
          | exact (prD_has hh).symm
          | (exfalso; exact absurd (hh.symm.trans (show p.has = false by assumption)) (by decide))
          | (exfalso; exact absurd rfl h)
          | rfl
          | trace_state
      | false =>
        refine vc_fn mixed Try.func17 rfl rfl [] (vzH rfl) ?_
        repeat' (first | ((with_reducible refine vzH ?_); first | decide +kernel | rfl) | (with_reducible refine vzC ?_; rfl) | (with_reducible first | (refine vzZ ?_; constructor) | refine vzC ?_ | refine vc_pure c1 ?_ ?_ ?_ | refine vc_pure c2 ?_ ?_ ?_ | refine vzB [] ?_ ?_ ?_ | refine vzD ?_ ?_ | refine vc_ret [] [] ?_) | ((with_reducible first | refine vzE (fun h => ?_) (fun h => ?_) | refine vzF (fun h => ?_) (fun h => ?_)) <;> try (exfalso; omega)) | ((with_reducible refine vzG (fun h => ?_) (fun h => ?_)) <;> (try simp only [Go.Sym.vs1, reduceCtorEq] at h) <;> try (exfalso; first | omega | (simp at h; done))) | ((conv in Vc _ => arg 1; whnf); first | (with_reducible refine vzC ?_; rfl) | (with_reducible first | (refine vzZ ?_; constructor) | refine vzC ?_ | refine vc_pure c1 ?_ ?_ ?_ | refine vc_pure c2 ?_ ?_ ?_ | refine vzB [] ?_ ?_ ?_ | refine vzD ?_ ?_ | refine vc_ret [] [] ?_) | ((with_reducible first | refine vzE (fun h => ?_) (fun h => ?_) | refine vzF (fun h => ?_) (fun h => ?_)) <;> try (exfalso; omega)) | ((with_reducible refine vzG (fun h => ?_) (fun h => ?_)) <;> (try simp only [Go.Sym.vs1, reduceCtorEq] at h) <;> try (exfalso; first | omega | (simp at h; done)))))
        all_goals first
          | with_reducible rfl
          | trivial
          | exact ⟨trivial, trivial, trivial, trivial⟩
          | (exfalso; exact absurd (hh.symm.trans (show p.has = true by assumption)) (by decide))
          | (exfalso; exact absurd rfl h)
          | rfl
          | trace_state
    · rw [decide_eq_false hc, cond_false]
      have key : LocalCall Try.prog 17 [.d (prD p), .d (.sl (bs.map byteD))] [] [] (one [.d prZ, .d (.int .i64 (chkE p.pin e))]) [] := by
        refine vc_fn mixed Try.func17 rfl rfl [] (vzH rfl) ?_
        repeat' (first | ((with_reducible refine vzH ?_); first | decide +kernel | rfl) | (with_reducible refine vzC ?_; rfl) | (with_reducible first | (refine vzZ ?_; constructor) | refine vzC ?_ | refine vc_pure c1 ?_ ?_ ?_ | refine vc_pure c2 ?_ ?_ ?_ | refine vzB [] ?_ ?_ ?_ | refine vzD ?_ ?_ | refine vc_ret [] [] ?_) | ((with_reducible first | refine vzE (fun h => ?_) (fun h => ?_) | refine vzF (fun h => ?_) (fun h => ?_)) <;> try (exfalso; omega)) | ((with_reducible refine vzG (fun h => ?_) (fun h => ?_)) <;> (try simp only [Go.Sym.vs1, reduceCtorEq] at h) <;> try (exfalso; first | omega | (simp at h; done))) | ((conv in Vc _ => arg 1; whnf); first | (with_reducible refine vzC ?_; rfl) | (with_reducible first | (refine vzZ ?_; constructor) | refine vzC ?_ | refine vc_pure c1 ?_ ?_ ?_ | refine vc_pure c2 ?_ ?_ ?_ | refine vzB [] ?_ ?_ ?_ | refine vzD ?_ ?_ | refine vc_ret [] [] ?_) | ((with_reducible first | refine vzE (fun h => ?_) (fun h => ?_) | refine vzF (fun h => ?_) (fun h => ?_)) <;> try (exfalso; omega)) | ((with_reducible refine vzG (fun h => ?_) (fun h => ?_)) <;> (try simp only [Go.Sym.vs1, reduceCtorEq] at h) <;> try (exfalso; first | omega | (simp at h; done)))))
        all_goals first
          | with_reducible rfl
          | trivial
          | exact ⟨trivial, trivial, trivial, trivial⟩
          | (exfalso; exact absurd h hc)
          | (exfalso; exact hc h)
          | rfl
          | trace_state
      exact local_dn key
theorem rdL_cases {bs : List UInt8} : (rdTexts bs = none ∧ rdL bs = none) ∨ ∃ ts, rdTexts bs = some ts ∧ ts.length ≤ 4096 ∧ rdL bs = rdSs ts := by
  unfold rdL
  cases h : rdTexts bs with
  | none => exact .inl ⟨rfl, rfl⟩
  | some ts => exact .inr ⟨ts, rfl, (rdTexts_iff.1 h).2.1, rfl⟩
section
variable (bs : List UInt8) (hl : bs.length < 2 ^ 63)
include hl
theorem gread_some (l : List Sgn) (h : rdL bs = some l) : LocalCall Try.prog 25 [.d (.sl (bs.map byteD))] [] [] (one [.d (.sl (l.map sD)), .d (.int .i64 0)]) [] := by
  rcases rdL_cases (bs := bs) with ⟨_, he⟩ | ⟨ts, ht, hn, hs⟩
  · rw [he] at h; cases h
  rw [h] at hs
  have hs := hs.symm
  have lt : (ts.map tD).length = ts.length := List.length_map _
  have c1 := rTexts_any bs hl
  rw [ht] at c1
  replace c1 : LocalCall Try.prog 50 [.d (.sl (bs.map byteD))] [] [] (one [.d (.sl (ts.map tD)), .d (.int .i64 0)]) [] := c1
  have c2 : ∀ i, i < ts.length → _ := fun i hi => sgn_ok ((ts.getD i []).map byteD) (ts.getD i []) rfl (frdT_len ht hi) (rdS (ts.getD i [])) rfl
  have bad : ∀ i, i < ts.length → ¬ errI (rdS (ts.getD i [])) = 0 → False := fun i hi h => by
    have := rdSs_bad hi (errI_ne h)
    rw [hs] at this; cases this
  refine vc_fn mixed Try.func25 rfl rfl [(500004, [9098006])] (vzH rfl) ?_
  repeat' (first | ((with_reducible refine vzH ?_); first | decide +kernel | rfl) | (with_reducible refine vzC ?_; rfl) | (with_reducible first | (refine vzZ ?_; constructor) | refine vzC ?_ | refine vc_pure c1 ?_ ?_ ?_ | refine vc_call [] (c2 i (by omega)) ?_ | refine vc_loopI 39 (fun (i : Nat) => [(6, .sl 9 [] 98 0 ((gotL ts i).map sD).length), (19, .d (.sl (ts.map tD))), (20, .d (.int .i64 ((ts.map tD).length : Nat))), (21, .d (.int .i64 (i : Int)))]) (fun i => [(9, .row 98 ((gotL ts i).map sD))]) (fun i => ts.length - i) (fun i => i ≤ ts.length ∧ ∀ j, j < i → (rdS (ts.getD j [])).isSome = true) 0 [] ?_ ?_ ?_ ?_ ?_ (fun i hI => ?_) | refine vc_nextI (i + 1) [(9, 12012)] ?_ ?_ ?_ ?_ ?_ ?_ | refine vc_ret [true] [] ?_ | refine vzB [] ?_ ?_ ?_ | refine vzD ?_ ?_ | refine vc_ret [] [] ?_) | ((with_reducible first | refine vzE (fun h => ?_) (fun h => ?_) | refine vzF (fun h => ?_) (fun h => ?_)) <;> try (exfalso; omega)) | ((with_reducible refine vzG (fun h => ?_) (fun h => ?_)) <;> (try simp only [Go.Sym.vs1, reduceCtorEq] at h) <;> try (exfalso; first | omega | (simp at h; done))) | ((conv in Vc _ => arg 1; whnf); first | (with_reducible refine vzC ?_; rfl) | (with_reducible first | (refine vzZ ?_; constructor) | refine vzC ?_ | refine vc_pure c1 ?_ ?_ ?_ | refine vc_call [] (c2 i (by omega)) ?_ | refine vc_loopI 39 (fun (i : Nat) => [(6, .sl 9 [] 98 0 ((gotL ts i).map sD).length), (19, .d (.sl (ts.map tD))), (20, .d (.int .i64 ((ts.map tD).length : Nat))), (21, .d (.int .i64 (i : Int)))]) (fun i => [(9, .row 98 ((gotL ts i).map sD))]) (fun i => ts.length - i) (fun i => i ≤ ts.length ∧ ∀ j, j < i → (rdS (ts.getD j [])).isSome = true) 0 [] ?_ ?_ ?_ ?_ ?_ (fun i hI => ?_) | refine vc_nextI (i + 1) [(9, 12012)] ?_ ?_ ?_ ?_ ?_ ?_ | refine vc_ret [true] [] ?_ | refine vzB [] ?_ ?_ ?_ | refine vzD ?_ ?_ | refine vc_ret [] [] ?_) | ((with_reducible first | refine vzE (fun h => ?_) (fun h => ?_) | refine vzF (fun h => ?_) (fun h => ?_)) <;> try (exfalso; omega)) | ((with_reducible refine vzG (fun h => ?_) (fun h => ?_)) <;> (try simp only [Go.Sym.vs1, reduceCtorEq] at h) <;> try (exfalso; first | omega | (simp at h; done)))))
  all_goals (try (exfalso; exact bad i (by omega) h))
  all_goals (try simp only [Nat.zero_add, Int.toNat_natCast, List.nil_append, List.drop_zero, List.take_length, Nat.sub_zero])
  all_goals (try have gl : gotL ts i = l := got_all hs hI.2 (by omega) hI.1)
  all_goals (try simp only [gl, List.take_length])
  all_goals first
    | with_reducible rfl
    | omega
    | exact ⟨trivial, trivial, trivial⟩
    | exact ⟨Nat.zero_le _, fun j hj => absurd hj (Nat.not_lt_zero j)⟩
    | exact ⟨⟨by omega, by omega⟩, by rw [ftext_at (by omega)]; rfl⟩
    | (rw [ftext_at (by omega)]; rfl)
    | exact ⟨by omega, some_more hI.2 (errI_eq h)⟩
    | exact ⟨⟨Nat.le_refl _, by first | trivial | rfl, room128 (by rw [List.length_append, List.length_map, gotL_length (by omega)]; show _ + 1 ≤ _; omega)⟩, fun y hy => (by rw [List.mem_singleton.1 hy]; rfl)⟩
    | exact got_app (by omega)
    | (rw [List.length_append, List.length_map, List.length_map, gotL_length (by omega), gotL_length (by omega)]; rfl)
    | (rw [wrap64_id (by omega) (by omega)]; rfl)
    | exact ⟨Nat.le_refl _, trivial⟩
    | rfl
    | trace_state
theorem rGread_some (l : List Sgn) (h : rdL bs = some l) : LocalCall Try.prog 27 [.d (.sl (bs.map byteD))] [] [] (one [.d (.sl (l.map sD)), .d (.int .i64 0)]) [] := by
  rcases rdL_cases (bs := bs) with ⟨_, he⟩ | ⟨ts, ht, hn, hs⟩
  · rw [he] at h; cases h
  rw [h] at hs
  have hs := hs.symm
  have lt : (ts.map tD).length = ts.length := List.length_map _
  have c1 := refTexts_any bs hl
  rw [ht] at c1
  replace c1 : LocalCall Try.prog 52 [.d (.sl (bs.map byteD))] [] [] (one [.d (.sl (ts.map tD)), .d (.int .i64 0)]) [] := c1
  have c2 : ∀ i, i < ts.length → _ := fun i hi => rSgn_ok ((ts.getD i []).map byteD) (ts.getD i []) rfl (frdT_len ht hi) (rdS (ts.getD i [])) rfl
  have bad : ∀ i, i < ts.length → ¬ errI (rdS (ts.getD i [])) = 0 → False := fun i hi h => by
    have := rdSs_bad hi (errI_ne h)
    rw [hs] at this; cases this
  refine vc_fn mixed Try.func27 rfl rfl [(500004, [9098006])] (vzH rfl) ?_
  repeat' (first | ((with_reducible refine vzH ?_); first | decide +kernel | rfl) | (with_reducible refine vzC ?_; rfl) | (with_reducible first | (refine vzZ ?_; constructor) | refine vzC ?_ | refine vc_pure c1 ?_ ?_ ?_ | refine vc_call [] (c2 i (by omega)) ?_ | refine vc_loopI 40 (fun (i : Nat) => [(4, .d (.sl (ts.map tD))), (6, .sl 9 [] 98 0 ((gotL ts i).map sD).length), (7, .d (.int .i64 (i : Int)))]) (fun i => [(9, .row 98 ((gotL ts i).map sD))]) (fun i => ts.length - i) (fun i => i ≤ ts.length ∧ ∀ j, j < i → (rdS (ts.getD j [])).isSome = true) 0 [] ?_ ?_ ?_ ?_ ?_ (fun i hI => ?_) | refine vc_nextI (i + 1) [(9, 12012)] ?_ ?_ ?_ ?_ ?_ ?_ | refine vc_ret [true] [] ?_ | refine vzB [] ?_ ?_ ?_ | refine vzD ?_ ?_ | refine vc_ret [] [] ?_) | ((with_reducible first | refine vzE (fun h => ?_) (fun h => ?_) | refine vzF (fun h => ?_) (fun h => ?_)) <;> try (exfalso; omega)) | ((with_reducible refine vzG (fun h => ?_) (fun h => ?_)) <;> (try simp only [Go.Sym.vs1, reduceCtorEq] at h) <;> try (exfalso; first | omega | (simp at h; done))) | ((conv in Vc _ => arg 1; whnf); first | (with_reducible refine vzC ?_; rfl) | (with_reducible first | (refine vzZ ?_; constructor) | refine vzC ?_ | refine vc_pure c1 ?_ ?_ ?_ | refine vc_call [] (c2 i (by omega)) ?_ | refine vc_loopI 40 (fun (i : Nat) => [(4, .d (.sl (ts.map tD))), (6, .sl 9 [] 98 0 ((gotL ts i).map sD).length), (7, .d (.int .i64 (i : Int)))]) (fun i => [(9, .row 98 ((gotL ts i).map sD))]) (fun i => ts.length - i) (fun i => i ≤ ts.length ∧ ∀ j, j < i → (rdS (ts.getD j [])).isSome = true) 0 [] ?_ ?_ ?_ ?_ ?_ (fun i hI => ?_) | refine vc_nextI (i + 1) [(9, 12012)] ?_ ?_ ?_ ?_ ?_ ?_ | refine vc_ret [true] [] ?_ | refine vzB [] ?_ ?_ ?_ | refine vzD ?_ ?_ | refine vc_ret [] [] ?_) | ((with_reducible first | refine vzE (fun h => ?_) (fun h => ?_) | refine vzF (fun h => ?_) (fun h => ?_)) <;> try (exfalso; omega)) | ((with_reducible refine vzG (fun h => ?_) (fun h => ?_)) <;> (try simp only [Go.Sym.vs1, reduceCtorEq] at h) <;> try (exfalso; first | omega | (simp at h; done)))))
  all_goals (try (exfalso; exact bad i (by omega) h))
  all_goals (try simp only [Nat.zero_add, Int.toNat_natCast, List.nil_append, List.drop_zero, List.take_length, Nat.sub_zero])
  all_goals (try have gl : gotL ts i = l := got_all hs hI.2 (by omega) hI.1)
  all_goals (try simp only [gl, List.take_length])
  all_goals first
    | with_reducible rfl
    | omega
    | exact ⟨trivial, trivial, trivial⟩
    | exact ⟨Nat.zero_le _, fun j hj => absurd hj (Nat.not_lt_zero j)⟩
    | exact ⟨⟨by omega, by omega⟩, by rw [ftext_at (by omega)]; rfl⟩
    | (rw [ftext_at (by omega)]; rfl)
    | exact ⟨by omega, some_more hI.2 (errI_eq h)⟩
    | exact ⟨⟨Nat.le_refl _, by first | trivial | rfl, room128 (by rw [List.length_append, List.length_map, gotL_length (by omega)]; show _ + 1 ≤ _; omega)⟩, fun y hy => (by rw [List.mem_singleton.1 hy]; rfl)⟩
    | exact got_app (by omega)
    | (rw [List.length_append, List.length_map, List.length_map, gotL_length (by omega), gotL_length (by omega)]; rfl)
    | (rw [wrap64_id (by omega) (by omega)]; rfl)
    | exact ⟨Nat.le_refl _, trivial⟩
    | rfl
    | trace_state
theorem gread_out (h : rdL bs = none) : LocalCall Try.prog 25 [.d (.sl (bs.map byteD))] [] [] (one [.d (.sl (([] : List Sgn).map sD)), .d (.int .i64 3)]) [] := by
  have c1 := rTexts_any bs hl
  have key : LocalCall Try.prog 25 [.d (.sl (bs.map byteD))] [] [] (one [.d .nils, .d (.int .i64 3)]) [] := by
    rcases rdL_cases (bs := bs) with ⟨ht, _⟩ | ⟨ts, ht, hn, hs⟩
    · rw [ht] at c1
      replace c1 : LocalCall Try.prog 50 [.d (.sl (bs.map byteD))] [] [] (one [.d (.sl []), .d (.int .i64 3)]) [] := c1
      refine vc_fn mixed Try.func25 rfl rfl [] (vzH rfl) ?_
      repeat' (first | ((with_reducible refine vzH ?_); first | decide +kernel | rfl) | (with_reducible refine vzC ?_; rfl) | (with_reducible first | (refine vzZ ?_; constructor) | refine vzC ?_ | refine vc_pure c1 ?_ ?_ ?_ | refine vzB [] ?_ ?_ ?_ | refine vzD ?_ ?_ | refine vc_ret [] [] ?_) | ((with_reducible first | refine vzE (fun h => ?_) (fun h => ?_) | refine vzF (fun h => ?_) (fun h => ?_)) <;> try (exfalso; omega)) | ((with_reducible refine vzG (fun h => ?_) (fun h => ?_)) <;> (try simp only [Go.Sym.vs1, reduceCtorEq] at h) <;> try (exfalso; first | omega | (simp at h; done))) | ((conv in Vc _ => arg 1; whnf); first | (with_reducible refine vzC ?_; rfl) | (with_reducible first | (refine vzZ ?_; constructor) | refine vzC ?_ | refine vc_pure c1 ?_ ?_ ?_ | refine vzB [] ?_ ?_ ?_ | refine vzD ?_ ?_ | refine vc_ret [] [] ?_) | ((with_reducible first | refine vzE (fun h => ?_) (fun h => ?_) | refine vzF (fun h => ?_) (fun h => ?_)) <;> try (exfalso; omega)) | ((with_reducible refine vzG (fun h => ?_) (fun h => ?_)) <;> (try simp only [Go.Sym.vs1, reduceCtorEq] at h) <;> try (exfalso; first | omega | (simp at h; done)))))
      all_goals first
        | with_reducible rfl
        | exact ⟨trivial, trivial, trivial⟩
        | (exfalso; exact absurd rfl h)
        | rfl
        | trace_state
    · rw [h] at hs
      have hs := hs.symm
      have lt : (ts.map tD).length = ts.length := List.length_map _
      rw [ht] at c1
      replace c1 : LocalCall Try.prog 50 [.d (.sl (bs.map byteD))] [] [] (one [.d (.sl (ts.map tD)), .d (.int .i64 0)]) [] := c1
      have c2 : ∀ i, i < ts.length → _ := fun i hi => sgn_ok ((ts.getD i []).map byteD) (ts.getD i []) rfl (frdT_len ht hi) (rdS (ts.getD i [])) rfl
      refine vc_fn mixed Try.func25 rfl rfl [(500004, [9098006]), (13, [6])] (vzH rfl) ?_
      repeat' (first | ((with_reducible refine vzH ?_); first | decide +kernel | rfl) | (with_reducible refine vzC ?_; rfl) | (with_reducible first | (refine vzZ ?_; constructor) | refine vzC ?_ | refine vc_pure c1 ?_ ?_ ?_ | refine vc_call [] (c2 i (by omega)) ?_ | refine vc_loopI 39 (fun (i : Nat) => [(6, .sl 9 [] 98 0 ((gotL ts i).map sD).length), (19, .d (.sl (ts.map tD))), (20, .d (.int .i64 ((ts.map tD).length : Nat))), (21, .d (.int .i64 (i : Int)))]) (fun i => [(9, .row 98 ((gotL ts i).map sD))]) (fun i => ts.length - i) (fun i => i ≤ ts.length ∧ ∀ j, j < i → (rdS (ts.getD j [])).isSome = true) 0 [] ?_ ?_ ?_ ?_ ?_ (fun i hI => ?_) | refine vc_nextI (i + 1) [(9, 12012)] ?_ ?_ ?_ ?_ ?_ ?_ | refine vzB [] ?_ ?_ ?_ | refine vzD ?_ ?_ | refine vc_ret [] [] ?_) | ((with_reducible first | refine vzE (fun h => ?_) (fun h => ?_) | refine vzF (fun h => ?_) (fun h => ?_)) <;> try (exfalso; omega)) | ((with_reducible refine vzG (fun h => ?_) (fun h => ?_)) <;> (try simp only [Go.Sym.vs1, reduceCtorEq] at h) <;> try (exfalso; first | omega | (simp at h; done))) | ((conv in Vc _ => arg 1; whnf); first | (with_reducible refine vzC ?_; rfl) | (with_reducible first | (refine vzZ ?_; constructor) | refine vzC ?_ | refine vc_pure c1 ?_ ?_ ?_ | refine vc_call [] (c2 i (by omega)) ?_ | refine vc_loopI 39 (fun (i : Nat) => [(6, .sl 9 [] 98 0 ((gotL ts i).map sD).length), (19, .d (.sl (ts.map tD))), (20, .d (.int .i64 ((ts.map tD).length : Nat))), (21, .d (.int .i64 (i : Int)))]) (fun i => [(9, .row 98 ((gotL ts i).map sD))]) (fun i => ts.length - i) (fun i => i ≤ ts.length ∧ ∀ j, j < i → (rdS (ts.getD j [])).isSome = true) 0 [] ?_ ?_ ?_ ?_ ?_ (fun i hI => ?_) | refine vc_nextI (i + 1) [(9, 12012)] ?_ ?_ ?_ ?_ ?_ ?_ | refine vzB [] ?_ ?_ ?_ | refine vzD ?_ ?_ | refine vc_ret [] [] ?_) | ((with_reducible first | refine vzE (fun h => ?_) (fun h => ?_) | refine vzF (fun h => ?_) (fun h => ?_)) <;> try (exfalso; omega)) | ((with_reducible refine vzG (fun h => ?_) (fun h => ?_)) <;> (try simp only [Go.Sym.vs1, reduceCtorEq] at h) <;> try (exfalso; first | omega | (simp at h; done)))))
      all_goals (try (exfalso; exact got_none hs hI.2 (by omega) hI.1))
      all_goals (try simp only [Nat.zero_add, Int.toNat_natCast, List.nil_append, List.drop_zero, List.take_length, Nat.sub_zero])
      all_goals first
        | with_reducible rfl
        | omega
        | exact ⟨trivial, trivial, trivial⟩
        | exact ⟨Nat.zero_le _, fun j hj => absurd hj (Nat.not_lt_zero j)⟩
        | exact ⟨⟨by omega, by omega⟩, by rw [ftext_at (by omega)]; rfl⟩
        | (rw [ftext_at (by omega)]; rfl)
        | exact ⟨by omega, some_more hI.2 (errI_eq h)⟩
        | exact ⟨⟨Nat.le_refl _, by first | trivial | rfl, room128 (by rw [List.length_append, List.length_map, gotL_length (by omega)]; show _ + 1 ≤ _; omega)⟩, fun y hy => (by rw [List.mem_singleton.1 hy]; rfl)⟩
        | exact got_app (by omega)
        | (rw [List.length_append, List.length_map, List.length_map, gotL_length (by omega), gotL_length (by omega)]; rfl)
        | (rw [wrap64_id (by omega) (by omega)]; rfl)
        | (rw [errI_ne h]; rfl)
        | rfl
        | trace_state
  exact local_dn key
theorem rGread_out (h : rdL bs = none) : LocalCall Try.prog 27 [.d (.sl (bs.map byteD))] [] [] (one [.d (.sl (([] : List Sgn).map sD)), .d (.int .i64 3)]) [] := by
  have c1 := refTexts_any bs hl
  have key : LocalCall Try.prog 27 [.d (.sl (bs.map byteD))] [] [] (one [.d .nils, .d (.int .i64 3)]) [] := by
    rcases rdL_cases (bs := bs) with ⟨ht, _⟩ | ⟨ts, ht, hn, hs⟩
    · rw [ht] at c1
      replace c1 : LocalCall Try.prog 52 [.d (.sl (bs.map byteD))] [] [] (one [.d (.sl []), .d (.int .i64 3)]) [] := c1
      refine vc_fn mixed Try.func27 rfl rfl [] (vzH rfl) ?_
      repeat' (first | ((with_reducible refine vzH ?_); first | decide +kernel | rfl) | (with_reducible refine vzC ?_; rfl) | (with_reducible first | (refine vzZ ?_; constructor) | refine vzC ?_ | refine vc_pure c1 ?_ ?_ ?_ | refine vzB [] ?_ ?_ ?_ | refine vzD ?_ ?_ | refine vc_ret [] [] ?_) | ((with_reducible first | refine vzE (fun h => ?_) (fun h => ?_) | refine vzF (fun h => ?_) (fun h => ?_)) <;> try (exfalso; omega)) | ((with_reducible refine vzG (fun h => ?_) (fun h => ?_)) <;> (try simp only [Go.Sym.vs1, reduceCtorEq] at h) <;> try (exfalso; first | omega | (simp at h; done))) | ((conv in Vc _ => arg 1; whnf); first | (with_reducible refine vzC ?_; rfl) | (with_reducible first | (refine vzZ ?_; constructor) | refine vzC ?_ | refine vc_pure c1 ?_ ?_ ?_ | refine vzB [] ?_ ?_ ?_ | refine vzD ?_ ?_ | refine vc_ret [] [] ?_) | ((with_reducible first | refine vzE (fun h => ?_) (fun h => ?_) | refine vzF (fun h => ?_) (fun h => ?_)) <;> try (exfalso; omega)) | ((with_reducible refine vzG (fun h => ?_) (fun h => ?_)) <;> (try simp only [Go.Sym.vs1, reduceCtorEq] at h) <;> try (exfalso; first | omega | (simp at h; done)))))
      all_goals first
        | with_reducible rfl
        | exact ⟨trivial, trivial, trivial⟩
        | (exfalso; exact absurd rfl h)
        | rfl
        | trace_state
    · rw [h] at hs
      have hs := hs.symm
      have lt : (ts.map tD).length = ts.length := List.length_map _
      rw [ht] at c1
      replace c1 : LocalCall Try.prog 52 [.d (.sl (bs.map byteD))] [] [] (one [.d (.sl (ts.map tD)), .d (.int .i64 0)]) [] := c1
      have c2 : ∀ i, i < ts.length → _ := fun i hi => rSgn_ok ((ts.getD i []).map byteD) (ts.getD i []) rfl (frdT_len ht hi) (rdS (ts.getD i [])) rfl
      refine vc_fn mixed Try.func27 rfl rfl [(500004, [9098006]), (12, [6])] (vzH rfl) ?_
      repeat' (first | ((with_reducible refine vzH ?_); first | decide +kernel | rfl) | (with_reducible refine vzC ?_; rfl) | (with_reducible first | (refine vzZ ?_; constructor) | refine vzC ?_ | refine vc_pure c1 ?_ ?_ ?_ | refine vc_call [] (c2 i (by omega)) ?_ | refine vc_loopI 40 (fun (i : Nat) => [(4, .d (.sl (ts.map tD))), (6, .sl 9 [] 98 0 ((gotL ts i).map sD).length), (7, .d (.int .i64 (i : Int)))]) (fun i => [(9, .row 98 ((gotL ts i).map sD))]) (fun i => ts.length - i) (fun i => i ≤ ts.length ∧ ∀ j, j < i → (rdS (ts.getD j [])).isSome = true) 0 [] ?_ ?_ ?_ ?_ ?_ (fun i hI => ?_) | refine vc_nextI (i + 1) [(9, 12012)] ?_ ?_ ?_ ?_ ?_ ?_ | refine vzB [] ?_ ?_ ?_ | refine vzD ?_ ?_ | refine vc_ret [] [] ?_) | ((with_reducible first | refine vzE (fun h => ?_) (fun h => ?_) | refine vzF (fun h => ?_) (fun h => ?_)) <;> try (exfalso; omega)) | ((with_reducible refine vzG (fun h => ?_) (fun h => ?_)) <;> (try simp only [Go.Sym.vs1, reduceCtorEq] at h) <;> try (exfalso; first | omega | (simp at h; done))) | ((conv in Vc _ => arg 1; whnf); first | (with_reducible refine vzC ?_; rfl) | (with_reducible first | (refine vzZ ?_; constructor) | refine vzC ?_ | refine vc_pure c1 ?_ ?_ ?_ | refine vc_call [] (c2 i (by omega)) ?_ | refine vc_loopI 40 (fun (i : Nat) => [(4, .d (.sl (ts.map tD))), (6, .sl 9 [] 98 0 ((gotL ts i).map sD).length), (7, .d (.int .i64 (i : Int)))]) (fun i => [(9, .row 98 ((gotL ts i).map sD))]) (fun i => ts.length - i) (fun i => i ≤ ts.length ∧ ∀ j, j < i → (rdS (ts.getD j [])).isSome = true) 0 [] ?_ ?_ ?_ ?_ ?_ (fun i hI => ?_) | refine vc_nextI (i + 1) [(9, 12012)] ?_ ?_ ?_ ?_ ?_ ?_ | refine vzB [] ?_ ?_ ?_ | refine vzD ?_ ?_ | refine vc_ret [] [] ?_) | ((with_reducible first | refine vzE (fun h => ?_) (fun h => ?_) | refine vzF (fun h => ?_) (fun h => ?_)) <;> try (exfalso; omega)) | ((with_reducible refine vzG (fun h => ?_) (fun h => ?_)) <;> (try simp only [Go.Sym.vs1, reduceCtorEq] at h) <;> try (exfalso; first | omega | (simp at h; done)))))
      all_goals (try (exfalso; exact got_none hs hI.2 (by omega) hI.1))
      all_goals (try simp only [Nat.zero_add, Int.toNat_natCast, List.nil_append, List.drop_zero, List.take_length, Nat.sub_zero])
      all_goals first
        | with_reducible rfl
        | omega
        | exact ⟨trivial, trivial, trivial⟩
        | exact ⟨Nat.zero_le _, fun j hj => absurd hj (Nat.not_lt_zero j)⟩
        | exact ⟨⟨by omega, by omega⟩, by rw [ftext_at (by omega)]; rfl⟩
        | (rw [ftext_at (by omega)]; rfl)
        | exact ⟨by omega, some_more hI.2 (errI_eq h)⟩
        | exact ⟨⟨Nat.le_refl _, by first | trivial | rfl, room128 (by rw [List.length_append, List.length_map, gotL_length (by omega)]; show _ + 1 ≤ _; omega)⟩, fun y hy => (by rw [List.mem_singleton.1 hy]; rfl)⟩
        | exact got_app (by omega)
        | (rw [List.length_append, List.length_map, List.length_map, gotL_length (by omega), gotL_length (by omega)]; rfl)
        | (rw [wrap64_id (by omega) (by omega)]; rfl)
        | (rw [errI_ne h]; rfl)
        | rfl
        | trace_state
  exact local_dn key
end
end Go.Proofs.Ytjgkngjeniameaa
