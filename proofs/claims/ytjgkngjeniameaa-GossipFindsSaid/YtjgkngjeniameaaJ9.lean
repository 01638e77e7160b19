import Derived.Test.YtjgkngjeniameaaJ7
set_option linter.unusedSimpArgs false
set_option linter.unusedVariables false
namespace Go.Proofs.Ytjgkngjeniameaa
open Go.Sym
set_option maxRecDepth 10000
set_option maxHeartbeats 4000000
def sgW2 : Bool → Sgn → D
  | true, s => sD s
  | false, _ => sgZ
theorem gotL_at {ts : List (List UInt8)} {i k : Nat} (h : i < k) (hk : k ≤ ts.length) : (gotL ts k).getD i s0 = (rdS (ts.getD i [])).getD s0 := by
  unfold gotL
  rw [List.getD_eq_getElem?_getD, List.getElem?_map, List.getElem?_take_of_lt h, List.getElem?_eq_getElem (by omega), List.getD_eq_getElem?_getD, List.getElem?_eq_getElem (by omega)]; rfl
theorem rd_list {ts : List (List UInt8)} {l : List Sgn} (hs : rdSs ts = some l) : l = gotL ts ts.length := by
  have hb : ∀ j, j < ts.length → (rdS (ts.getD j [])).isSome = true := fun j hj => by
    cases hd : rdS (ts.getD j []) with
    | some x => rfl
    | none => have := rdSs_bad hj hd; rw [hs] at this; cases this
  exact Option.some.inj (hs.symm.trans (rdSs_all hb))
theorem rd_at {ts : List (List UInt8)} {l : List Sgn} (hs : rdSs ts = some l) {i : Nat} (hi : i < ts.length) : (rdS (ts.getD i [])).getD s0 = l.getD i s0 := by
  rw [rd_list hs, gotL_at hi (Nat.le_refl _)]
theorem fin_mk {ts : List (List UInt8)} {l : List Sgn} (hs : rdSs ts = some l) (ln : l.length = ts.length) {i : Nat} (h : ts.length ≤ i) : D.st [.sl ((gotL ts (min i (ts.length - 2))).map sD), sD (l.getD (ts.length - 2) s0), sD (l.getD (ts.length - 1) s0)] = eD (mkE l) := by
  have e : gotL ts (ts.length - 2) = l.take (ts.length - 2) := by
    rw [rd_list hs]
    unfold gotL
    rw [← List.map_take, List.take_take, Nat.min_eq_left (by omega)]
  rw [show min i (ts.length - 2) = ts.length - 2 by omega, e]
  unfold mkE
  rw [ln]
abbrev vA (ts : List (List UInt8)) (l : List Sgn) (nm i : Nat) : AV := .st [.sl nm [] 98 0 ((gotL ts (min i (ts.length - 2))).map sD).length, .d (sgW2 (decide (ts.length - 2 < i)) (l.getD (ts.length - 2) s0)), .d (sgW2 (decide (ts.length - 1 < i)) (l.getD (ts.length - 1) s0))]
theorem grow0 {ts : List (List UInt8)} {l : List Sgn} (h : 2 ≤ ts.length) : AV.st [.sl 9 [] 98 0 0, .d sgZ, .d sgZ] = vA ts l 9 0 := by
  unfold vA
  rw [decide_eq_false (by omega), decide_eq_false (by omega), show min 0 (ts.length - 2) = 0 by omega]; rfl
theorem grow1 {ts : List (List UInt8)} {l : List Sgn} {i : Nat} (h : i < ts.length - 2) (g : (rdS (ts.getD i [])).getD s0 = l.getD i s0) : AV.st [.sl 14016 [] 98 0 ((gotL ts (min i (ts.length - 2))).map sD ++ [sD (l.getD i s0)]).length, .d sgZ, .d sgZ] = vA ts l 14016 (i + 1) := by
  unfold vA
  rw [decide_eq_false (by omega), decide_eq_false (by omega), show min i (ts.length - 2) = i by omega, show min (i + 1) (ts.length - 2) = i + 1 by omega, ← g, got_app (by omega)]; rfl
theorem grow2 {ts : List (List UInt8)} {l : List Sgn} {i : Nat} (h : i < ts.length - 2) (g : (rdS (ts.getD i [])).getD s0 = l.getD i s0) : (gotL ts (min i (ts.length - 2))).map sD ++ [sD (l.getD i s0)] = (gotL ts (min (i + 1) (ts.length - 2))).map sD := by
  rw [show min i (ts.length - 2) = i by omega, show min (i + 1) (ts.length - 2) = i + 1 by omega, ← g, got_app (by omega)]
theorem grow3 {ts : List (List UInt8)} {l : List Sgn} {i : Nat} (h2 : 2 ≤ ts.length) (h : i = ts.length - 2) : AV.st [.sl 9 [] 98 0 ((gotL ts (min i (ts.length - 2))).map sD).length, .d (sD (l.getD i s0)), .d sgZ] = vA ts l 9 (i + 1) := by
  unfold vA
  rw [decide_eq_true (by omega), decide_eq_false (by omega), show min i (ts.length - 2) = ts.length - 2 by omega, show min (i + 1) (ts.length - 2) = ts.length - 2 by omega, h]; rfl
theorem grow4 {ts : List (List UInt8)} {l : List Sgn} {i : Nat} (h2 : 2 ≤ ts.length) (h : i = ts.length - 1) : AV.st [.sl 9 [] 98 0 ((gotL ts (min i (ts.length - 2))).map sD).length, .d (sD (l.getD (ts.length - 2) s0)), .d (sD (l.getD i s0))] = vA ts l 9 (i + 1) := by
  unfold vA
  rw [decide_eq_true (by omega), decide_eq_true (by omega), show min i (ts.length - 2) = ts.length - 2 by omega, show min (i + 1) (ts.length - 2) = ts.length - 2 by omega, h]; rfl
theorem grow5 {ts : List (List UInt8)} {i : Nat} (h2 : 2 ≤ ts.length) (h : ts.length - 2 ≤ i) : (gotL ts (min i (ts.length - 2))).map sD = (gotL ts (min (i + 1) (ts.length - 2))).map sD := by
  rw [show min i (ts.length - 2) = ts.length - 2 by omega, show min (i + 1) (ts.length - 2) = ts.length - 2 by omega]
theorem rEread_in (bs : List UInt8) (hl : bs.length < 2 ^ 63) (ts : List (List UInt8)) (ht : rdTexts bs = some ts) (hn : 2 ≤ ts.length ∧ ts.length ≤ 65) (l : List Sgn) (hs : rdSs ts = some l) :
    LocalCall Try.prog 39 [.d (.sl (bs.map byteD))] [] [] (one [.d (eD (mkE l)), .d (.int .i64 0)]) [] := by
  have lt : (ts.map tD).length = ts.length := List.length_map _
  have c1 := refTexts_any bs hl
  rw [ht] at c1
  replace c1 : LocalCall Try.prog 52 [.d (.sl (bs.map byteD))] [] [] (one [.d (.sl (ts.map tD)), .d (.int .i64 0)]) [] := c1
  have c2 : ∀ i, i < ts.length → _ := fun i hi => rSgn_ok ((ts.getD i []).map byteD) (ts.getD i []) rfl (frdT_len ht hi) (rdS (ts.getD i [])) rfl
  have bad : ∀ i, i < ts.length → ¬ errI (rdS (ts.getD i [])) = 0 → False := fun i hi h => by
    have := rdSs_bad hi (errI_ne h)
    rw [hs] at this; cases this
  have w1 : IntKind.i64.wrap (((ts.map tD).length : Int) - 2) = ((ts.length - 2 : Nat) : Int) := by rw [wrap64_id (by omega) (by omega)]; omega
  have ln : l.length = ts.length := by rw [(rdSs_some hs).1, List.length_map]
  refine vc_fn mixed Try.func39 rfl rfl [(500005, [1000000098000000009000006004]), (17, [500007])] (vzH rfl) ?_
  repeat' (first | ((with_reducible refine vzH ?_); first | decide +kernel | rfl) | (with_reducible refine vzC ?_; rfl) | (with_reducible first | (refine vzZ ?_; constructor) | refine vzC ?_ | refine vc_pure c1 ?_ ?_ ?_ | refine vc_call [] (c2 i (by omega)) ?_ | refine vc_loopI 65 (fun (i : Nat) => [(2, .ptr 1000 []), (4, .d (.sl (ts.map tD))), (6, .d (.int .i64 ((ts.map tD).length : Nat))), (7, .ptr 6004 []), (8, .d (.int .i64 (i : Int)))]) (fun i => [(1000, .var (.d evZ)), (6004, .var (.st [.sl 9 [] 98 0 ((gotL ts (min i (ts.length - 2))).map sD).length, .d (sgW2 (decide (ts.length - 2 < i)) (l.getD (ts.length - 2) s0)), .d (sgW2 (decide (ts.length - 1 < i)) (l.getD (ts.length - 1) s0))])), (9, .row 98 ((gotL ts (min i (ts.length - 2))).map sD))]) (fun i => ts.length - i) (fun i => i ≤ ts.length ∧ ∀ j, j < i → (rdS (ts.getD j [])).isSome = true) 0 [] ?_ ?_ ?_ ?_ ?_ (fun i hI => ?_) | refine vc_nextAt (i + 1) [(9, 14016)] 14016 (by with_unfolding_all rfl) ?_ ?_ ?_ ?_ ?_ ?_ | refine vc_nextI (i + 1) [] ?_ ?_ ?_ ?_ ?_ ?_ | refine vzB [] ?_ ?_ ?_ | refine vzD ?_ ?_ | refine vc_ret [] [] ?_) | ((with_reducible first | refine vzE (fun h => ?_) (fun h => ?_) | refine vzF (fun h => ?_) (fun h => ?_)) <;> try (exfalso; omega)) | ((with_reducible refine vzG (fun h => ?_) (fun h => ?_)) <;> (try simp only [Go.Sym.vs1, reduceCtorEq] at h) <;> try (exfalso; first | omega | (simp at h; done))) | ((conv in Vc _ => arg 1; whnf); first | (with_reducible refine vzC ?_; rfl) | (with_reducible first | (refine vzZ ?_; constructor) | refine vzC ?_ | refine vc_pure c1 ?_ ?_ ?_ | refine vc_call [] (c2 i (by omega)) ?_ | refine vc_loopI 65 (fun (i : Nat) => [(2, .ptr 1000 []), (4, .d (.sl (ts.map tD))), (6, .d (.int .i64 ((ts.map tD).length : Nat))), (7, .ptr 6004 []), (8, .d (.int .i64 (i : Int)))]) (fun i => [(1000, .var (.d evZ)), (6004, .var (.st [.sl 9 [] 98 0 ((gotL ts (min i (ts.length - 2))).map sD).length, .d (sgW2 (decide (ts.length - 2 < i)) (l.getD (ts.length - 2) s0)), .d (sgW2 (decide (ts.length - 1 < i)) (l.getD (ts.length - 1) s0))])), (9, .row 98 ((gotL ts (min i (ts.length - 2))).map sD))]) (fun i => ts.length - i) (fun i => i ≤ ts.length ∧ ∀ j, j < i → (rdS (ts.getD j [])).isSome = true) 0 [] ?_ ?_ ?_ ?_ ?_ (fun i hI => ?_) | refine vc_nextAt (i + 1) [(9, 14016)] 14016 (by with_unfolding_all rfl) ?_ ?_ ?_ ?_ ?_ ?_ | refine vc_nextI (i + 1) [] ?_ ?_ ?_ ?_ ?_ ?_ | refine vzB [] ?_ ?_ ?_ | refine vzD ?_ ?_ | refine vc_ret [] [] ?_) | ((with_reducible first | refine vzE (fun h => ?_) (fun h => ?_) | refine vzF (fun h => ?_) (fun h => ?_)) <;> try (exfalso; omega)) | ((with_reducible refine vzG (fun h => ?_) (fun h => ?_)) <;> (try simp only [Go.Sym.vs1, reduceCtorEq] at h) <;> try (exfalso; first | omega | (simp at h; done)))))
  all_goals (try (exfalso; exact bad i (by omega) h))
  all_goals (try (have hA : decide (ts.length - 2 < i) = false := decide_eq_false (by omega); have hB : decide (ts.length - 1 < i) = false := decide_eq_false (by omega); simp only [hA, hB, sgW2]))
  all_goals (try (have hA : decide (ts.length - 2 < i) = true := decide_eq_true (by omega); have hB : decide (ts.length - 1 < i) = false := decide_eq_false (by omega); simp only [hA, hB, sgW2]))
  all_goals (try (have hA : decide (ts.length - 2 < i) = true := decide_eq_true (by omega); have hB : decide (ts.length - 1 < i) = true := decide_eq_true (by omega); simp only [hA, hB, sgW2]))
  repeat' (first | ((with_reducible refine vzH ?_); first | decide +kernel | rfl) | (with_reducible refine vzC ?_; rfl) | (with_reducible first | (refine vzZ ?_; constructor) | refine vzC ?_ | refine vc_nextAt (i + 1) [(9, 14016)] 14016 (by with_unfolding_all rfl) ?_ ?_ ?_ ?_ ?_ ?_ | refine vc_nextI (i + 1) [] ?_ ?_ ?_ ?_ ?_ ?_ | refine vzB [] ?_ ?_ ?_ | refine vzD ?_ ?_ | refine vc_ret [] [] ?_) | ((with_reducible first | refine vzE (fun h => ?_) (fun h => ?_) | refine vzF (fun h => ?_) (fun h => ?_)) <;> try (exfalso; omega)) | ((with_reducible refine vzG (fun h => ?_) (fun h => ?_)) <;> (try simp only [Go.Sym.vs1, reduceCtorEq] at h) <;> try (exfalso; first | omega | (simp at h; done))) | ((conv in Vc _ => arg 1; whnf); first | (with_reducible refine vzC ?_; rfl) | (with_reducible first | (refine vzZ ?_; constructor) | refine vzC ?_ | refine vc_nextAt (i + 1) [(9, 14016)] 14016 (by with_unfolding_all rfl) ?_ ?_ ?_ ?_ ?_ ?_ | refine vc_nextI (i + 1) [] ?_ ?_ ?_ ?_ ?_ ?_ | refine vzB [] ?_ ?_ ?_ | refine vzD ?_ ?_ | refine vc_ret [] [] ?_) | ((with_reducible first | refine vzE (fun h => ?_) (fun h => ?_) | refine vzF (fun h => ?_) (fun h => ?_)) <;> try (exfalso; omega)) | ((with_reducible refine vzG (fun h => ?_) (fun h => ?_)) <;> (try simp only [Go.Sym.vs1, reduceCtorEq] at h) <;> try (exfalso; first | omega | (simp at h; done)))))
  all_goals (try have gi : (rdS (ts.getD i [])).getD s0 = l.getD i s0 := rd_at hs (by omega))
  all_goals (try simp only [gi])
  all_goals (try simp only [Nat.zero_add, Int.toNat_natCast, List.nil_append, List.drop_zero, List.take_length, Nat.sub_zero])
  all_goals first
    | with_reducible rfl
    | omega
    | exact ⟨trivial, trivial, trivial⟩
    | exact ⟨Nat.zero_le _, fun j hj => absurd hj (Nat.not_lt_zero j)⟩
    | exact ⟨⟨by omega, by omega⟩, by rw [ftext_at (by omega)]; rfl⟩
    | (rw [ftext_at (by omega)]; rfl)
    | exact ⟨by omega, some_more hI.2 (errI_eq (by assumption))⟩
    | exact ⟨⟨Nat.le_refl _, by first | trivial | rfl, room128 (by rw [List.length_append, List.length_map, gotL_length (by omega)]; show _ + 1 ≤ _; omega)⟩, fun y hy => (by rw [List.mem_singleton.1 hy]; rfl)⟩
    | (rw [wrap64_id (by omega) (by omega)]; rfl)
    | exact grow1 (by omega) gi
    | exact grow2 (by omega) gi
    | exact grow3 (by omega) (by omega)
    | exact grow4 (by omega) (by omega)
    | exact grow5 (by omega) (by omega)
    | exact grow0 (by omega)
    | exact fin_mk hs ln (by omega)
    | exact ⟨by omega, trivial, trivial, trivial⟩
    | rfl
    | trace_state
theorem rEread_bad (bs : List UInt8) (hl : bs.length < 2 ^ 63) (ts : List (List UInt8)) (ht : rdTexts bs = some ts) (hn : 2 ≤ ts.length ∧ ts.length ≤ 65) (hs : rdSs ts = none) :
    LocalCall Try.prog 39 [.d (.sl (bs.map byteD))] [] [] (one [.d evZ, .d (.int .i64 3)]) [] := by
  have lt : (ts.map tD).length = ts.length := List.length_map _
  have c1 := refTexts_any bs hl
  rw [ht] at c1
  replace c1 : LocalCall Try.prog 52 [.d (.sl (bs.map byteD))] [] [] (one [.d (.sl (ts.map tD)), .d (.int .i64 0)]) [] := c1
  have c2 : ∀ i, i < ts.length → _ := fun i hi => rSgn_ok ((ts.getD i []).map byteD) (ts.getD i []) rfl (frdT_len ht hi) (rdS (ts.getD i [])) rfl
  have w1 : IntKind.i64.wrap (((ts.map tD).length : Int) - 2) = ((ts.length - 2 : Nat) : Int) := by rw [wrap64_id (by omega) (by omega)]; omega
  have gt : ∀ i, i < ts.length → (rdS (ts.getD i [])).getD s0 = (gotL ts ts.length).getD i s0 := fun i hi => (gotL_at hi (Nat.le_refl _)).symm
  generalize gotL ts ts.length = l at gt
  refine vc_fn mixed Try.func39 rfl rfl [(500005, [1000000098000000009000006004]), (17, [500007])] (vzH rfl) ?_
  repeat' (first | ((with_reducible refine vzH ?_); first | decide +kernel | rfl) | (with_reducible refine vzC ?_; rfl) | (with_reducible first | (refine vzZ ?_; constructor) | refine vzC ?_ | refine vc_pure c1 ?_ ?_ ?_ | refine vc_call [] (c2 i (by omega)) ?_ | refine vc_loopI 65 (fun (i : Nat) => [(2, .ptr 1000 []), (4, .d (.sl (ts.map tD))), (6, .d (.int .i64 ((ts.map tD).length : Nat))), (7, .ptr 6004 []), (8, .d (.int .i64 (i : Int)))]) (fun i => [(1000, .var (.d evZ)), (6004, .var (.st [.sl 9 [] 98 0 ((gotL ts (min i (ts.length - 2))).map sD).length, .d (sgW2 (decide (ts.length - 2 < i)) (l.getD (ts.length - 2) s0)), .d (sgW2 (decide (ts.length - 1 < i)) (l.getD (ts.length - 1) s0))])), (9, .row 98 ((gotL ts (min i (ts.length - 2))).map sD))]) (fun i => ts.length - i) (fun i => i ≤ ts.length ∧ ∀ j, j < i → (rdS (ts.getD j [])).isSome = true) 0 [] ?_ ?_ ?_ ?_ ?_ (fun i hI => ?_) | refine vc_nextAt (i + 1) [(9, 14016)] 14016 (by with_unfolding_all rfl) ?_ ?_ ?_ ?_ ?_ ?_ | refine vc_nextI (i + 1) [] ?_ ?_ ?_ ?_ ?_ ?_ | refine vzB [] ?_ ?_ ?_ | refine vzD ?_ ?_ | refine vc_ret [] [] ?_) | ((with_reducible first | refine vzE (fun h => ?_) (fun h => ?_) | refine vzF (fun h => ?_) (fun h => ?_)) <;> try (exfalso; omega)) | ((with_reducible refine vzG (fun h => ?_) (fun h => ?_)) <;> (try simp only [Go.Sym.vs1, reduceCtorEq] at h) <;> try (exfalso; first | omega | (simp at h; done))) | ((conv in Vc _ => arg 1; whnf); first | (with_reducible refine vzC ?_; rfl) | (with_reducible first | (refine vzZ ?_; constructor) | refine vzC ?_ | refine vc_pure c1 ?_ ?_ ?_ | refine vc_call [] (c2 i (by omega)) ?_ | refine vc_loopI 65 (fun (i : Nat) => [(2, .ptr 1000 []), (4, .d (.sl (ts.map tD))), (6, .d (.int .i64 ((ts.map tD).length : Nat))), (7, .ptr 6004 []), (8, .d (.int .i64 (i : Int)))]) (fun i => [(1000, .var (.d evZ)), (6004, .var (.st [.sl 9 [] 98 0 ((gotL ts (min i (ts.length - 2))).map sD).length, .d (sgW2 (decide (ts.length - 2 < i)) (l.getD (ts.length - 2) s0)), .d (sgW2 (decide (ts.length - 1 < i)) (l.getD (ts.length - 1) s0))])), (9, .row 98 ((gotL ts (min i (ts.length - 2))).map sD))]) (fun i => ts.length - i) (fun i => i ≤ ts.length ∧ ∀ j, j < i → (rdS (ts.getD j [])).isSome = true) 0 [] ?_ ?_ ?_ ?_ ?_ (fun i hI => ?_) | refine vc_nextAt (i + 1) [(9, 14016)] 14016 (by with_unfolding_all rfl) ?_ ?_ ?_ ?_ ?_ ?_ | refine vc_nextI (i + 1) [] ?_ ?_ ?_ ?_ ?_ ?_ | refine vzB [] ?_ ?_ ?_ | refine vzD ?_ ?_ | refine vc_ret [] [] ?_) | ((with_reducible first | refine vzE (fun h => ?_) (fun h => ?_) | refine vzF (fun h => ?_) (fun h => ?_)) <;> try (exfalso; omega)) | ((with_reducible refine vzG (fun h => ?_) (fun h => ?_)) <;> (try simp only [Go.Sym.vs1, reduceCtorEq] at h) <;> try (exfalso; first | omega | (simp at h; done)))))
  all_goals (try (exfalso; exact got_none hs hI.2 (by omega) hI.1))
  all_goals (try (have hA : decide (ts.length - 2 < i) = false := decide_eq_false (by omega); have hB : decide (ts.length - 1 < i) = false := decide_eq_false (by omega); simp only [hA, hB, sgW2]))
  all_goals (try (have hA : decide (ts.length - 2 < i) = true := decide_eq_true (by omega); have hB : decide (ts.length - 1 < i) = false := decide_eq_false (by omega); simp only [hA, hB, sgW2]))
  all_goals (try (have hA : decide (ts.length - 2 < i) = true := decide_eq_true (by omega); have hB : decide (ts.length - 1 < i) = true := decide_eq_true (by omega); simp only [hA, hB, sgW2]))
  repeat' (first | ((with_reducible refine vzH ?_); first | decide +kernel | rfl) | (with_reducible refine vzC ?_; rfl) | (with_reducible first | (refine vzZ ?_; constructor) | refine vzC ?_ | refine vc_nextAt (i + 1) [(9, 14016)] 14016 (by with_unfolding_all rfl) ?_ ?_ ?_ ?_ ?_ ?_ | refine vc_nextI (i + 1) [] ?_ ?_ ?_ ?_ ?_ ?_ | refine vzB [] ?_ ?_ ?_ | refine vzD ?_ ?_ | refine vc_ret [] [] ?_) | ((with_reducible first | refine vzE (fun h => ?_) (fun h => ?_) | refine vzF (fun h => ?_) (fun h => ?_)) <;> try (exfalso; omega)) | ((with_reducible refine vzG (fun h => ?_) (fun h => ?_)) <;> (try simp only [Go.Sym.vs1, reduceCtorEq] at h) <;> try (exfalso; first | omega | (simp at h; done))) | ((conv in Vc _ => arg 1; whnf); first | (with_reducible refine vzC ?_; rfl) | (with_reducible first | (refine vzZ ?_; constructor) | refine vzC ?_ | refine vc_nextAt (i + 1) [(9, 14016)] 14016 (by with_unfolding_all rfl) ?_ ?_ ?_ ?_ ?_ ?_ | refine vc_nextI (i + 1) [] ?_ ?_ ?_ ?_ ?_ ?_ | refine vzB [] ?_ ?_ ?_ | refine vzD ?_ ?_ | refine vc_ret [] [] ?_) | ((with_reducible first | refine vzE (fun h => ?_) (fun h => ?_) | refine vzF (fun h => ?_) (fun h => ?_)) <;> try (exfalso; omega)) | ((with_reducible refine vzG (fun h => ?_) (fun h => ?_)) <;> (try simp only [Go.Sym.vs1, reduceCtorEq] at h) <;> try (exfalso; first | omega | (simp at h; done)))))
  all_goals (try have gi : (rdS (ts.getD i [])).getD s0 = l.getD i s0 := gt i (by omega))
  all_goals (try simp only [gi])
  all_goals (try simp only [Nat.zero_add, Int.toNat_natCast, List.nil_append, List.drop_zero, List.take_length, Nat.sub_zero])
  all_goals first
    | with_reducible rfl
    | omega
    | exact ⟨trivial, trivial, trivial⟩
    | exact ⟨Nat.zero_le _, fun j hj => absurd hj (Nat.not_lt_zero j)⟩
    | exact ⟨⟨by omega, by omega⟩, by rw [ftext_at (by omega)]; rfl⟩
    | (rw [ftext_at (by omega)]; rfl)
    | exact ⟨by omega, some_more hI.2 (errI_eq (by assumption))⟩
    | exact ⟨⟨Nat.le_refl _, by first | trivial | rfl, room128 (by rw [List.length_append, List.length_map, gotL_length (by omega)]; show _ + 1 ≤ _; omega)⟩, fun y hy => (by rw [List.mem_singleton.1 hy]; rfl)⟩
    | (rw [wrap64_id (by omega) (by omega)]; rfl)
    | exact grow1 (by omega) gi
    | exact grow2 (by omega) gi
    | exact grow3 (by omega) (by omega)
    | exact grow4 (by omega) (by omega)
    | exact grow5 (by omega) (by omega)
    | exact grow0 (by omega)
    | exact ⟨by omega, trivial, trivial, trivial⟩
    | rfl
    | trace_state
theorem rEread_some (bs : List UInt8) (hl : bs.length < 2 ^ 63) (e : Evd) (h : rdE bs = some e) : LocalCall Try.prog 39 [.d (.sl (bs.map byteD))] [] [] (one [.d (eD e), .d (.int .i64 0)]) [] := by
  rcases rd_cases (bs := bs) with ⟨_, he⟩ | ⟨ts, _, _, he⟩ | ⟨ts, ht, hn, he⟩
  · rw [he] at h; cases h
  · rw [he] at h; cases h
  · rw [he] at h
    cases hs : rdSs ts with
    | none => rw [hs] at h; cases h
    | some l => rw [hs] at h; cases h; exact rEread_in bs hl ts ht hn l hs
theorem rEread_out (bs : List UInt8) (hl : bs.length < 2 ^ 63) (h : rdE bs = none) : LocalCall Try.prog 39 [.d (.sl (bs.map byteD))] [] [] (one [.d (eD e0), .d (.int .i64 3)]) [] := by
  have c1 := refTexts_any bs hl
  have key : LocalCall Try.prog 39 [.d (.sl (bs.map byteD))] [] [] (one [.d evZ, .d (.int .i64 3)]) [] := by
    rcases rd_cases (bs := bs) with ⟨ht, _⟩ | ⟨ts, ht, hn, _⟩ | ⟨ts, ht, hn, he⟩
    · rw [ht] at c1
      replace c1 : LocalCall Try.prog 52 [.d (.sl (bs.map byteD))] [] [] (one [.d (.sl []), .d (.int .i64 3)]) [] := c1
      refine vc_fn mixed Try.func39 rfl rfl [] (vzH rfl) ?_
      repeat' (first | ((with_reducible refine vzH ?_); first | decide +kernel | rfl) | (with_reducible refine vzC ?_; rfl) | (with_reducible first | (refine vzZ ?_; constructor) | refine vzC ?_ | refine vc_pure c1 ?_ ?_ ?_ | refine vzB [] ?_ ?_ ?_ | refine vzD ?_ ?_ | refine vc_ret [] [] ?_) | ((with_reducible first | refine vzE (fun h => ?_) (fun h => ?_) | refine vzF (fun h => ?_) (fun h => ?_)) <;> try (exfalso; omega)) | ((with_reducible refine vzG (fun h => ?_) (fun h => ?_)) <;> (try simp only [Go.Sym.vs1, reduceCtorEq] at h) <;> try (exfalso; first | omega | (simp at h; done))) | ((conv in Vc _ => arg 1; whnf); first | (with_reducible refine vzC ?_; rfl) | (with_reducible first | (refine vzZ ?_; constructor) | refine vzC ?_ | refine vc_pure c1 ?_ ?_ ?_ | refine vzB [] ?_ ?_ ?_ | refine vzD ?_ ?_ | refine vc_ret [] [] ?_) | ((with_reducible first | refine vzE (fun h => ?_) (fun h => ?_) | refine vzF (fun h => ?_) (fun h => ?_)) <;> try (exfalso; omega)) | ((with_reducible refine vzG (fun h => ?_) (fun h => ?_)) <;> (try simp only [Go.Sym.vs1, reduceCtorEq] at h) <;> try (exfalso; first | omega | (simp at h; done)))))
      all_goals first
        | with_reducible rfl
        | exact ⟨trivial, trivial, trivial⟩
        | (exfalso; exact absurd rfl h)
        | rfl
        | trace_state
    · rw [ht] at c1
      replace c1 : LocalCall Try.prog 52 [.d (.sl (bs.map byteD))] [] [] (one [.d (.sl (ts.map tD)), .d (.int .i64 0)]) [] := c1
      have lt : (ts.map tD).length = ts.length := List.length_map _
      refine vc_fn mixed Try.func39 rfl rfl [] (vzH rfl) ?_
      repeat' (first | ((with_reducible refine vzH ?_); first | decide +kernel | rfl) | (with_reducible refine vzC ?_; rfl) | (with_reducible first | (refine vzZ ?_; constructor) | refine vzC ?_ | refine vc_pure c1 ?_ ?_ ?_ | refine vzB [] ?_ ?_ ?_ | refine vzD ?_ ?_ | refine vc_ret [] [] ?_) | ((with_reducible first | refine vzE (fun h => ?_) (fun h => ?_) | refine vzF (fun h => ?_) (fun h => ?_)) <;> try (exfalso; omega)) | ((with_reducible refine vzG (fun h => ?_) (fun h => ?_)) <;> (try simp only [Go.Sym.vs1, reduceCtorEq] at h) <;> try (exfalso; first | omega | (simp at h; done))) | ((conv in Vc _ => arg 1; whnf); first | (with_reducible refine vzC ?_; rfl) | (with_reducible first | (refine vzZ ?_; constructor) | refine vzC ?_ | refine vc_pure c1 ?_ ?_ ?_ | refine vzB [] ?_ ?_ ?_ | refine vzD ?_ ?_ | refine vc_ret [] [] ?_) | ((with_reducible first | refine vzE (fun h => ?_) (fun h => ?_) | refine vzF (fun h => ?_) (fun h => ?_)) <;> try (exfalso; omega)) | ((with_reducible refine vzG (fun h => ?_) (fun h => ?_)) <;> (try simp only [Go.Sym.vs1, reduceCtorEq] at h) <;> try (exfalso; first | omega | (simp at h; done)))))
      all_goals first
        | with_reducible rfl
        | exact ⟨trivial, trivial, trivial⟩
        | (exfalso; omega)
        | rfl
        | trace_state
    · have hs : rdSs ts = none := by
        rw [he] at h
        cases hr : rdSs ts with
        | none => rfl
        | some l => rw [hr] at h; cases h
      exact rEread_bad bs hl ts ht hn hs
  exact local_dn key
end Go.Proofs.Ytjgkngjeniameaa
