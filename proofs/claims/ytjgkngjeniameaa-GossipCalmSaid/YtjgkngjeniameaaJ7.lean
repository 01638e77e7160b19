import Derived.Test.YtjgkngjeniameaaJ3
import Derived.Test.YtjgkngjeniameaaJ4
import Derived.Test.YtjgkngjeniameaaJ6
set_option linter.unusedSimpArgs false
set_option linter.unusedVariables false
namespace Go.Proofs.Ytjgkngjeniameaa
open Go.Sym
set_option maxRecDepth 10000
set_option maxHeartbeats 8000000
theorem rSgn_ok (B : List D) (bs : List UInt8) (hB : B = bs.map byteD) (hl : bs.length < 2 ^ 63) (O : Option Sgn) (hO : toFin bs.length (rdSgn bs) = O) :
    LocalCall Try.prog 53 [.d (.sl B)] [] [] (one [.d (sD (O.getD s0)), .d (.int .i64 (errI O))]) [] := by
  have hlen : B.length = bs.length := by rw [hB]; simp
  have c0 := inNum_8 B bs hB 0 false (Nat.zero_le _) hl
  have l0 := inNs_le bs false 0 (Nat.zero_le _)
  have q0 := inNs_opt bs false 0
  generalize inNs bs false 0 = r0 at c0 l0 q0
  obtain ⟨x0, k0, b0⟩ := r0
  have c1 := inDig_8 B bs hB k0 b0 l0 hl
  have l1 := inGs_le bs b0 k0 l0
  have q1 := inGs_opt bs b0 k0
  generalize inGs bs b0 k0 = r1 at c1 l1 q1
  obtain ⟨x1, k1, b1⟩ := r1
  have c2 := inDig_8 B bs hB k1 b1 l1 hl
  have l2 := inGs_le bs b1 k1 l1
  have q2 := inGs_opt bs b1 k1
  generalize inGs bs b1 k1 = r2 at c2 l2 q2
  obtain ⟨x2, k2, b2⟩ := r2
  have c3 := inDig_8 B bs hB k2 b2 l2 hl
  have l3 := inGs_le bs b2 k2 l2
  have q3 := inGs_opt bs b2 k2
  generalize inGs bs b2 k2 = r3 at c3 l3 q3
  obtain ⟨x3, k3, b3⟩ := r3
  have c4 := inText_8 B bs hB k3 b3 l3 hl
  have l4 := inTs_le bs b3 k3 l3
  have q4 := inTs_opt bs b3 k3
  generalize inTs bs b3 k3 = r4 at c4 l4 q4
  obtain ⟨x4, k4, b4⟩ := r4
  have hR : rdSgn bs = bif b4 then none else some (⟨⟨x0, x1, x2, x3⟩, x4⟩, k4) := by
    cases b0 <;> cases b1 <;> cases b2 <;> cases b3 <;> cases b4 <;> simp only [optR, cond_true, cond_false, reduceCtorEq] at q0 q1 q2 q3 q4 <;> first
      | (simp [rdSgn, ← q0]; done)
      | (simp [rdSgn, ← q0, ← q1]; done)
      | (simp [rdSgn, ← q0, ← q1, ← q2]; done)
      | (simp [rdSgn, ← q0, ← q1, ← q2, ← q3]; done)
      | (simp [rdSgn, ← q0, ← q1, ← q2, ← q3, ← q4]; done)
  rw [hR] at hO
  generalize hq : (!b4 && decide (k4 = B.length)) = q
  have c6 := inDone_8 B k4 b4 q hq
  dsimp only at c0 c1 c2 c3 c4
  cases q
  · have : O = none := by
      rw [← hO]
      cases b4 with
      | true => rfl
      | false =>
        rw [cond_false]
        have : ¬ k4 = bs.length := fun hk => by rw [hk, hlen] at hq; simp at hq
        simp [toFin, this]
    subst this
    have key : LocalCall Try.prog 53 [.d (.sl B)] [] [] (one [.d (.st [.st [.int .u64 0, digD zero32, digD zero32, digD zero32], .nils]), .d (.int .i64 3)]) [] := by
      refine vc_fn mixed Try.func53 rfl rfl [] (vzH rfl) ?_
      repeat' (first | ((with_reducible refine vzH ?_); first | decide +kernel | rfl) | (with_reducible refine vzC ?_; rfl) | (with_reducible first | (refine vzZ ?_; constructor) | refine vzC ?_ | refine vc_callAt [] 2008 (by with_unfolding_all rfl) (c0) ?_ | refine vc_callAt [] 2008 (by with_unfolding_all rfl) (c1) ?_ | refine vc_callAt [] 2008 (by with_unfolding_all rfl) (c2) ?_ | refine vc_callAt [] 2008 (by with_unfolding_all rfl) (c3) ?_ | refine vc_callAt [] 2008 (by with_unfolding_all rfl) (c4) ?_ | refine vc_callAt [] 2008 (by with_unfolding_all rfl) (c6) ?_ | refine vzB [] ?_ ?_ ?_ | refine vzD ?_ ?_ | refine vc_ret [] [] ?_) | ((with_reducible first | refine vzE (fun h => ?_) (fun h => ?_) | refine vzF (fun h => ?_) (fun h => ?_)) <;> try (exfalso; omega)) | ((with_reducible refine vzG (fun h => ?_) (fun h => ?_)) <;> (try simp only [Go.Sym.vs1, reduceCtorEq] at h) <;> try (exfalso; first | omega | (simp at h; done))) | ((conv in Vc _ => arg 1; whnf); first | (with_reducible refine vzC ?_; rfl) | (with_reducible first | (refine vzZ ?_; constructor) | refine vzC ?_ | refine vc_callAt [] 2008 (by with_unfolding_all rfl) (c0) ?_ | refine vc_callAt [] 2008 (by with_unfolding_all rfl) (c1) ?_ | refine vc_callAt [] 2008 (by with_unfolding_all rfl) (c2) ?_ | refine vc_callAt [] 2008 (by with_unfolding_all rfl) (c3) ?_ | refine vc_callAt [] 2008 (by with_unfolding_all rfl) (c4) ?_ | refine vc_callAt [] 2008 (by with_unfolding_all rfl) (c6) ?_ | refine vzB [] ?_ ?_ ?_ | refine vzD ?_ ?_ | refine vc_ret [] [] ?_) | ((with_reducible first | refine vzE (fun h => ?_) (fun h => ?_) | refine vzF (fun h => ?_) (fun h => ?_)) <;> try (exfalso; omega)) | ((with_reducible refine vzG (fun h => ?_) (fun h => ?_)) <;> (try simp only [Go.Sym.vs1, reduceCtorEq] at h) <;> try (exfalso; first | omega | (simp at h; done)))))
      all_goals first | rfl | exact ⟨trivial, rfl⟩ | exact ⟨trivial, trivial⟩ | exact ⟨trivial, trivial, trivial⟩ | exact ⟨trivial, trivial, trivial, trivial⟩
    exact local_dn key
  · simp only [Bool.and_eq_true, Bool.not_eq_true', decide_eq_true_eq] at hq
    obtain ⟨rfl, hk⟩ := hq
    rw [cond_false] at hO
    have : O = some ⟨⟨x0, x1, x2, x3⟩, x4⟩ := by rw [← hO]; simp [toFin, hk, hlen]
    subst this
    refine vc_fn mixed Try.func53 rfl rfl [] (vzH rfl) ?_
    repeat' (first | ((with_reducible refine vzH ?_); first | decide +kernel | rfl) | (with_reducible refine vzC ?_; rfl) | (with_reducible first | (refine vzZ ?_; constructor) | refine vzC ?_ | refine vc_callAt [] 2008 (by with_unfolding_all rfl) (c0) ?_ | refine vc_callAt [] 2008 (by with_unfolding_all rfl) (c1) ?_ | refine vc_callAt [] 2008 (by with_unfolding_all rfl) (c2) ?_ | refine vc_callAt [] 2008 (by with_unfolding_all rfl) (c3) ?_ | refine vc_callAt [] 2008 (by with_unfolding_all rfl) (c4) ?_ | refine vc_callAt [] 2008 (by with_unfolding_all rfl) (c6) ?_ | refine vzB [] ?_ ?_ ?_ | refine vzD ?_ ?_ | refine vc_ret [] [] ?_) | ((with_reducible first | refine vzE (fun h => ?_) (fun h => ?_) | refine vzF (fun h => ?_) (fun h => ?_)) <;> try (exfalso; omega)) | ((with_reducible refine vzG (fun h => ?_) (fun h => ?_)) <;> (try simp only [Go.Sym.vs1, reduceCtorEq] at h) <;> try (exfalso; first | omega | (simp at h; done))) | ((conv in Vc _ => arg 1; whnf); first | (with_reducible refine vzC ?_; rfl) | (with_reducible first | (refine vzZ ?_; constructor) | refine vzC ?_ | refine vc_callAt [] 2008 (by with_unfolding_all rfl) (c0) ?_ | refine vc_callAt [] 2008 (by with_unfolding_all rfl) (c1) ?_ | refine vc_callAt [] 2008 (by with_unfolding_all rfl) (c2) ?_ | refine vc_callAt [] 2008 (by with_unfolding_all rfl) (c3) ?_ | refine vc_callAt [] 2008 (by with_unfolding_all rfl) (c4) ?_ | refine vc_callAt [] 2008 (by with_unfolding_all rfl) (c6) ?_ | refine vzB [] ?_ ?_ ?_ | refine vzD ?_ ?_ | refine vc_ret [] [] ?_) | ((with_reducible first | refine vzE (fun h => ?_) (fun h => ?_) | refine vzF (fun h => ?_) (fun h => ?_)) <;> try (exfalso; omega)) | ((with_reducible refine vzG (fun h => ?_) (fun h => ?_)) <;> (try simp only [Go.Sym.vs1, reduceCtorEq] at h) <;> try (exfalso; first | omega | (simp at h; done)))))
    all_goals first | rfl | exact ⟨trivial, rfl⟩ | exact ⟨trivial, trivial⟩ | exact ⟨trivial, trivial, trivial⟩ | exact ⟨trivial, trivial, trivial, trivial⟩
end Go.Proofs.Ytjgkngjeniameaa

namespace Go.Proofs.Ytjgkngjeniameaa
open Go.Sym
set_option maxRecDepth 10000
set_option maxHeartbeats 4000000
theorem frdT_len {bs : List UInt8} {ts : List (List UInt8)} (h : rdTexts bs = some ts) {i : Nat} (hi : i < ts.length) : (ts.getD i []).length < 2 ^ 63 :=
  Nat.lt_of_le_of_lt ((rdTexts_iff.1 h).2.2 _ (by rw [List.getD_eq_getElem?_getD, List.getElem?_eq_getElem hi]; simp)) (by decide)
theorem ftext_at {ts : List (List UInt8)} {i : Nat} (hi : i < ts.length) : (ts.map tD).getD i .nilp = tD (ts.getD i []) := (map_at (f := tD) (d := []) hi).1
theorem rd_cases {bs : List UInt8} : (rdTexts bs = none ∧ rdE bs = none) ∨ (∃ ts, rdTexts bs = some ts ∧ ¬ (2 ≤ ts.length ∧ ts.length ≤ 65) ∧ rdE bs = none) ∨ ∃ ts, rdTexts bs = some ts ∧ (2 ≤ ts.length ∧ ts.length ≤ 65) ∧ rdE bs = (rdSs ts).map mkE := by
  unfold rdE
  cases h : rdTexts bs with
  | none => exact .inl ⟨rfl, rfl⟩
  | some ts =>
    refine .inr ?_
    by_cases hn : 2 ≤ ts.length ∧ ts.length ≤ 65
    · exact .inr ⟨ts, rfl, hn, by rw [Option.bind_some, decide_eq_true hn]; rfl⟩
    · exact .inl ⟨ts, rfl, hn, by rw [Option.bind_some, decide_eq_false hn]; rfl⟩
theorem errI_ne {α : Type} {o : Option α} (h : ¬ errI o = 0) : o = none := by
  cases o with
  | none => rfl
  | some x => exact absurd (errI_some x) h
theorem errI_eq {α : Type} {o : Option α} (h : errI o = 0) : o.isSome = true := by
  cases o with
  | none => rw [errI_none] at h; cases h
  | some x => rfl
abbrev sgZ : D := .st [.st [.int .u64 0, digD zero32, digD zero32, digD zero32], .nils]
abbrev evZ : D := .st [.nils, sgZ, sgZ]
theorem got_all {ts : List (List UInt8)} {l : List Sgn} {i : Nat} (hs : rdSs ts = some l) (h : ∀ j, j < i → (rdS (ts.getD j [])).isSome = true) (h1 : ts.length ≤ i) (h2 : i ≤ ts.length) : gotL ts i = l := by
  obtain rfl : i = ts.length := by omega
  exact Option.some.inj ((rdSs_all h).symm.trans hs)
theorem got_none {ts : List (List UInt8)} {i : Nat} (hs : rdSs ts = none) (h : ∀ j, j < i → (rdS (ts.getD j [])).isSome = true) (h1 : ts.length ≤ i) (h2 : i ≤ ts.length) : False := by
  obtain rfl : i = ts.length := by omega
  have := (rdSs_all h).symm.trans hs
  cases this
theorem some_more {ts : List (List UInt8)} {i : Nat} (h : ∀ j, j < i → (rdS (ts.getD j [])).isSome = true) (hp : (rdS (ts.getD i [])).isSome = true) : ∀ j, j < i + 1 → (rdS (ts.getD j [])).isSome = true := fun j hj => by
  by_cases e : j = i
  · subst e; exact hp
  · exact h j (by omega)
theorem got_app {ts : List (List UInt8)} {i : Nat} (h : i < ts.length) : (gotL ts i).map sD ++ [sD ((rdS (ts.getD i [])).getD s0)] = (gotL ts (i + 1)).map sD := by
  rw [gotL_succ h, List.map_append]; rfl
theorem eread_in (bs : List UInt8) (hl : bs.length < 2 ^ 63) (ts : List (List UInt8)) (ht : rdTexts bs = some ts) (hn : 2 ≤ ts.length ∧ ts.length ≤ 65) (l : List Sgn) (hs : rdSs ts = some l) :
    LocalCall Try.prog 38 [.d (.sl (bs.map byteD))] [] [] (one [.d (eD (mkE l)), .d (.int .i64 0)]) [] := by
  have lt : (ts.map tD).length = ts.length := List.length_map _
  have c1 := rTexts_any bs hl
  rw [ht] at c1
  replace c1 : LocalCall Try.prog 50 [.d (.sl (bs.map byteD))] [] [] (one [.d (.sl (ts.map tD)), .d (.int .i64 0)]) [] := c1
  have c2 : ∀ i, i < ts.length → _ := fun i hi => sgn_ok ((ts.getD i []).map byteD) (ts.getD i []) rfl (frdT_len ht hi) (rdS (ts.getD i [])) rfl
  have ln : l.length = ts.length := by rw [(rdSs_some hs).1, List.length_map]
  have tk : List.take l.length (l.map sD) = l.map sD := List.take_of_length_le (by rw [List.length_map]; exact Nat.le_refl _)
  have w1 : IntKind.i64.wrap ((l.length : Int) - 2) = ((l.length - 2 : Nat) : Int) := by rw [wrap64_id (by omega) (by omega)]; omega
  have w2 : IntKind.i64.wrap (((l.length - 2 : Nat) : Int) + 1) = ((l.length - 1 : Nat) : Int) := by rw [wrap64_id (by omega) (by omega)]; omega
  have bad : ∀ i, i < ts.length → ¬ errI (rdS (ts.getD i [])) = 0 → False := fun i hi h => by
    have := rdSs_bad hi (errI_ne h)
    rw [hs] at this; cases this
  refine vc_fn mixed Try.func38 rfl rfl [(500004, [9098006]), (13, [6])] (vzH rfl) ?_
  repeat' (first | ((with_reducible refine vzH ?_); first | decide +kernel | rfl) | (with_reducible refine vzC ?_; rfl) | (with_reducible first | (refine vzZ ?_; constructor) | refine vzC ?_ | refine vc_pure c1 ?_ ?_ ?_ | refine vc_call [] (c2 i (by omega)) ?_ | refine vc_loopI 67 (fun (i : Nat) => [(2, .ptr 1000 []), (6, .sl 9 [] 98 0 (gotL ts i).length), (30, .d (.sl (ts.map tD))), (31, .d (.int .i64 ((ts.map tD).length : Nat))), (32, .d (.int .i64 (i : Int)))]) (fun i => [(1000, .var (.d evZ)), (9, .row 98 ((gotL ts i).map sD))]) (fun i => ts.length - i) (fun i => i ≤ ts.length ∧ ∀ j, j < i → (rdS (ts.getD j [])).isSome = true) 0 [] ?_ ?_ ?_ ?_ ?_ (fun i hI => ?_) | refine vc_nextI (i + 1) [(9, 12012)] ?_ ?_ ?_ ?_ ?_ ?_ | refine vzB [] ?_ ?_ ?_ | refine vzD ?_ ?_ | refine vc_ret [] [] ?_) | ((with_reducible first | refine vzE (fun h => ?_) (fun h => ?_) | refine vzF (fun h => ?_) (fun h => ?_)) <;> try (exfalso; omega)) | ((with_reducible refine vzG (fun h => ?_) (fun h => ?_)) <;> (try simp only [Go.Sym.vs1, reduceCtorEq] at h) <;> try (exfalso; first | omega | (simp at h; done))) | ((conv in Vc _ => arg 1; whnf); first | (with_reducible refine vzC ?_; rfl) | (with_reducible first | (refine vzZ ?_; constructor) | refine vzC ?_ | refine vc_pure c1 ?_ ?_ ?_ | refine vc_call [] (c2 i (by omega)) ?_ | refine vc_loopI 67 (fun (i : Nat) => [(2, .ptr 1000 []), (6, .sl 9 [] 98 0 (gotL ts i).length), (30, .d (.sl (ts.map tD))), (31, .d (.int .i64 ((ts.map tD).length : Nat))), (32, .d (.int .i64 (i : Int)))]) (fun i => [(1000, .var (.d evZ)), (9, .row 98 ((gotL ts i).map sD))]) (fun i => ts.length - i) (fun i => i ≤ ts.length ∧ ∀ j, j < i → (rdS (ts.getD j [])).isSome = true) 0 [] ?_ ?_ ?_ ?_ ?_ (fun i hI => ?_) | refine vc_nextI (i + 1) [(9, 12012)] ?_ ?_ ?_ ?_ ?_ ?_ | refine vzB [] ?_ ?_ ?_ | refine vzD ?_ ?_ | refine vc_ret [] [] ?_) | ((with_reducible first | refine vzE (fun h => ?_) (fun h => ?_) | refine vzF (fun h => ?_) (fun h => ?_)) <;> try (exfalso; omega)) | ((with_reducible refine vzG (fun h => ?_) (fun h => ?_)) <;> (try simp only [Go.Sym.vs1, reduceCtorEq] at h) <;> try (exfalso; first | omega | (simp at h; done)))))
  all_goals (try (exfalso; exact bad i (by omega) h))
  all_goals (try simp only [Nat.zero_add, Int.toNat_natCast, List.nil_append, List.drop_zero, List.take_length, Nat.sub_zero])
  all_goals (try have gl : gotL ts i = l := got_all hs hI.2 (by omega) hI.1)
  all_goals (try simp only [gl, tk, List.length_map, w1])
  all_goals (try simp only [w2, Int.toNat_natCast])
  all_goals first
    | with_reducible rfl
    | omega
    | exact ⟨trivial, trivial, trivial⟩
    | exact ⟨trivial, trivial, trivial, trivial⟩
    | exact ⟨⟨by omega, by omega, by omega, by omega⟩, sgn_size l⟩
    | exact ⟨⟨by omega, by omega⟩, by rw [sgn_at (by omega)]; rfl⟩
    | (simp only [cutS, sgn_at (show l.length - 2 < l.length by omega), sgn_at (show l.length - 1 < l.length by omega)]; rfl)
    | exact ⟨Nat.zero_le _, fun j hj => absurd hj (Nat.not_lt_zero j)⟩
    | exact ⟨⟨by omega, by omega⟩, by rw [ftext_at (by omega)]; rfl⟩
    | (rw [ftext_at (by omega)]; rfl)
    | exact ⟨by omega, some_more hI.2 (errI_eq h)⟩
    | exact ⟨⟨Nat.le_refl _, by first | trivial | rw [List.length_map], room128 (by rw [List.length_append, List.length_map, gotL_length (by omega)]; show _ + 1 ≤ _; omega)⟩, fun y hy => (by rw [List.mem_singleton.1 hy]; rfl)⟩
    | exact got_app (by omega)
    | (rw [List.length_append, List.length_map, gotL_length (by omega), gotL_length (by omega)]; rfl)
    | (rw [wrap64_id (by omega) (by omega)]; rfl)
    | (rw [List.length_map]; done)
    | rfl
    | trace_state
theorem eread_some (bs : List UInt8) (hl : bs.length < 2 ^ 63) (e : Evd) (h : rdE bs = some e) : LocalCall Try.prog 38 [.d (.sl (bs.map byteD))] [] [] (one [.d (eD e), .d (.int .i64 0)]) [] := by
  rcases rd_cases (bs := bs) with ⟨_, he⟩ | ⟨ts, _, _, he⟩ | ⟨ts, ht, hn, he⟩
  · rw [he] at h; cases h
  · rw [he] at h; cases h
  · rw [he] at h
    cases hs : rdSs ts with
    | none => rw [hs] at h; cases h
    | some l => rw [hs] at h; cases h; exact eread_in bs hl ts ht hn l hs
theorem evB_len {e : Evd} (h : fitL (evL e)) (hl : e.trunk.length ≤ 1000) : (evB e).length < 2 ^ 63 := by
  have h1 : ∀ v, v ∈ (evL e).map sgnB → v.length ≤ 2 ^ 22 := fun v hv => by
    obtain ⟨s, hs, rfl⟩ := List.mem_map.1 hv
    exact fit_len (h s hs)
  have h2 := flat_le h1
  have lv : (evL e).length = e.trunk.length + 2 := by simp [evL]
  have h3 := encT_len (fun v hv => Nat.lt_of_le_of_lt (h1 v hv) (by decide)) (show ((evL e).map sgnB).length < 2 ^ 64 by rw [List.length_map]; omega)
  rw [List.length_map] at h2 h3
  unfold evB
  omega
theorem eread_out (bs : List UInt8) (hl : bs.length < 2 ^ 63) (h : rdE bs = none) :
    LocalCall Try.prog 38 [.d (.sl (bs.map byteD))] [] [] (one [.d (eD e0), .d (.int .i64 3)]) [] := by
  have c1 := rTexts_any bs hl
  have key : LocalCall Try.prog 38 [.d (.sl (bs.map byteD))] [] [] (one [.d evZ, .d (.int .i64 3)]) [] := by
    rcases rd_cases (bs := bs) with ⟨ht, _⟩ | ⟨ts, ht, hn, _⟩ | ⟨ts, ht, hn, he⟩
    · rw [ht] at c1
      replace c1 : LocalCall Try.prog 50 [.d (.sl (bs.map byteD))] [] [] (one [.d (.sl []), .d (.int .i64 3)]) [] := c1
      refine vc_fn mixed Try.func38 rfl rfl [] (vzH rfl) ?_
      repeat' (first | ((with_reducible refine vzH ?_); first | decide +kernel | rfl) | (with_reducible refine vzC ?_; rfl) | (with_reducible first | (refine vzZ ?_; constructor) | refine vzC ?_ | refine vc_pure c1 ?_ ?_ ?_ | refine vzB [] ?_ ?_ ?_ | refine vzD ?_ ?_ | refine vc_ret [] [] ?_) | ((with_reducible first | refine vzE (fun h => ?_) (fun h => ?_) | refine vzF (fun h => ?_) (fun h => ?_)) <;> try (exfalso; omega)) | ((with_reducible refine vzG (fun h => ?_) (fun h => ?_)) <;> (try simp only [Go.Sym.vs1, reduceCtorEq] at h) <;> try (exfalso; first | omega | (simp at h; done))) | ((conv in Vc _ => arg 1; whnf); first | (with_reducible refine vzC ?_; rfl) | (with_reducible first | (refine vzZ ?_; constructor) | refine vzC ?_ | refine vc_pure c1 ?_ ?_ ?_ | refine vzB [] ?_ ?_ ?_ | refine vzD ?_ ?_ | refine vc_ret [] [] ?_) | ((with_reducible first | refine vzE (fun h => ?_) (fun h => ?_) | refine vzF (fun h => ?_) (fun h => ?_)) <;> try (exfalso; omega)) | ((with_reducible refine vzG (fun h => ?_) (fun h => ?_)) <;> (try simp only [Go.Sym.vs1, reduceCtorEq] at h) <;> try (exfalso; first | omega | (simp at h; done)))))
      all_goals first
        | with_reducible rfl
        | exact ⟨trivial, trivial, trivial⟩
        | (exfalso; exact absurd rfl h)
        | rfl
        | trace_state
    · rw [ht] at c1
      replace c1 : LocalCall Try.prog 50 [.d (.sl (bs.map byteD))] [] [] (one [.d (.sl (ts.map tD)), .d (.int .i64 0)]) [] := c1
      have lt : (ts.map tD).length = ts.length := List.length_map _
      refine vc_fn mixed Try.func38 rfl rfl [] (vzH rfl) ?_
      repeat' (first | ((with_reducible refine vzH ?_); first | decide +kernel | rfl) | (with_reducible refine vzC ?_; rfl) | (with_reducible first | (refine vzZ ?_; constructor) | refine vzC ?_ | refine vc_pure c1 ?_ ?_ ?_ | refine vzB [] ?_ ?_ ?_ | refine vzD ?_ ?_ | refine vc_ret [] [] ?_) | ((with_reducible first | refine vzE (fun h => ?_) (fun h => ?_) | refine vzF (fun h => ?_) (fun h => ?_)) <;> try (exfalso; omega)) | ((with_reducible refine vzG (fun h => ?_) (fun h => ?_)) <;> (try simp only [Go.Sym.vs1, reduceCtorEq] at h) <;> try (exfalso; first | omega | (simp at h; done))) | ((conv in Vc _ => arg 1; whnf); first | (with_reducible refine vzC ?_; rfl) | (with_reducible first | (refine vzZ ?_; constructor) | refine vzC ?_ | refine vc_pure c1 ?_ ?_ ?_ | refine vzB [] ?_ ?_ ?_ | refine vzD ?_ ?_ | refine vc_ret [] [] ?_) | ((with_reducible first | refine vzE (fun h => ?_) (fun h => ?_) | refine vzF (fun h => ?_) (fun h => ?_)) <;> try (exfalso; omega)) | ((with_reducible refine vzG (fun h => ?_) (fun h => ?_)) <;> (try simp only [Go.Sym.vs1, reduceCtorEq] at h) <;> try (exfalso; first | omega | (simp at h; done)))))
      all_goals first
        | with_reducible rfl
        | exact ⟨trivial, trivial, trivial⟩
        | (exfalso; omega)
        | rfl
        | trace_state
    · have lt : (ts.map tD).length = ts.length := List.length_map _
      rw [ht] at c1
      replace c1 : LocalCall Try.prog 50 [.d (.sl (bs.map byteD))] [] [] (one [.d (.sl (ts.map tD)), .d (.int .i64 0)]) [] := c1
      have c2 : ∀ i, i < ts.length → _ := fun i hi => sgn_ok ((ts.getD i []).map byteD) (ts.getD i []) rfl (frdT_len ht hi) (rdS (ts.getD i [])) rfl
      have hs : rdSs ts = none := by
        rw [he] at h
        cases hr : rdSs ts with
        | none => rfl
        | some l => rw [hr] at h; cases h
      refine vc_fn mixed Try.func38 rfl rfl [(500004, [9098006]), (13, [6])] (vzH rfl) ?_
      repeat' (first | ((with_reducible refine vzH ?_); first | decide +kernel | rfl) | (with_reducible refine vzC ?_; rfl) | (with_reducible first | (refine vzZ ?_; constructor) | refine vzC ?_ | refine vc_pure c1 ?_ ?_ ?_ | refine vc_call [] (c2 i (by omega)) ?_ | refine vc_loopI 67 (fun (i : Nat) => [(2, .ptr 1000 []), (6, .sl 9 [] 98 0 (gotL ts i).length), (30, .d (.sl (ts.map tD))), (31, .d (.int .i64 ((ts.map tD).length : Nat))), (32, .d (.int .i64 (i : Int)))]) (fun i => [(1000, .var (.d evZ)), (9, .row 98 ((gotL ts i).map sD))]) (fun i => ts.length - i) (fun i => i ≤ ts.length ∧ ∀ j, j < i → (rdS (ts.getD j [])).isSome = true) 0 [] ?_ ?_ ?_ ?_ ?_ (fun i hI => ?_) | refine vc_nextI (i + 1) [(9, 12012)] ?_ ?_ ?_ ?_ ?_ ?_ | refine vzB [] ?_ ?_ ?_ | refine vzD ?_ ?_ | refine vc_ret [] [] ?_) | ((with_reducible first | refine vzE (fun h => ?_) (fun h => ?_) | refine vzF (fun h => ?_) (fun h => ?_)) <;> try (exfalso; omega)) | ((with_reducible refine vzG (fun h => ?_) (fun h => ?_)) <;> (try simp only [Go.Sym.vs1, reduceCtorEq] at h) <;> try (exfalso; first | omega | (simp at h; done))) | ((conv in Vc _ => arg 1; whnf); first | (with_reducible refine vzC ?_; rfl) | (with_reducible first | (refine vzZ ?_; constructor) | refine vzC ?_ | refine vc_pure c1 ?_ ?_ ?_ | refine vc_call [] (c2 i (by omega)) ?_ | refine vc_loopI 67 (fun (i : Nat) => [(2, .ptr 1000 []), (6, .sl 9 [] 98 0 (gotL ts i).length), (30, .d (.sl (ts.map tD))), (31, .d (.int .i64 ((ts.map tD).length : Nat))), (32, .d (.int .i64 (i : Int)))]) (fun i => [(1000, .var (.d evZ)), (9, .row 98 ((gotL ts i).map sD))]) (fun i => ts.length - i) (fun i => i ≤ ts.length ∧ ∀ j, j < i → (rdS (ts.getD j [])).isSome = true) 0 [] ?_ ?_ ?_ ?_ ?_ (fun i hI => ?_) | refine vc_nextI (i + 1) [(9, 12012)] ?_ ?_ ?_ ?_ ?_ ?_ | refine vzB [] ?_ ?_ ?_ | refine vzD ?_ ?_ | refine vc_ret [] [] ?_) | ((with_reducible first | refine vzE (fun h => ?_) (fun h => ?_) | refine vzF (fun h => ?_) (fun h => ?_)) <;> try (exfalso; omega)) | ((with_reducible refine vzG (fun h => ?_) (fun h => ?_)) <;> (try simp only [Go.Sym.vs1, reduceCtorEq] at h) <;> try (exfalso; first | omega | (simp at h; done)))))
      all_goals (try (exfalso; exact got_none hs hI.2 (by omega) hI.1))
      all_goals (try simp only [Nat.zero_add, Int.toNat_natCast, List.nil_append, List.drop_zero, List.take_length, Nat.sub_zero])
      all_goals first
        | with_reducible rfl
        | omega
        | exact ⟨trivial, trivial, trivial⟩
        | exact ⟨Nat.zero_le _, fun j hj => absurd hj (Nat.not_lt_zero j)⟩
        | exact ⟨⟨by omega, by omega⟩, by rw [ftext_at (by omega)]; rfl⟩
        | (rw [ftext_at (by omega)]; rfl)
        | exact ⟨by omega, some_more hI.2 (errI_eq h)⟩
        | exact ⟨⟨Nat.le_refl _, by first | trivial | rw [List.length_map], room128 (by rw [List.length_append, List.length_map, gotL_length (by omega)]; show _ + 1 ≤ _; omega)⟩, fun y hy => (by rw [List.mem_singleton.1 hy]; rfl)⟩
        | exact got_app (by omega)
        | (rw [List.length_append, List.length_map, gotL_length (by omega), gotL_length (by omega)]; rfl)
        | (rw [wrap64_id (by omega) (by omega)]; rfl)
        | (rw [errI_ne h]; rfl)
        | (rw [List.length_map]; done)
        | rfl
        | trace_state
  exact local_dn key
end Go.Proofs.Ytjgkngjeniameaa

namespace Go.Proofs.Ytjgkngjeniameaa
open Go.Sym
set_option maxRecDepth 10000
set_option maxHeartbeats 4000000
theorem read_nil : rdE [] = none := by decide +kernel
section
variable (pin : List UInt8) (hp : pin.length = 32) (e : Evd) (hw : wfE e)
include hp hw
end
end Go.Proofs.Ytjgkngjeniameaa

namespace Go.Proofs.Ytjgkngjeniameaa
open Go.Sym
set_option maxRecDepth 10000
set_option maxHeartbeats 4000000
def accV (pin bs : List UInt8) : Int := match rdE bs with | some e => chkE pin e | none => 3
theorem fit_of {e : Evd} (hw : wfE e) (h : ∀ s, s ∈ evL e → s.sig.length ≤ 1048576) : fitL (evL e) := fun s hs => ⟨evL_wf hw s hs, Nat.le_trans (h s hs) (by decide)⟩
theorem eaccept_ok (pin : List UInt8) (hp : pin.length = 32) (bs : List UInt8) (hl : bs.length < 2 ^ 63) : LocalCall Try.prog 37 [.d (digD pin), .d (.sl (bs.map byteD))] [] [] (one [.d (.int .i64 (accV pin bs))]) [] := by
  unfold accV
  cases h : rdE bs with
  | none =>
    have c1 := eread_out bs hl h
    refine vc_fn mixed Try.func37 rfl rfl [] (vzH rfl) ?_
    repeat' (first | ((with_reducible refine vzH ?_); first | decide +kernel | rfl) | (with_reducible refine vzC ?_; rfl) | (with_reducible first | (refine vzZ ?_; constructor) | refine vzC ?_ | refine vc_pure c1 ?_ ?_ ?_ | refine vzB [] ?_ ?_ ?_ | refine vzD ?_ ?_ | refine vc_ret [] [] ?_) | ((with_reducible first | refine vzE (fun h => ?_) (fun h => ?_) | refine vzF (fun h => ?_) (fun h => ?_)) <;> try (exfalso; omega)) | ((with_reducible refine vzG (fun h => ?_) (fun h => ?_)) <;> (try simp only [Go.Sym.vs1, reduceCtorEq] at h) <;> try (exfalso; first | omega | (simp at h; done))) | ((conv in Vc _ => arg 1; whnf); first | (with_reducible refine vzC ?_; rfl) | (with_reducible first | (refine vzZ ?_; constructor) | refine vzC ?_ | refine vc_pure c1 ?_ ?_ ?_ | refine vzB [] ?_ ?_ ?_ | refine vzD ?_ ?_ | refine vc_ret [] [] ?_) | ((with_reducible first | refine vzE (fun h => ?_) (fun h => ?_) | refine vzF (fun h => ?_) (fun h => ?_)) <;> try (exfalso; omega)) | ((with_reducible refine vzG (fun h => ?_) (fun h => ?_)) <;> (try simp only [Go.Sym.vs1, reduceCtorEq] at h) <;> try (exfalso; first | omega | (simp at h; done)))))
    all_goals first
      | with_reducible rfl
      | omega
      | exact ⟨trivial, trivial⟩
      | exact ⟨trivial, trivial, trivial⟩
      | exact ⟨trivial, trivial, trivial, trivial⟩
      | exact ⟨⟨by decide, by decide, by decide⟩, trivial⟩
      | exact ⟨Nat.le_of_eq (Nat.zero_add _), trivial⟩
      | exact ⟨Nat.le_refl _, trivial, trivial⟩
      | (rw [wrap64_id (by omega) (by omega)]; rfl)
      | rfl
      | (exfalso; simp at h; done)
      | skip
  | some e =>
    have c1 := eread_some bs hl e h
    obtain ⟨_, hw, h63, _⟩ := rdE_some h
    have c2 := echeck_ok pin hp e hw (by omega)
    refine vc_fn mixed Try.func37 rfl rfl [] (vzH rfl) ?_
    repeat' (first | ((with_reducible refine vzH ?_); first | decide +kernel | rfl) | (with_reducible refine vzC ?_; rfl) | (with_reducible first | (refine vzZ ?_; constructor) | refine vzC ?_ | refine vc_pure c1 ?_ ?_ ?_ | refine vc_pure c2 ?_ ?_ ?_ | refine vzB [] ?_ ?_ ?_ | refine vzD ?_ ?_ | refine vc_ret [] [] ?_) | ((with_reducible first | refine vzE (fun h => ?_) (fun h => ?_) | refine vzF (fun h => ?_) (fun h => ?_)) <;> try (exfalso; omega)) | ((with_reducible refine vzG (fun h => ?_) (fun h => ?_)) <;> (try simp only [Go.Sym.vs1, reduceCtorEq] at h) <;> try (exfalso; first | omega | (simp at h; done))) | ((conv in Vc _ => arg 1; whnf); first | (with_reducible refine vzC ?_; rfl) | (with_reducible first | (refine vzZ ?_; constructor) | refine vzC ?_ | refine vc_pure c1 ?_ ?_ ?_ | refine vc_pure c2 ?_ ?_ ?_ | refine vzB [] ?_ ?_ ?_ | refine vzD ?_ ?_ | refine vc_ret [] [] ?_) | ((with_reducible first | refine vzE (fun h => ?_) (fun h => ?_) | refine vzF (fun h => ?_) (fun h => ?_)) <;> try (exfalso; omega)) | ((with_reducible refine vzG (fun h => ?_) (fun h => ?_)) <;> (try simp only [Go.Sym.vs1, reduceCtorEq] at h) <;> try (exfalso; first | omega | (simp at h; done)))))
    all_goals first
      | with_reducible rfl
      | omega
      | exact ⟨trivial, trivial⟩
      | exact ⟨trivial, trivial, trivial⟩
      | exact ⟨trivial, trivial, trivial, trivial⟩
      | exact ⟨⟨by decide, by decide, by decide⟩, trivial⟩
      | exact ⟨Nat.le_of_eq (Nat.zero_add _), trivial⟩
      | exact ⟨Nat.le_refl _, trivial, trivial⟩
      | (rw [wrap64_id (by omega) (by omega)]; rfl)
      | rfl
      | (exfalso; simp at h; done)
      | skip
def findE (pin : List UInt8) (l m : List Sgn) : Evd := match findF pin l m with | some i => evAt l m i | none => e0
def findI (pin : List UInt8) (l m : List Sgn) : Int := match findF pin l m with | some i => (i : Int) | none => -1
theorem same_more {l m : List Sgn} {i : Nat} (h : ∀ j, j < i → (l.getD j s0).root = (m.getD j s0).root) (hp : (l.getD i s0).root = (m.getD i s0).root) : ∀ j, j < i + 1 → (l.getD j s0).root = (m.getD j s0).root := fun j hj => by
  by_cases e : j = i
  · subst e; exact hp
  · exact h j (by omega)
theorem none_some {o : Option Nat} {i : Nat} (h1 : o = none) (h2 : o = some i) : False := by rw [h1] at h2; cases h2
theorem lt_k {l m : List Sgn} {i k : Nat} (h : i ≤ k) (hk : ¬ (l.getD k s0).root = (m.getD k s0).root) (he : (l.getD i s0).root = (m.getD i s0).root) : i + 1 ≤ k := by
  by_cases e : i = k
  · subst e; exact absurd he hk
  · omega
theorem at_k {l m : List Sgn} {i k : Nat} (h : i ≤ k) (hk : ∀ j, j < k → (l.getD j s0).root = (m.getD j s0).root) (he : ¬ (l.getD i s0).root = (m.getD i s0).root) : i = k := by
  by_cases e : i = k
  · exact e
  · exact absurd (hk i (by omega)) he
theorem chk_not {pin : List UInt8} {e : Evd} (h : ¬ chkE pin e = 0) : ¬ okE pin e = true := fun k => h (chkE_yes k)
section
variable (pin : List UInt8) (hp : pin.length = 32) (l m : List Sgn) (hl : ∀ s, s ∈ l → wfS s) (hm : ∀ s, s ∈ m → wfS s) (la : l.length < 2 ^ 62)
include hp hl hm la
theorem efind_ok : LocalCall Try.prog 32 [.d (digD pin), .d (.sl (l.map sD)), .d (.sl (m.map sD))] [] [] (one [.d (eD (findE pin l m)), .d (.bool (findF pin l m).isSome)]) [] := by
  have xa : (l.map sD).length = l.length := List.length_map _
  have xb : (m.map sD).length = m.length := List.length_map _
  have c1 : ∀ i, i < l.length → _ := fun i hi => echeck_ok pin hp (evAt l m i) (evAt_wf hl hm i) (by show (l.take i).length < _; rw [List.length_take]; omega)
  cases hf : findF pin l m with
  | none =>
    have e1 : findE pin l m = e0 := by unfold findE; rw [hf]
    rw [e1]
    have key : LocalCall Try.prog 32 [.d (digD pin), .d (.sl (l.map sD)), .d (.sl (m.map sD))] [] [] (one [.d evZ, .d (.bool false)]) [] := by
      refine vc_fn mixed Try.func32 rfl rfl [] (vzH rfl) ?_
      repeat' (first | ((with_reducible refine vzH ?_); first | decide +kernel | rfl) | (with_reducible refine vzC ?_; rfl) | (with_reducible first | (refine vzZ ?_; constructor) | refine vzC ?_ | refine vc_call [] (c1 i (by omega)) ?_ | refine vc_loopI 58 (fun (i : Nat) => [(1, .d (.sl (l.map sD))), (2, .d (.sl (m.map sD))), (3, .ptr 1000 []), (6, .ptr 1004 []), (16, .d (.int .i64 (min ((l.map sD).length : Int) ((m.map sD).length : Int)))), (17, .d (.int .i64 (i : Int)))]) (fun _ => [(1000, .var (.d (digD pin))), (1004, .var (.d evZ))]) (fun i => l.length - i) (fun i => i ≤ l.length ∧ i ≤ m.length ∧ ∀ j, j < i → (l.getD j s0).root = (m.getD j s0).root) 0 [] ?_ ?_ ?_ ?_ ?_ (fun i hI => ?_) | refine vc_nextI (i + 1) [] ?_ ?_ ?_ ?_ ?_ ?_ | refine vzB [] ?_ ?_ ?_ | refine vzD ?_ ?_ | refine vc_ret [] [] ?_) | ((with_reducible first | refine vzE (fun h => ?_) (fun h => ?_) | refine vzF (fun h => ?_) (fun h => ?_)) <;> try (exfalso; omega)) | ((with_reducible refine vzG (fun h => ?_) (fun h => ?_)) <;> (try simp only [Go.Sym.vs1, reduceCtorEq] at h) <;> try (exfalso; first | omega | (simp at h; done))) | ((conv in Vc _ => arg 1; whnf); first | (with_reducible refine vzC ?_; rfl) | (with_reducible first | (refine vzZ ?_; constructor) | refine vzC ?_ | refine vc_call [] (c1 i (by omega)) ?_ | refine vc_loopI 58 (fun (i : Nat) => [(1, .d (.sl (l.map sD))), (2, .d (.sl (m.map sD))), (3, .ptr 1000 []), (6, .ptr 1004 []), (16, .d (.int .i64 (min ((l.map sD).length : Int) ((m.map sD).length : Int)))), (17, .d (.int .i64 (i : Int)))]) (fun _ => [(1000, .var (.d (digD pin))), (1004, .var (.d evZ))]) (fun i => l.length - i) (fun i => i ≤ l.length ∧ i ≤ m.length ∧ ∀ j, j < i → (l.getD j s0).root = (m.getD j s0).root) 0 [] ?_ ?_ ?_ ?_ ?_ (fun i hI => ?_) | refine vc_nextI (i + 1) [] ?_ ?_ ?_ ?_ ?_ ?_ | refine vzB [] ?_ ?_ ?_ | refine vzD ?_ ?_ | refine vc_ret [] [] ?_) | ((with_reducible first | refine vzE (fun h => ?_) (fun h => ?_) | refine vzF (fun h => ?_) (fun h => ?_)) <;> try (exfalso; omega)) | ((with_reducible refine vzG (fun h => ?_) (fun h => ?_)) <;> (try simp only [Go.Sym.vs1, reduceCtorEq] at h) <;> try (exfalso; first | omega | (simp at h; done)))))
      all_goals (try have hi : i < l.length := (by omega))
      all_goals (try have hj : i < m.length := (by omega))
      all_goals (try simp only [Int.toNat_natCast, sgn_at hi, sgn_at hj] at *)
      all_goals (try (exfalso; exact none_some hf (findF_yes (partF_some hi hj hI.2.2 (rtOff (by assumption))) (chkE_ok (by assumption)))))
      all_goals first
        | with_reducible rfl
        | omega
        | exact ⟨trivial, trivial, trivial⟩
        | exact ⟨trivial, trivial, trivial, trivial⟩
        | exact ⟨Nat.zero_le _, Nat.zero_le _, fun j hj => absurd hj (Nat.not_lt_zero j)⟩
        | exact ⟨⟨by omega, by omega⟩, rfl⟩
        | exact ⟨⟨by omega, by omega, by omega⟩, sgn_size l⟩
        | exact ⟨by decide +kernel, fits_root 5 _, fits_root 5 _⟩
        | exact ⟨by omega, by omega, same_more hI.2.2 (rtNo (by assumption))⟩
        | (rw [wrap64_id (by omega) (by omega)]; rfl)
        | (rw [cutS]; rfl)
        | rfl
        | trace_state
    exact local_dn key
  | some k =>
    have e1 : findE pin l m = evAt l m k := by unfold findE; rw [hf]
    rw [e1]
    obtain ⟨k1, k2⟩ := findF_at hf
    obtain ⟨k3, k4, k5, k6⟩ := partF_at k1
    obtain ⟨s1, s2⟩ := okE_small k2
    have wk := evAt_wf hl hm k
    have fk := fit_of wk (fun s hs => Nat.le_trans (s2 s hs) (by decide))
    have c2 := ebytes_ok (evAt l m k) fk (by omega)
    have c3 := eread_some (evB (evAt l m k)) (evB_len fk (by omega)) (evAt l m k) (rdE_back wk s1 s2)
    have ck := c1 k k3
    rw [chkE_yes k2] at ck
    refine vc_fn mixed Try.func32 rfl rfl [] (vzH rfl) ?_
    repeat' (first | ((with_reducible refine vzH ?_); first | decide +kernel | rfl) | (with_reducible refine vzC ?_; rfl) | (with_reducible first | (refine vzZ ?_; constructor) | refine vzC ?_ | refine vc_call [] ck ?_ | refine vc_call [] c2 ?_ | refine vc_call [] c3 ?_ | refine vc_loopI 58 (fun (i : Nat) => [(1, .d (.sl (l.map sD))), (2, .d (.sl (m.map sD))), (3, .ptr 1000 []), (6, .ptr 1004 []), (16, .d (.int .i64 (min ((l.map sD).length : Int) ((m.map sD).length : Int)))), (17, .d (.int .i64 (i : Int)))]) (fun _ => [(1000, .var (.d (digD pin))), (1004, .var (.d evZ))]) (fun i => l.length - i) (fun i => i ≤ k) 0 [] ?_ ?_ ?_ ?_ ?_ (fun i hI => ?_) | refine vc_nextI (i + 1) [] ?_ ?_ ?_ ?_ ?_ ?_ | refine vzB [] ?_ ?_ ?_ | refine vzD ?_ ?_ | refine vc_ret [] [] ?_) | ((with_reducible first | refine vzE (fun h => ?_) (fun h => ?_) | refine vzF (fun h => ?_) (fun h => ?_)) <;> try (exfalso; omega)) | ((with_reducible refine vzG (fun h => ?_) (fun h => ?_)) <;> (try simp only [Go.Sym.vs1, reduceCtorEq] at h) <;> try (exfalso; first | omega | (simp at h; done))) | ((conv in Vc _ => arg 1; whnf); first | (with_reducible refine vzC ?_; rfl) | (with_reducible first | (refine vzZ ?_; constructor) | refine vzC ?_ | refine vc_call [] ck ?_ | refine vc_call [] c2 ?_ | refine vc_call [] c3 ?_ | refine vc_loopI 58 (fun (i : Nat) => [(1, .d (.sl (l.map sD))), (2, .d (.sl (m.map sD))), (3, .ptr 1000 []), (6, .ptr 1004 []), (16, .d (.int .i64 (min ((l.map sD).length : Int) ((m.map sD).length : Int)))), (17, .d (.int .i64 (i : Int)))]) (fun _ => [(1000, .var (.d (digD pin))), (1004, .var (.d evZ))]) (fun i => l.length - i) (fun i => i ≤ k) 0 [] ?_ ?_ ?_ ?_ ?_ (fun i hI => ?_) | refine vc_nextI (i + 1) [] ?_ ?_ ?_ ?_ ?_ ?_ | refine vzB [] ?_ ?_ ?_ | refine vzD ?_ ?_ | refine vc_ret [] [] ?_) | ((with_reducible first | refine vzE (fun h => ?_) (fun h => ?_) | refine vzF (fun h => ?_) (fun h => ?_)) <;> try (exfalso; omega)) | ((with_reducible refine vzG (fun h => ?_) (fun h => ?_)) <;> (try simp only [Go.Sym.vs1, reduceCtorEq] at h) <;> try (exfalso; first | omega | (simp at h; done)))))
    all_goals (try have hi : i < l.length := (by omega))
    all_goals (try have hj : i < m.length := (by omega))
    all_goals (try simp only [Int.toNat_natCast, sgn_at hi, sgn_at hj] at *)
    all_goals first
      | with_reducible rfl
      | omega
      | exact ⟨trivial, trivial, trivial⟩
      | exact ⟨trivial, trivial, trivial, trivial⟩
      | exact ⟨⟨by omega, by omega⟩, rfl⟩
      | exact ⟨⟨by omega, by omega, by omega⟩, sgn_size l⟩
      | exact ⟨by decide +kernel, fits_root 5 _, fits_root 5 _⟩
      | exact lt_k hI k5 (rtNo (by assumption))
      | (rw [wrap64_id (by omega) (by omega)]; rfl)
      | (have e := at_k hI k6 (rtOff (by assumption)); subst e; rw [cutS]; rfl)
      | rfl
      | trace_state
theorem rEfind_ok : LocalCall Try.prog 35 [.d (digD pin), .d (.sl (l.map sD)), .d (.sl (m.map sD))] [] [] (one [.d (.int .i64 (findI pin l m))]) [] := by
  have xa : (l.map sD).length = l.length := List.length_map _
  have xb : (m.map sD).length = m.length := List.length_map _
  have c1 : ∀ i, i < l.length → _ := fun i hi => rEcheck_ok pin hp (evAt l m i) (evAt_wf hl hm i) (by show (l.take i).length < _; rw [List.length_take]; omega)
  refine vc_fn mixed Try.func35 rfl rfl [] (vzH rfl) ?_
  repeat' (first | ((with_reducible refine vzH ?_); first | decide +kernel | rfl) | (with_reducible refine vzC ?_; rfl) | (with_reducible first | (refine vzZ ?_; constructor) | refine vzC ?_ | refine vc_call [] (c1 i (by omega)) ?_ | refine vc_loopI 47 (fun (i : Nat) => [(1, .d (.sl (l.map sD))), (2, .d (.sl (m.map sD))), (3, .ptr 1000 []), (7, .d (.int .i64 (i : Int)))]) (fun _ => [(1000, .var (.d (digD pin)))]) (fun i => l.length - i) (fun i => i ≤ l.length ∧ i ≤ m.length ∧ ∀ j, j < i → (l.getD j s0).root = (m.getD j s0).root) 0 [] ?_ ?_ ?_ ?_ ?_ (fun i hI => ?_) | refine vc_nextI (i + 1) [] ?_ ?_ ?_ ?_ ?_ ?_ | refine vzB [] ?_ ?_ ?_ | refine vzD ?_ ?_ | refine vc_ret [] [] ?_) | ((with_reducible first | refine vzE (fun h => ?_) (fun h => ?_) | refine vzF (fun h => ?_) (fun h => ?_)) <;> try (exfalso; omega)) | ((with_reducible refine vzG (fun h => ?_) (fun h => ?_)) <;> (try simp only [Go.Sym.vs1, reduceCtorEq] at h) <;> try (exfalso; first | omega | (simp at h; done))) | ((conv in Vc _ => arg 1; whnf); first | (with_reducible refine vzC ?_; rfl) | (with_reducible first | (refine vzZ ?_; constructor) | refine vzC ?_ | refine vc_call [] (c1 i (by omega)) ?_ | refine vc_loopI 47 (fun (i : Nat) => [(1, .d (.sl (l.map sD))), (2, .d (.sl (m.map sD))), (3, .ptr 1000 []), (7, .d (.int .i64 (i : Int)))]) (fun _ => [(1000, .var (.d (digD pin)))]) (fun i => l.length - i) (fun i => i ≤ l.length ∧ i ≤ m.length ∧ ∀ j, j < i → (l.getD j s0).root = (m.getD j s0).root) 0 [] ?_ ?_ ?_ ?_ ?_ (fun i hI => ?_) | refine vc_nextI (i + 1) [] ?_ ?_ ?_ ?_ ?_ ?_ | refine vzB [] ?_ ?_ ?_ | refine vzD ?_ ?_ | refine vc_ret [] [] ?_) | ((with_reducible first | refine vzE (fun h => ?_) (fun h => ?_) | refine vzF (fun h => ?_) (fun h => ?_)) <;> try (exfalso; omega)) | ((with_reducible refine vzG (fun h => ?_) (fun h => ?_)) <;> (try simp only [Go.Sym.vs1, reduceCtorEq] at h) <;> try (exfalso; first | omega | (simp at h; done)))))
  all_goals (try have hi : i < l.length := (by omega))
  all_goals (try have hj : i < m.length := (by omega))
  all_goals (try simp only [Int.toNat_natCast, sgn_at hi, sgn_at hj] at *)
  all_goals first
    | with_reducible rfl
    | omega
    | exact ⟨trivial, trivial, trivial, trivial⟩
    | exact ⟨Nat.zero_le _, Nat.zero_le _, fun j hj => absurd hj (Nat.not_lt_zero j)⟩
    | exact ⟨⟨by omega, by omega⟩, rfl⟩
    | exact ⟨⟨by omega, by omega, by omega⟩, sgn_size l⟩
    | exact ⟨by decide +kernel, fits_root 5 _, fits_root 5 _⟩
    | exact ⟨by omega, by omega, same_more hI.2.2 (rtYes (by assumption))⟩
    | (rw [wrap64_id (by omega) (by omega)]; rfl)
    | (rw [cutS]; rfl)
    | (unfold findI; rw [findF_yes (partF_some hi hj hI.2.2 (rtNe (by assumption))) (chkE_ok (by assumption))]; done)
    | (unfold findI; rw [findF_no (partF_some hi hj hI.2.2 (rtNe (by assumption))) (chk_not (by assumption))]; done)
    | (unfold findI; rw [findF_none (partF_none (by omega) hI.2.2)]; done)
    | rfl
    | trace_state
end
end Go.Proofs.Ytjgkngjeniameaa

namespace Go.Proofs.Ytjgkngjeniameaa
open Go.Sym
set_option maxRecDepth 10000
set_option maxHeartbeats 1000000
structure Pee where
  pin : List UInt8
  chain : List Sgn
  has : Bool
  ev : Evd
instance : DecidableEq Pee := fun x y => if h : x.pin = y.pin ∧ x.chain = y.chain ∧ x.has = y.has ∧ x.ev = y.ev then isTrue (by cases x; cases y; simp_all) else isFalse (by rintro rfl; exact h ⟨rfl, rfl, rfl, rfl⟩)
abbrev prD (p : Pee) : D := .st [digD p.pin, .sl (p.chain.map sD), .bool p.has, eD p.ev]
abbrev prZ : D := .st [digD zero32, .nils, .bool false, evZ]
def pr0 : Pee := ⟨zero32, [], false, e0⟩
structure wfPe (p : Pee) : Prop where
  pin : p.pin.length = 32
  chain : ∀ s, s ∈ p.chain → wfS s
  ev : wfE p.ev
theorem pee_ext (a b : Pee) : a = b ↔ a.pin = b.pin ∧ a.chain = b.chain ∧ a.has = b.has ∧ a.ev = b.ev := ⟨fun h => by subst h; exact ⟨rfl, rfl, rfl, rfl⟩, fun h => by cases a; cases b; simp_all⟩
def hearT (p : Pee) (l : List Sgn) : Pee := match findF p.pin p.chain l with
  | some k => bif p.has then p else ⟨p.pin, p.chain, true, evAt p.chain l k⟩
  | none => bif decide (p.chain.length < l.length) then ⟨p.pin, l, p.has, p.ev⟩ else p
def hearI (p : Pee) (l : List Sgn) : Int := (walk (hdP p.pin) l).2.2
def hearP (p : Pee) (l : List Sgn) : Pee := bif decide (hearI p l = 0) then hearT p l else pr0
def blamI (p : Pee) (bs : List UInt8) : Int := accV p.pin bs
def blamT (p : Pee) (bs : List UInt8) : Pee := bif p.has then p else ⟨p.pin, p.chain, true, (rdE bs).getD e0⟩
def blamP (p : Pee) (bs : List UInt8) : Pee := bif decide (blamI p bs = 0) then blamT p bs else pr0
def telB (l : List Sgn) : List UInt8 := encT (l.map sgnB)
def rdL (bs : List UInt8) : Option (List Sgn) := (rdTexts bs).bind rdSs
def accB (p : Pee) : List UInt8 := bif p.has then evB p.ev else []
def fitE (e : Evd) : Prop := fitL (evL e)
def fitP (p : Pee) : Prop := fitL p.chain ∧ fitE p.ev
end Go.Proofs.Ytjgkngjeniameaa

namespace Go.Proofs.Ytjgkngjeniameaa
open Go.Sym
set_option maxRecDepth 100000
theorem peer_of {n : Nat} {x : D} (h : okD Try.prog (n + 8) 34 x) : ∃ p : Pee, x = prD p ∧ wfPe p := by
  have hu : ∃ fs, Try.prog.underlying 34 = some (.struct fs) ∧ fs.toList.map (·.type) = [23, 24, 4, 32] := ⟨_, rfl, rfl⟩
  obtain ⟨fs, hu, ht⟩ := hu
  rw [show n + 8 = (n + 7) + 1 from rfl, okD, hu] at h
  obtain ⟨xs, rfl, hx⟩ := h
  rw [ht] at hx
  obtain ⟨d, l, b, e, rfl, h0, h1, h2, h3⟩ := okAll4 hx
  obtain ⟨d, hd, rfl⟩ := dig_of (n := n + 5) h0
  obtain ⟨l, rfl, hl, _⟩ := sgns_of (n := n + 1) h1
  obtain ⟨b, rfl⟩ := bool_of (n := n + 6) h2
  obtain ⟨e, rfl, he⟩ := evd_of (n := n) h3
  exact ⟨⟨d, l, b, e⟩, rfl, hd, hl, he⟩
theorem bulk_peer (p : Pee) : (∀ s, s ∈ p.chain → s.sig.length ≤ (prD p).bulk) ∧ ∀ s, s ∈ evL p.ev → s.sig.length ≤ (prD p).bulk := by
  refine ⟨fun s hs => ?_, fun s hs => ?_⟩
  · have h1 := bulk_sgns p.chain s hs
    simp only [D.bulk, D.bulks] at h1 ⊢
    omega
  · have h1 := bulk_evd p.ev s hs
    simp only [D.bulk, D.bulks] at h1 ⊢
    omega
theorem peer_fit {p : Pee} (hw : wfPe p) (h : (prD p).bulk ≤ 2 ^ 20) : fitP p :=
  ⟨fun s hs => ⟨hw.2 s hs, by have := (bulk_peer p).1 s hs; omega⟩, fun s hs => ⟨evL_wf hw.3 s hs, by have := (bulk_peer p).2 s hs; omega⟩⟩
end Go.Proofs.Ytjgkngjeniameaa

namespace Go.Proofs.Ytjgkngjeniameaa
open Go.Sym
set_option maxRecDepth 10000
set_option maxHeartbeats 4000000
theorem room1' {n : Nat} (h : n ≤ 2 ^ 30) : Room n 1 := by unfold Room; omega
theorem cloneNil_ok (a : Option Addr) (cap : Nat) : LocalCall Try.prog 83 [.cst (.slice a 0 cap)] [] [] (one [.d (.sl [])]) [] := by
  cases a with
  | none =>
    have key : LocalCall Try.prog 83 [.cst (.slice none 0 cap)] [] [] (one [.d .nils]) [] := by
      refine vc_fn mixed Try.func83 rfl rfl [] (vzH rfl) ?_
      repeat' (first | ((with_reducible refine vzH ?_); first | decide +kernel | rfl) | (with_reducible refine vzC ?_; rfl) | (with_reducible first | (refine vzZ ?_; constructor) | refine vzC ?_ | refine vzB [] ?_ ?_ ?_ | refine vzD ?_ ?_ | refine vc_ret [] [] ?_) | ((with_reducible first | refine vzE (fun h => ?_) (fun h => ?_) | refine vzF (fun h => ?_) (fun h => ?_)) <;> try (exfalso; omega)) | ((with_reducible refine vzG (fun h => ?_) (fun h => ?_)) <;> (try simp only [Go.Sym.vs1, reduceCtorEq] at h) <;> try (exfalso; first | omega | (simp at h; done))) | ((conv in Vc _ => arg 1; whnf); first | (with_reducible refine vzC ?_; rfl) | (with_reducible first | (refine vzZ ?_; constructor) | refine vzC ?_ | refine vzB [] ?_ ?_ ?_ | refine vzD ?_ ?_ | refine vc_ret [] [] ?_) | ((with_reducible first | refine vzE (fun h => ?_) (fun h => ?_) | refine vzF (fun h => ?_) (fun h => ?_)) <;> try (exfalso; omega)) | ((with_reducible refine vzG (fun h => ?_) (fun h => ?_)) <;> (try simp only [Go.Sym.vs1, reduceCtorEq] at h) <;> try (exfalso; first | omega | (simp at h; done)))))
      all_goals first
        | with_reducible rfl
        | omega
        | exact ⟨trivial, trivial⟩
        | exact ⟨trivial, trivial, trivial⟩
        | exact ⟨trivial, trivial, trivial, trivial⟩
        | exact ⟨⟨by decide, by decide, by decide⟩, trivial⟩
        | exact ⟨Nat.le_of_eq (Nat.zero_add _), trivial⟩
        | exact ⟨Nat.le_refl _, trivial, trivial⟩
        | (rw [wrap64_id (by omega) (by omega)]; rfl)
        | rfl
        | (exfalso; simp at h; done)
        | skip
    exact local_dn1 key
  | some p =>
    refine vc_fn mixed Try.func83 rfl rfl [] (vzH rfl) ?_
    repeat' (first | ((with_reducible refine vzH ?_); first | decide +kernel | rfl) | (with_reducible refine vzC ?_; rfl) | (with_reducible first | (refine vzZ ?_; constructor) | refine vzC ?_ | refine vc_ret [true] [] ?_ | refine vzB [] ?_ ?_ ?_ | refine vzD ?_ ?_ | refine vc_ret [] [] ?_) | ((with_reducible first | refine vzE (fun h => ?_) (fun h => ?_) | refine vzF (fun h => ?_) (fun h => ?_)) <;> try (exfalso; omega)) | ((with_reducible refine vzG (fun h => ?_) (fun h => ?_)) <;> (try simp only [Go.Sym.vs1, reduceCtorEq] at h) <;> try (exfalso; first | omega | (simp at h; done))) | ((conv in Vc _ => arg 1; whnf); first | (with_reducible refine vzC ?_; rfl) | (with_reducible first | (refine vzZ ?_; constructor) | refine vzC ?_ | refine vc_ret [true] [] ?_ | refine vzB [] ?_ ?_ ?_ | refine vzD ?_ ?_ | refine vc_ret [] [] ?_) | ((with_reducible first | refine vzE (fun h => ?_) (fun h => ?_) | refine vzF (fun h => ?_) (fun h => ?_)) <;> try (exfalso; omega)) | ((with_reducible refine vzG (fun h => ?_) (fun h => ?_)) <;> (try simp only [Go.Sym.vs1, reduceCtorEq] at h) <;> try (exfalso; first | omega | (simp at h; done)))))
    all_goals first
      | with_reducible rfl
      | omega
      | exact ⟨trivial, trivial⟩
      | exact ⟨trivial, trivial, trivial⟩
      | exact ⟨trivial, trivial, trivial, trivial⟩
      | exact ⟨⟨by decide, by decide, by decide⟩, trivial⟩
      | exact ⟨Nat.le_of_eq (Nat.zero_add _), trivial⟩
      | exact ⟨Nat.le_refl _, trivial, trivial⟩
      | (rw [wrap64_id (by omega) (by omega)]; rfl)
      | exact ⟨⟨trivial, rfl, room1' (by decide)⟩, nofun⟩
      | rfl
      | (exfalso; simp at h; done)
      | skip
theorem cloneCons_ok (c : UInt8) (b : List UInt8) (h : b.length < 2 ^ 28) : LocalCall Try.prog 83 [.d (.sl ((c :: b).map byteD))] [] [] (one [.d (.sl ((c :: b).map byteD))]) [] := by
  refine vc_fn mixed Try.func83 rfl rfl [] (vzH rfl) ?_
  repeat' (first | ((with_reducible refine vzH ?_); first | decide +kernel | rfl) | (with_reducible refine vzC ?_; rfl) | (with_reducible first | (refine vzZ ?_; constructor) | refine vzC ?_ | refine vc_ret [true] [] ?_ | refine vzB [] ?_ ?_ ?_ | refine vzD ?_ ?_ | refine vc_ret [] [] ?_) | ((with_reducible first | refine vzE (fun h => ?_) (fun h => ?_) | refine vzF (fun h => ?_) (fun h => ?_)) <;> try (exfalso; omega)) | ((with_reducible refine vzG (fun h => ?_) (fun h => ?_)) <;> (try simp only [Go.Sym.vs1, reduceCtorEq] at h) <;> try (exfalso; first | omega | (simp at h; done))) | ((conv in Vc _ => arg 1; whnf); first | (with_reducible refine vzC ?_; rfl) | (with_reducible first | (refine vzZ ?_; constructor) | refine vzC ?_ | refine vc_ret [true] [] ?_ | refine vzB [] ?_ ?_ ?_ | refine vzD ?_ ?_ | refine vc_ret [] [] ?_) | ((with_reducible first | refine vzE (fun h => ?_) (fun h => ?_) | refine vzF (fun h => ?_) (fun h => ?_)) <;> try (exfalso; omega)) | ((with_reducible refine vzG (fun h => ?_) (fun h => ?_)) <;> (try simp only [Go.Sym.vs1, reduceCtorEq] at h) <;> try (exfalso; first | omega | (simp at h; done)))))
  all_goals first
    | with_reducible rfl
    | omega
    | exact ⟨trivial, trivial⟩
    | exact ⟨trivial, trivial, trivial⟩
    | exact ⟨trivial, trivial, trivial, trivial⟩
    | exact ⟨⟨by decide, by decide, by decide⟩, trivial⟩
    | exact ⟨Nat.le_of_eq (Nat.zero_add _), trivial⟩
    | exact ⟨Nat.le_refl _, trivial, trivial⟩
    | (rw [wrap64_id (by omega) (by omega)]; rfl)
    | exact ⟨⟨trivial, rfl, room1' (by simp; omega)⟩, size_bytes (c :: b)⟩
    | (rw [List.nil_append, List.drop_zero, List.take_length]; done)
    | rfl
    | (exfalso; simp at h; done)
    | skip
theorem bclone_ok (b : List UInt8) (h : b.length < 2 ^ 28) : LocalCall Try.prog 83 [.d (.sl (b.map byteD))] [] [] (one [.d (.sl (b.map byteD))]) [] := by
  cases b with
  | nil => exact local_empty fun a cap => cloneNil_ok a cap
  | cons c b => exact cloneCons_ok c b (by simp at h; omega)
end Go.Proofs.Ytjgkngjeniameaa

namespace Go.Proofs.Ytjgkngjeniameaa
open Go.Sym
set_option maxRecDepth 10000
set_option maxHeartbeats 4000000
theorem gsigned_ok (s : Sgn) (h : s.sig.length ≤ 2 ^ 21) : LocalCall Try.prog 55 [.d (sD s)] [] [] (one [.d (sD s)]) [] := by
  have c1 := bclone_ok s.sig (by omega)
  refine vc_fn mixed Try.func55 rfl rfl [] (vzH rfl) ?_
  repeat' (first | ((with_reducible refine vzH ?_); first | decide +kernel | rfl) | (with_reducible refine vzC ?_; rfl) | (with_reducible first | (refine vzZ ?_; constructor) | refine vzC ?_ | refine vc_pure c1 ?_ ?_ ?_ | refine vzB [] ?_ ?_ ?_ | refine vzD ?_ ?_ | refine vc_ret [] [] ?_) | ((with_reducible first | refine vzE (fun h => ?_) (fun h => ?_) | refine vzF (fun h => ?_) (fun h => ?_)) <;> try (exfalso; omega)) | ((with_reducible refine vzG (fun h => ?_) (fun h => ?_)) <;> (try simp only [Go.Sym.vs1, reduceCtorEq] at h) <;> try (exfalso; first | omega | (simp at h; done))) | ((conv in Vc _ => arg 1; whnf); first | (with_reducible refine vzC ?_; rfl) | (with_reducible first | (refine vzZ ?_; constructor) | refine vzC ?_ | refine vc_pure c1 ?_ ?_ ?_ | refine vzB [] ?_ ?_ ?_ | refine vzD ?_ ?_ | refine vc_ret [] [] ?_) | ((with_reducible first | refine vzE (fun h => ?_) (fun h => ?_) | refine vzF (fun h => ?_) (fun h => ?_)) <;> try (exfalso; omega)) | ((with_reducible refine vzG (fun h => ?_) (fun h => ?_)) <;> (try simp only [Go.Sym.vs1, reduceCtorEq] at h) <;> try (exfalso; first | omega | (simp at h; done)))))
  all_goals first
    | with_reducible rfl
    | omega
    | exact ⟨trivial, trivial⟩
    | exact ⟨trivial, trivial, trivial⟩
    | exact ⟨trivial, trivial, trivial, trivial⟩
    | exact ⟨⟨by decide, by decide, by decide⟩, trivial⟩
    | exact ⟨Nat.le_of_eq (Nat.zero_add _), trivial⟩
    | exact ⟨Nat.le_refl _, trivial, trivial⟩
    | (rw [wrap64_id (by omega) (by omega)]; rfl)
    | rfl
    | (exfalso; simp at h; done)
    | skip
  all_goals trace_state
theorem gall_ok (l : List Sgn) (h : fitL l) (hl : l.length ≤ 2 ^ 19) : LocalCall Try.prog 33 [.d (.sl (l.map sD))] [] [] (one [.d (.sl (l.map sD))]) [] := by
  have lm : (l.map sD).length = l.length := List.length_map _
  have c1 : ∀ i, i < l.length → _ := fun i hi => gsigned_ok (l.getD i s0) (h _ (by rw [List.getD_eq_getElem?_getD, List.getElem?_eq_getElem hi]; simp)).2
  refine vc_fn mixed Try.func33 rfl rfl [(500001, [9098003])] (vzH rfl) ?_
  repeat' (first | ((with_reducible refine vzH ?_); first | decide +kernel | rfl) | (with_reducible refine vzC ?_; rfl) | (with_reducible first | (refine vzZ ?_; constructor) | refine vzC ?_ | refine vc_call [] (c1 i (by omega)) ?_ | refine vc_loopI 24 (fun (i : Nat) => [(3, .sl 9 [] 98 0 ((l.take i).map sD).length), (6, .d (.sl (l.map sD))), (7, .d (.int .i64 ((l.map sD).length : Nat))), (8, .d (.int .i64 (i : Int)))]) (fun i => [(9, .row 98 ((l.take i).map sD))]) (fun i => l.length - i) (fun i => i ≤ l.length) 0 [] ?_ ?_ ?_ ?_ ?_ (fun i hI => ?_) | refine vc_nextI (i + 1) [(9, 6016)] ?_ ?_ ?_ ?_ ?_ ?_ | refine vc_ret [true] [] ?_ | refine vzB [] ?_ ?_ ?_ | refine vzD ?_ ?_ | refine vc_ret [] [] ?_) | ((with_reducible first | refine vzE (fun h => ?_) (fun h => ?_) | refine vzF (fun h => ?_) (fun h => ?_)) <;> try (exfalso; omega)) | ((with_reducible refine vzG (fun h => ?_) (fun h => ?_)) <;> (try simp only [Go.Sym.vs1, reduceCtorEq] at h) <;> try (exfalso; first | omega | (simp at h; done))) | ((conv in Vc _ => arg 1; whnf); first | (with_reducible refine vzC ?_; rfl) | (with_reducible first | (refine vzZ ?_; constructor) | refine vzC ?_ | refine vc_call [] (c1 i (by omega)) ?_ | refine vc_loopI 24 (fun (i : Nat) => [(3, .sl 9 [] 98 0 ((l.take i).map sD).length), (6, .d (.sl (l.map sD))), (7, .d (.int .i64 ((l.map sD).length : Nat))), (8, .d (.int .i64 (i : Int)))]) (fun i => [(9, .row 98 ((l.take i).map sD))]) (fun i => l.length - i) (fun i => i ≤ l.length) 0 [] ?_ ?_ ?_ ?_ ?_ (fun i hI => ?_) | refine vc_nextI (i + 1) [(9, 6016)] ?_ ?_ ?_ ?_ ?_ ?_ | refine vc_ret [true] [] ?_ | refine vzB [] ?_ ?_ ?_ | refine vzD ?_ ?_ | refine vc_ret [] [] ?_) | ((with_reducible first | refine vzE (fun h => ?_) (fun h => ?_) | refine vzF (fun h => ?_) (fun h => ?_)) <;> try (exfalso; omega)) | ((with_reducible refine vzG (fun h => ?_) (fun h => ?_)) <;> (try simp only [Go.Sym.vs1, reduceCtorEq] at h) <;> try (exfalso; first | omega | (simp at h; done)))))
  all_goals (try simp only [Nat.zero_add, Int.toNat_natCast, show Int.toNat 0 = 0 from rfl, List.nil_append, List.drop_zero, List.take_length, Nat.sub_zero, Nat.add_zero])
  all_goals (try have e : l.take i = l := List.take_of_length_le (by omega))
  all_goals (try simp only [e, List.take_length])
  all_goals first
    | with_reducible rfl
    | omega
    | exact ⟨⟨by omega, by omega⟩, by rw [sgn_at (by omega)]; rfl⟩
    | (show D.st _ = sD _; rw [sgn_at (by omega)]; rfl)
    | exact ⟨⟨Nat.le_refl _, by first | trivial | rfl, room128 (by rw [List.length_append, List.length_map, List.length_take]; show _ + 1 ≤ _; omega)⟩, fun y hy => (by rw [List.mem_singleton.1 hy]; rfl)⟩
    | exact sgn_app _ (by omega)
    | (rw [List.length_append, List.length_map, List.length_map, List.length_take, List.length_take]; show _ + 1 = _; omega)
    | (rw [wrap64_id (by omega) (by omega)]; rfl)
    | exact ⟨Nat.le_refl _, trivial⟩
    | exact ⟨by omega, by omega, by omega, by omega⟩
    | rfl
    | trace_state
theorem gown_ok (p : Pee) (h : fitP p) (hl : p.chain.length ≤ 2 ^ 19) (hl2 : p.ev.trunk.length ≤ 2 ^ 19) : LocalCall Try.prog 31 [.d (prD p)] [] [] (one [.d (prD p)]) [] := by
  have c1 := gall_ok p.chain h.1 hl
  have c2 := gall_ok p.ev.trunk (fun s hs => h.2 s (List.mem_append_left _ hs)) hl2
  have c3 := gsigned_ok p.ev.a (h.2 p.ev.a (by simp [evL])).2
  have c4 := gsigned_ok p.ev.b (h.2 p.ev.b (by simp [evL])).2
  refine vc_fn mixed Try.func31 rfl rfl [] (vzH rfl) ?_
  repeat' (first | ((with_reducible refine vzH ?_); first | decide +kernel | rfl) | (with_reducible refine vzC ?_; rfl) | (with_reducible first | (refine vzZ ?_; constructor) | refine vzC ?_ | refine vc_pure c1 ?_ ?_ ?_ | refine vc_pure c2 ?_ ?_ ?_ | refine vc_pure c3 ?_ ?_ ?_ | refine vc_pure c4 ?_ ?_ ?_ | refine vzB [] ?_ ?_ ?_ | refine vzD ?_ ?_ | refine vc_ret [] [] ?_) | ((with_reducible first | refine vzE (fun h => ?_) (fun h => ?_) | refine vzF (fun h => ?_) (fun h => ?_)) <;> try (exfalso; omega)) | ((with_reducible refine vzG (fun h => ?_) (fun h => ?_)) <;> (try simp only [Go.Sym.vs1, reduceCtorEq] at h) <;> try (exfalso; first | omega | (simp at h; done))) | ((conv in Vc _ => arg 1; whnf); first | (with_reducible refine vzC ?_; rfl) | (with_reducible first | (refine vzZ ?_; constructor) | refine vzC ?_ | refine vc_pure c1 ?_ ?_ ?_ | refine vc_pure c2 ?_ ?_ ?_ | refine vc_pure c3 ?_ ?_ ?_ | refine vc_pure c4 ?_ ?_ ?_ | refine vzB [] ?_ ?_ ?_ | refine vzD ?_ ?_ | refine vc_ret [] [] ?_) | ((with_reducible first | refine vzE (fun h => ?_) (fun h => ?_) | refine vzF (fun h => ?_) (fun h => ?_)) <;> try (exfalso; omega)) | ((with_reducible refine vzG (fun h => ?_) (fun h => ?_)) <;> (try simp only [Go.Sym.vs1, reduceCtorEq] at h) <;> try (exfalso; first | omega | (simp at h; done)))))
  all_goals first
    | with_reducible rfl
    | omega
    | exact ⟨trivial, trivial⟩
    | exact ⟨trivial, trivial, trivial⟩
    | exact ⟨trivial, trivial, trivial, trivial⟩
    | exact ⟨⟨by decide, by decide, by decide⟩, trivial⟩
    | exact ⟨Nat.le_of_eq (Nat.zero_add _), trivial⟩
    | exact ⟨Nat.le_refl _, trivial, trivial⟩
    | (rw [wrap64_id (by omega) (by omega)]; rfl)
    | rfl
    | (exfalso; simp at h; done)
    | skip
  all_goals trace_state
theorem sameRoots_ok (x y : List Sgn) (hl : x.length < 2 ^ 63) : LocalCall Try.prog 23 [.d (.sl (x.map sD)), .d (.sl (y.map sD))] [] [] (one [.d (.bool (decide (x = y)))]) [] := by
  have lx : (x.map sD).length = x.length := List.length_map _
  have ly : (y.map sD).length = y.length := List.length_map _
  have c3 : ∀ i : Nat, _ := fun i => sameSgn_ok (x.getD i s0) (y.getD i s0)
  refine vc_fn mixed Try.func23 rfl rfl [] (vzH rfl) ?_
  repeat' (first | ((with_reducible refine vzH ?_); first | decide +kernel | rfl) | (with_reducible refine vzC ?_; rfl) | (with_reducible first | (refine vzZ ?_; constructor) | refine vzC ?_ | refine vc_call [] (c3 i) ?_ | refine vc_loopI 27 (fun (i : Nat) => [(0, .d (.sl (x.map sD))), (1, .d (.sl (y.map sD))), (5, .d (.int .i64 (i : Int)))]) (fun _ => []) (fun i => x.length - i) (fun i => i ≤ x.length ∧ ∀ j, j < i → x.getD j s0 = y.getD j s0) 0 [] ?_ ?_ ?_ ?_ ?_ (fun i hI => ?_) | refine vc_nextI (i + 1) [] ?_ ?_ ?_ ?_ ?_ ?_ | refine vzB [] ?_ ?_ ?_ | refine vzD ?_ ?_ | refine vc_ret [] [] ?_) | ((with_reducible first | refine vzE (fun h => ?_) (fun h => ?_) | refine vzF (fun h => ?_) (fun h => ?_)) <;> try (exfalso; omega)) | ((with_reducible refine vzG (fun h => ?_) (fun h => ?_)) <;> (try simp only [Go.Sym.vs1, reduceCtorEq] at h) <;> try (exfalso; first | omega | (simp at h; done))) | ((conv in Vc _ => arg 1; whnf); first | (with_reducible refine vzC ?_; rfl) | (with_reducible first | (refine vzZ ?_; constructor) | refine vzC ?_ | refine vc_call [] (c3 i) ?_ | refine vc_loopI 27 (fun (i : Nat) => [(0, .d (.sl (x.map sD))), (1, .d (.sl (y.map sD))), (5, .d (.int .i64 (i : Int)))]) (fun _ => []) (fun i => x.length - i) (fun i => i ≤ x.length ∧ ∀ j, j < i → x.getD j s0 = y.getD j s0) 0 [] ?_ ?_ ?_ ?_ ?_ (fun i hI => ?_) | refine vc_nextI (i + 1) [] ?_ ?_ ?_ ?_ ?_ ?_ | refine vzB [] ?_ ?_ ?_ | refine vzD ?_ ?_ | refine vc_ret [] [] ?_) | ((with_reducible first | refine vzE (fun h => ?_) (fun h => ?_) | refine vzF (fun h => ?_) (fun h => ?_)) <;> try (exfalso; omega)) | ((with_reducible refine vzG (fun h => ?_) (fun h => ?_)) <;> (try simp only [Go.Sym.vs1, reduceCtorEq] at h) <;> try (exfalso; first | omega | (simp at h; done)))))
  all_goals first
    | with_reducible rfl
    | omega
    | exact ⟨Nat.zero_le _, fun j hj => absurd hj (Nat.not_lt_zero j)⟩
    | (rw [decide_eq_false (fun e => h (by rw [e]))]; first | done | rfl)
    | exact ⟨⟨by omega, by omega⟩, by rw [Int.toNat_natCast, sgn_at (by omega)]; rfl⟩
    | (show D.st _ = sD _; simp only [Int.toNat_natCast, sgn_at (show i < x.length by omega)]; rfl)
    | (show D.st _ = sD _; simp only [Int.toNat_natCast, sgn_at (show i < y.length by omega)]; rfl)
    | exact ⟨by omega, esgn_more hI.2 (by assumption)⟩
    | (rw [wrap64_id (by omega) (by omega)]; rfl)
    | (rw [decide_eq_true (sgn_ext2 (by omega) (by omega) hI.2)]; done)
    | rfl
    | trace_state
theorem pee_bool {x y : Pee} (h1 : x.pin = y.pin) (h2 : x.chain = y.chain) (h3 : x.has = y.has) : D.bool (bif true then decide (x.ev = y.ev) else false) = D.bool (decide (x = y)) := by
  by_cases he : x.ev = y.ev
  · rw [decide_eq_true he, decide_eq_true ((pee_ext x y).2 ⟨h1, h2, h3, he⟩)]; rfl
  · rw [decide_eq_false he, decide_eq_false (fun e => he (by rw [e]))]; rfl
theorem samePe_ok (x y : Pee) (hl : x.chain.length < 2 ^ 63) (hl2 : x.ev.trunk.length < 2 ^ 63) : LocalCall Try.prog 14 [.d (prD x), .d (prD y)] [] [] (one [.d (.bool (decide (x = y)))]) [] := by
  have c1 := sameRoots_ok x.chain y.chain hl
  have c2 := sameE_ok x.ev y.ev hl2
  refine vc_fn mixed Try.func14 rfl rfl [] (vzH rfl) ?_
  repeat' (first | ((with_reducible refine vzH ?_); first | decide +kernel | rfl) | (with_reducible refine vzC ?_; rfl) | (with_reducible first | (refine vzZ ?_; constructor) | refine vzC ?_ | refine vc_pure c1 ?_ ?_ ?_ | refine vc_pure c2 ?_ ?_ ?_ | refine vzB [] ?_ ?_ ?_ | refine vzD ?_ ?_ | refine vc_ret [] [] ?_) | ((with_reducible first | refine vzE (fun h => ?_) (fun h => ?_) | refine vzF (fun h => ?_) (fun h => ?_)) <;> try (exfalso; omega)) | ((with_reducible refine vzG (fun h => ?_) (fun h => ?_)) <;> (try simp only [Go.Sym.vs1, reduceCtorEq] at h) <;> try (exfalso; first | omega | (simp at h; done))) | ((conv in Vc _ => arg 1; whnf); first | (with_reducible refine vzC ?_; rfl) | (with_reducible first | (refine vzZ ?_; constructor) | refine vzC ?_ | refine vc_pure c1 ?_ ?_ ?_ | refine vc_pure c2 ?_ ?_ ?_ | refine vzB [] ?_ ?_ ?_ | refine vzD ?_ ?_ | refine vc_ret [] [] ?_) | ((with_reducible first | refine vzE (fun h => ?_) (fun h => ?_) | refine vzF (fun h => ?_) (fun h => ?_)) <;> try (exfalso; omega)) | ((with_reducible refine vzG (fun h => ?_) (fun h => ?_)) <;> (try simp only [Go.Sym.vs1, reduceCtorEq] at h) <;> try (exfalso; first | omega | (simp at h; done)))))
  all_goals first
    | exact ⟨fits_dig 6 _, fits_dig 6 _⟩
    | (rw [decide_eq_false (fun e => h (by rw [e]))]; done)
    | (rw [decide_eq_false (fun e => digNo h (by rw [e]))]; done)
    | exact pee_bool (digYes (by assumption)) (by assumption) (by assumption)
    | trace_state
end Go.Proofs.Ytjgkngjeniameaa

namespace Go.Proofs.Ytjgkngjeniameaa
open Go.Sym
set_option maxRecDepth 10000
set_option maxHeartbeats 4000000
section
variable (p : Pee) (hw : wfPe p)
include hw
section
variable (l : List Sgn) (hl : ∀ s, s ∈ l → wfS s) (la : p.chain.length ≤ 2 ^ 19) (lb : p.ev.trunk.length ≤ 2 ^ 19)
include hl la lb
theorem hear_ok (hf : fitP p) (lc : l.length < 2 ^ 62) : LocalCall Try.prog 12 [.d (prD p), .d (.sl (l.map sD))] [] [] (one [.d (prD (hearP p l)), .d (.int .i64 (hearI p l))]) [] := by
  have xl : (l.map sD).length = l.length := List.length_map _
  have xc : (p.chain.map sD).length = p.chain.length := List.length_map _
  have c0 := start_ok p.pin
  have c1 := walk_ok (hdP p.pin) l (wf_hdP hw.pin) hl (by omega)
  have c2 := gown_ok p hf la lb
  have c3 := efind_ok p.pin hw.pin p.chain l hw.chain hl (by omega)
  have c4 : (walk (hdP p.pin) l).2.2 = 0 → _ := fun h => gall_ok l (fun s hs => ⟨hl s hs, by rw [walk_sig _ _ h s hs]; decide⟩) (by have := walk_short h; omega)
  unfold hearP
  by_cases he : hearI p l = 0
  · rw [decide_eq_true he, cond_true]
    unfold hearT
    unfold hearI at he ⊢
    have c4 := c4 he
    rw [he] at c1 ⊢
    cases hF : findF p.pin p.chain l with
    | none =>
      have e1 : findE p.pin p.chain l = e0 := by unfold findE; rw [hF]
      rw [e1, hF] at c3
      refine vc_fn mixed Try.func12 rfl rfl [] (vzH rfl) ?_
      repeat' (first | ((with_reducible refine vzH ?_); first | decide +kernel | rfl) | (with_reducible refine vzC ?_; rfl) | (with_reducible first | (refine vzZ ?_; constructor) | refine vzC ?_ | refine vc_pure c0 ?_ ?_ ?_ | refine vc_pure c1 ?_ ?_ ?_ | refine vc_pure c2 ?_ ?_ ?_ | refine vc_pure c3 ?_ ?_ ?_ | refine vc_pure c4 ?_ ?_ ?_ | refine vzB [] ?_ ?_ ?_ | refine vzD ?_ ?_ | refine vc_ret [] [] ?_) | ((with_reducible first | refine vzE (fun h => ?_) (fun h => ?_) | refine vzF (fun h => ?_) (fun h => ?_)) <;> try (exfalso; omega)) | ((with_reducible refine vzG (fun h => ?_) (fun h => ?_)) <;> (try simp only [Go.Sym.vs1, reduceCtorEq] at h) <;> try (exfalso; first | omega | (simp at h; done))) | ((conv in Vc _ => arg 1; whnf); first | (with_reducible refine vzC ?_; rfl) | (with_reducible first | (refine vzZ ?_; constructor) | refine vzC ?_ | refine vc_pure c0 ?_ ?_ ?_ | refine vc_pure c1 ?_ ?_ ?_ | refine vc_pure c2 ?_ ?_ ?_ | refine vc_pure c3 ?_ ?_ ?_ | refine vc_pure c4 ?_ ?_ ?_ | refine vzB [] ?_ ?_ ?_ | refine vzD ?_ ?_ | refine vc_ret [] [] ?_) | ((with_reducible first | refine vzE (fun h => ?_) (fun h => ?_) | refine vzF (fun h => ?_) (fun h => ?_)) <;> try (exfalso; omega)) | ((with_reducible refine vzG (fun h => ?_) (fun h => ?_)) <;> (try simp only [Go.Sym.vs1, reduceCtorEq] at h) <;> try (exfalso; first | omega | (simp at h; done)))))
      all_goals first
        | with_reducible rfl
        | trivial
        | exact ⟨trivial, trivial⟩
        | exact ⟨trivial, trivial, trivial⟩
        | exact ⟨trivial, trivial, trivial, trivial⟩
        | (exfalso; omega)
        | (exfalso; exact absurd (hh.symm.trans (show p.has = true by assumption)) (by decide))
        | (exfalso; exact absurd (hh.symm.trans (show p.has = false by assumption)) (by decide))
        | (rw [decide_eq_true (show p.chain.length < l.length by omega)]; rfl)
        | (rw [decide_eq_false (show ¬ p.chain.length < l.length by omega)]; rfl)
        | (exfalso; exact absurd rfl h)
        | rfl
        | trace_state
    | some k =>
      have e1 : findE p.pin p.chain l = evAt p.chain l k := by unfold findE; rw [hF]
      rw [e1, hF] at c3
      cases hh : p.has with
      | true =>
        refine vc_fn mixed Try.func12 rfl rfl [] (vzH rfl) ?_
        repeat' (first | ((with_reducible refine vzH ?_); first | decide +kernel | rfl) | (with_reducible refine vzC ?_; rfl) | (with_reducible first | (refine vzZ ?_; constructor) | refine vzC ?_ | refine vc_pure c0 ?_ ?_ ?_ | refine vc_pure c1 ?_ ?_ ?_ | refine vc_pure c2 ?_ ?_ ?_ | refine vc_pure c3 ?_ ?_ ?_ | refine vc_pure c4 ?_ ?_ ?_ | refine vzB [] ?_ ?_ ?_ | refine vzD ?_ ?_ | refine vc_ret [] [] ?_) | ((with_reducible first | refine vzE (fun h => ?_) (fun h => ?_) | refine vzF (fun h => ?_) (fun h => ?_)) <;> try (exfalso; omega)) | ((with_reducible refine vzG (fun h => ?_) (fun h => ?_)) <;> (try simp only [Go.Sym.vs1, reduceCtorEq] at h) <;> try (exfalso; first | omega | (simp at h; done))) | ((conv in Vc _ => arg 1; whnf); first | (with_reducible refine vzC ?_; rfl) | (with_reducible first | (refine vzZ ?_; constructor) | refine vzC ?_ | refine vc_pure c0 ?_ ?_ ?_ | refine vc_pure c1 ?_ ?_ ?_ | refine vc_pure c2 ?_ ?_ ?_ | refine vc_pure c3 ?_ ?_ ?_ | refine vc_pure c4 ?_ ?_ ?_ | refine vzB [] ?_ ?_ ?_ | refine vzD ?_ ?_ | refine vc_ret [] [] ?_) | ((with_reducible first | refine vzE (fun h => ?_) (fun h => ?_) | refine vzF (fun h => ?_) (fun h => ?_)) <;> try (exfalso; omega)) | ((with_reducible refine vzG (fun h => ?_) (fun h => ?_)) <;> (try simp only [Go.Sym.vs1, reduceCtorEq] at h) <;> try (exfalso; first | omega | (simp at h; done)))))
        all_goals first
          | with_reducible rfl
          | trivial
          | exact ⟨trivial, trivial⟩
          | exact ⟨trivial, trivial, trivial⟩
          | exact ⟨trivial, trivial, trivial, trivial⟩
          | (exfalso; omega)
          | (exfalso; exact absurd (hh.symm.trans (show p.has = true by assumption)) (by decide))
          | (exfalso; exact absurd (hh.symm.trans (show p.has = false by assumption)) (by decide))
          | (rw [decide_eq_true (show p.chain.length < l.length by omega)]; rfl)
          | (rw [decide_eq_false (show ¬ p.chain.length < l.length by omega)]; rfl)
          | (exfalso; exact absurd rfl h)
          | rfl
          | trace_state
      | false =>
        refine vc_fn mixed Try.func12 rfl rfl [] (vzH rfl) ?_
        repeat' (first | ((with_reducible refine vzH ?_); first | decide +kernel | rfl) | (with_reducible refine vzC ?_; rfl) | (with_reducible first | (refine vzZ ?_; constructor) | refine vzC ?_ | refine vc_pure c0 ?_ ?_ ?_ | refine vc_pure c1 ?_ ?_ ?_ | refine vc_pure c2 ?_ ?_ ?_ | refine vc_pure c3 ?_ ?_ ?_ | refine vc_pure c4 ?_ ?_ ?_ | refine vzB [] ?_ ?_ ?_ | refine vzD ?_ ?_ | refine vc_ret [] [] ?_) | ((with_reducible first | refine vzE (fun h => ?_) (fun h => ?_) | refine vzF (fun h => ?_) (fun h => ?_)) <;> try (exfalso; omega)) | ((with_reducible refine vzG (fun h => ?_) (fun h => ?_)) <;> (try simp only [Go.Sym.vs1, reduceCtorEq] at h) <;> try (exfalso; first | omega | (simp at h; done))) | ((conv in Vc _ => arg 1; whnf); first | (with_reducible refine vzC ?_; rfl) | (with_reducible first | (refine vzZ ?_; constructor) | refine vzC ?_ | refine vc_pure c0 ?_ ?_ ?_ | refine vc_pure c1 ?_ ?_ ?_ | refine vc_pure c2 ?_ ?_ ?_ | refine vc_pure c3 ?_ ?_ ?_ | refine vc_pure c4 ?_ ?_ ?_ | refine vzB [] ?_ ?_ ?_ | refine vzD ?_ ?_ | refine vc_ret [] [] ?_) | ((with_reducible first | refine vzE (fun h => ?_) (fun h => ?_) | refine vzF (fun h => ?_) (fun h => ?_)) <;> try (exfalso; omega)) | ((with_reducible refine vzG (fun h => ?_) (fun h => ?_)) <;> (try simp only [Go.Sym.vs1, reduceCtorEq] at h) <;> try (exfalso; first | omega | (simp at h; done)))))
        all_goals first
          | with_reducible rfl
          | trivial
          | exact ⟨trivial, trivial⟩
          | exact ⟨trivial, trivial, trivial⟩
          | exact ⟨trivial, trivial, trivial, trivial⟩
          | (exfalso; omega)
          | (exfalso; exact absurd (hh.symm.trans (show p.has = true by assumption)) (by decide))
          | (exfalso; exact absurd (hh.symm.trans (show p.has = false by assumption)) (by decide))
          | (rw [decide_eq_true (show p.chain.length < l.length by omega)]; rfl)
          | (rw [decide_eq_false (show ¬ p.chain.length < l.length by omega)]; rfl)
          | (exfalso; exact absurd rfl h)
          | rfl
          | trace_state
  · rw [decide_eq_false he, cond_false]
    unfold hearI at he ⊢
    have key : LocalCall Try.prog 12 [.d (prD p), .d (.sl (l.map sD))] [] [] (one [.d prZ, .d (.int .i64 (walk (hdP p.pin) l).2.2)]) [] := by
      refine vc_fn mixed Try.func12 rfl rfl [] (vzH rfl) ?_
      repeat' (first | ((with_reducible refine vzH ?_); first | decide +kernel | rfl) | (with_reducible refine vzC ?_; rfl) | (with_reducible first | (refine vzZ ?_; constructor) | refine vzC ?_ | refine vc_pure c0 ?_ ?_ ?_ | refine vc_pure c1 ?_ ?_ ?_ | refine vzB [] ?_ ?_ ?_ | refine vzD ?_ ?_ | refine vc_ret [] [] ?_) | ((with_reducible first | refine vzE (fun h => ?_) (fun h => ?_) | refine vzF (fun h => ?_) (fun h => ?_)) <;> try (exfalso; omega)) | ((with_reducible refine vzG (fun h => ?_) (fun h => ?_)) <;> (try simp only [Go.Sym.vs1, reduceCtorEq] at h) <;> try (exfalso; first | omega | (simp at h; done))) | ((conv in Vc _ => arg 1; whnf); first | (with_reducible refine vzC ?_; rfl) | (with_reducible first | (refine vzZ ?_; constructor) | refine vzC ?_ | refine vc_pure c0 ?_ ?_ ?_ | refine vc_pure c1 ?_ ?_ ?_ | refine vzB [] ?_ ?_ ?_ | refine vzD ?_ ?_ | refine vc_ret [] [] ?_) | ((with_reducible first | refine vzE (fun h => ?_) (fun h => ?_) | refine vzF (fun h => ?_) (fun h => ?_)) <;> try (exfalso; omega)) | ((with_reducible refine vzG (fun h => ?_) (fun h => ?_)) <;> (try simp only [Go.Sym.vs1, reduceCtorEq] at h) <;> try (exfalso; first | omega | (simp at h; done)))))
      all_goals first
        | with_reducible rfl
        | trivial
        | exact ⟨trivial, trivial⟩
        | exact ⟨trivial, trivial, trivial⟩
        | exact ⟨trivial, trivial, trivial, trivial⟩
        | (exfalso; omega)
        | (exfalso; exact absurd (hh.symm.trans (show p.has = true by assumption)) (by decide))
        | (exfalso; exact absurd (hh.symm.trans (show p.has = false by assumption)) (by decide))
        | (rw [decide_eq_true (show p.chain.length < l.length by omega)]; rfl)
        | (rw [decide_eq_false (show ¬ p.chain.length < l.length by omega)]; rfl)
        | (exfalso; exact absurd rfl h)
        | rfl
        | trace_state
    exact local_dn key
omit lb in
theorem rHear_ok (lc : l.length < 2 ^ 62) : LocalCall Try.prog 13 [.d (prD p), .d (.sl (l.map sD))] [] [] (one [.d (prD (hearP p l)), .d (.int .i64 (hearI p l))]) [] := by
  have xl : (l.map sD).length = l.length := List.length_map _
  have xc : (p.chain.map sD).length = p.chain.length := List.length_map _
  have c1 := rWalk_ok (hdP p.pin) l (wf_hdP hw.pin) hl (by omega)
  have c3 := rEfind_ok p.pin hw.pin p.chain l hw.chain hl (by omega)
  unfold hearP
  by_cases he : hearI p l = 0
  · rw [decide_eq_true he, cond_true]
    unfold hearT
    unfold hearI at he ⊢
    rw [he] at c1 ⊢
    cases hF : findF p.pin p.chain l with
    | none =>
      have e1 : findI p.pin p.chain l = -1 := by unfold findI; rw [hF]
      rw [e1] at c3
      refine vc_fn mixed Try.func13 rfl rfl [] (vzH rfl) ?_
      repeat' (first | ((with_reducible refine vzH ?_); first | decide +kernel | rfl) | (with_reducible refine vzC ?_; rfl) | (with_reducible first | (refine vzZ ?_; constructor) | refine vzC ?_ | refine vc_call [] c1 ?_ | refine vc_pure c3 ?_ ?_ ?_ | refine vzB [] ?_ ?_ ?_ | refine vzD ?_ ?_ | refine vc_ret [] [] ?_) | ((with_reducible first | refine vzE (fun h => ?_) (fun h => ?_) | refine vzF (fun h => ?_) (fun h => ?_)) <;> try (exfalso; omega)) | ((with_reducible refine vzG (fun h => ?_) (fun h => ?_)) <;> (try simp only [Go.Sym.vs1, reduceCtorEq] at h) <;> try (exfalso; first | omega | (simp at h; done))) | ((conv in Vc _ => arg 1; whnf); first | (with_reducible refine vzC ?_; rfl) | (with_reducible first | (refine vzZ ?_; constructor) | refine vzC ?_ | refine vc_call [] c1 ?_ | refine vc_pure c3 ?_ ?_ ?_ | refine vzB [] ?_ ?_ ?_ | refine vzD ?_ ?_ | refine vc_ret [] [] ?_) | ((with_reducible first | refine vzE (fun h => ?_) (fun h => ?_) | refine vzF (fun h => ?_) (fun h => ?_)) <;> try (exfalso; omega)) | ((with_reducible refine vzG (fun h => ?_) (fun h => ?_)) <;> (try simp only [Go.Sym.vs1, reduceCtorEq] at h) <;> try (exfalso; first | omega | (simp at h; done)))))
      all_goals (try simp only [Int.toNat_natCast])
      all_goals first
        | with_reducible rfl
        | trivial
        | exact ⟨trivial, trivial, trivial, trivial⟩
        | exact ⟨trivial, trivial, trivial, trivial, trivial⟩
        | (exfalso; omega)
        | (exfalso; exact absurd (hh.symm.trans (show p.has = true by assumption)) (by decide))
        | (exfalso; exact absurd (hh.symm.trans (show p.has = false by assumption)) (by decide))
        | (rw [decide_eq_true (show p.chain.length < l.length by omega)]; rfl)
        | (rw [decide_eq_false (show ¬ p.chain.length < l.length by omega)]; rfl)
        | (exfalso; exact absurd rfl h)
        | exact ⟨⟨by omega, by omega, by omega⟩, sgn_size _⟩
        | exact ⟨⟨by omega, by omega⟩, by rw [sgn_at k3]; rfl⟩
        | exact ⟨⟨by omega, by omega⟩, by rw [sgn_at k4]; rfl⟩
        | (rw [cutS, sgn_at k3, sgn_at k4]; rfl)
        | rfl
        | trace_state
    | some k =>
      have e1 : findI p.pin p.chain l = k := by unfold findI; rw [hF]
      rw [e1] at c3
      obtain ⟨k1, k2⟩ := findF_at hF
      obtain ⟨k3, k4, _, _⟩ := partF_at k1
      cases hh : p.has with
      | true =>
        refine vc_fn mixed Try.func13 rfl rfl [] (vzH rfl) ?_
        repeat' (first | ((with_reducible refine vzH ?_); first | decide +kernel | rfl) | (with_reducible refine vzC ?_; rfl) | (with_reducible first | (refine vzZ ?_; constructor) | refine vzC ?_ | refine vc_call [] c1 ?_ | refine vc_pure c3 ?_ ?_ ?_ | refine vzB [] ?_ ?_ ?_ | refine vzD ?_ ?_ | refine vc_ret [] [] ?_) | ((with_reducible first | refine vzE (fun h => ?_) (fun h => ?_) | refine vzF (fun h => ?_) (fun h => ?_)) <;> try (exfalso; omega)) | ((with_reducible refine vzG (fun h => ?_) (fun h => ?_)) <;> (try simp only [Go.Sym.vs1, reduceCtorEq] at h) <;> try (exfalso; first | omega | (simp at h; done))) | ((conv in Vc _ => arg 1; whnf); first | (with_reducible refine vzC ?_; rfl) | (with_reducible first | (refine vzZ ?_; constructor) | refine vzC ?_ | refine vc_call [] c1 ?_ | refine vc_pure c3 ?_ ?_ ?_ | refine vzB [] ?_ ?_ ?_ | refine vzD ?_ ?_ | refine vc_ret [] [] ?_) | ((with_reducible first | refine vzE (fun h => ?_) (fun h => ?_) | refine vzF (fun h => ?_) (fun h => ?_)) <;> try (exfalso; omega)) | ((with_reducible refine vzG (fun h => ?_) (fun h => ?_)) <;> (try simp only [Go.Sym.vs1, reduceCtorEq] at h) <;> try (exfalso; first | omega | (simp at h; done)))))
        all_goals (try simp only [Int.toNat_natCast])
        all_goals first
          | with_reducible rfl
          | trivial
          | exact ⟨trivial, trivial, trivial, trivial⟩
          | exact ⟨trivial, trivial, trivial, trivial, trivial⟩
          | (exfalso; omega)
          | (exfalso; exact absurd (hh.symm.trans (show p.has = true by assumption)) (by decide))
          | (exfalso; exact absurd (hh.symm.trans (show p.has = false by assumption)) (by decide))
          | (rw [decide_eq_true (show p.chain.length < l.length by omega)]; rfl)
          | (rw [decide_eq_false (show ¬ p.chain.length < l.length by omega)]; rfl)
          | (exfalso; exact absurd rfl h)
          | exact ⟨⟨by omega, by omega, by omega⟩, sgn_size _⟩
          | exact ⟨⟨by omega, by omega⟩, by rw [sgn_at k3]; rfl⟩
          | exact ⟨⟨by omega, by omega⟩, by rw [sgn_at k4]; rfl⟩
          | (rw [cutS, sgn_at k3, sgn_at k4]; rfl)
          | rfl
          | trace_state
      | false =>
        refine vc_fn mixed Try.func13 rfl rfl [] (vzH rfl) ?_
        repeat' (first | ((with_reducible refine vzH ?_); first | decide +kernel | rfl) | (with_reducible refine vzC ?_; rfl) | (with_reducible first | (refine vzZ ?_; constructor) | refine vzC ?_ | refine vc_call [] c1 ?_ | refine vc_pure c3 ?_ ?_ ?_ | refine vzB [] ?_ ?_ ?_ | refine vzD ?_ ?_ | refine vc_ret [] [] ?_) | ((with_reducible first | refine vzE (fun h => ?_) (fun h => ?_) | refine vzF (fun h => ?_) (fun h => ?_)) <;> try (exfalso; omega)) | ((with_reducible refine vzG (fun h => ?_) (fun h => ?_)) <;> (try simp only [Go.Sym.vs1, reduceCtorEq] at h) <;> try (exfalso; first | omega | (simp at h; done))) | ((conv in Vc _ => arg 1; whnf); first | (with_reducible refine vzC ?_; rfl) | (with_reducible first | (refine vzZ ?_; constructor) | refine vzC ?_ | refine vc_call [] c1 ?_ | refine vc_pure c3 ?_ ?_ ?_ | refine vzB [] ?_ ?_ ?_ | refine vzD ?_ ?_ | refine vc_ret [] [] ?_) | ((with_reducible first | refine vzE (fun h => ?_) (fun h => ?_) | refine vzF (fun h => ?_) (fun h => ?_)) <;> try (exfalso; omega)) | ((with_reducible refine vzG (fun h => ?_) (fun h => ?_)) <;> (try simp only [Go.Sym.vs1, reduceCtorEq] at h) <;> try (exfalso; first | omega | (simp at h; done)))))
        all_goals (try simp only [Int.toNat_natCast])
        all_goals first
          | with_reducible rfl
          | trivial
          | exact ⟨trivial, trivial, trivial, trivial⟩
          | exact ⟨trivial, trivial, trivial, trivial, trivial⟩
          | (exfalso; omega)
          | (exfalso; exact absurd (hh.symm.trans (show p.has = true by assumption)) (by decide))
          | (exfalso; exact absurd (hh.symm.trans (show p.has = false by assumption)) (by decide))
          | (rw [decide_eq_true (show p.chain.length < l.length by omega)]; rfl)
          | (rw [decide_eq_false (show ¬ p.chain.length < l.length by omega)]; rfl)
          | (exfalso; exact absurd rfl h)
          | exact ⟨⟨by omega, by omega, by omega⟩, sgn_size _⟩
          | exact ⟨⟨by omega, by omega⟩, by rw [sgn_at k3]; rfl⟩
          | exact ⟨⟨by omega, by omega⟩, by rw [sgn_at k4]; rfl⟩
          | (rw [cutS, sgn_at k3, sgn_at k4]; rfl)
          | rfl
          | trace_state
  · rw [decide_eq_false he, cond_false]
    unfold hearI at he ⊢
    have key : LocalCall Try.prog 13 [.d (prD p), .d (.sl (l.map sD))] [] [] (one [.d prZ, .d (.int .i64 (walk (hdP p.pin) l).2.2)]) [] := by
      refine vc_fn mixed Try.func13 rfl rfl [] (vzH rfl) ?_
      repeat' (first | ((with_reducible refine vzH ?_); first | decide +kernel | rfl) | (with_reducible refine vzC ?_; rfl) | (with_reducible first | (refine vzZ ?_; constructor) | refine vzC ?_ | refine vc_call [] c1 ?_ | refine vzB [] ?_ ?_ ?_ | refine vzD ?_ ?_ | refine vc_ret [] [] ?_) | ((with_reducible first | refine vzE (fun h => ?_) (fun h => ?_) | refine vzF (fun h => ?_) (fun h => ?_)) <;> try (exfalso; omega)) | ((with_reducible refine vzG (fun h => ?_) (fun h => ?_)) <;> (try simp only [Go.Sym.vs1, reduceCtorEq] at h) <;> try (exfalso; first | omega | (simp at h; done))) | ((conv in Vc _ => arg 1; whnf); first | (with_reducible refine vzC ?_; rfl) | (with_reducible first | (refine vzZ ?_; constructor) | refine vzC ?_ | refine vc_call [] c1 ?_ | refine vzB [] ?_ ?_ ?_ | refine vzD ?_ ?_ | refine vc_ret [] [] ?_) | ((with_reducible first | refine vzE (fun h => ?_) (fun h => ?_) | refine vzF (fun h => ?_) (fun h => ?_)) <;> try (exfalso; omega)) | ((with_reducible refine vzG (fun h => ?_) (fun h => ?_)) <;> (try simp only [Go.Sym.vs1, reduceCtorEq] at h) <;> try (exfalso; first | omega | (simp at h; done)))))
      all_goals (try simp only [Int.toNat_natCast])
      all_goals first
        | with_reducible rfl
        | trivial
        | exact ⟨trivial, trivial, trivial, trivial⟩
        | exact ⟨trivial, trivial, trivial, trivial, trivial⟩
        | (exfalso; omega)
        | (exfalso; exact absurd (hh.symm.trans (show p.has = true by assumption)) (by decide))
        | (exfalso; exact absurd (hh.symm.trans (show p.has = false by assumption)) (by decide))
        | (rw [decide_eq_true (show p.chain.length < l.length by omega)]; rfl)
        | (rw [decide_eq_false (show ¬ p.chain.length < l.length by omega)]; rfl)
        | (exfalso; exact absurd rfl h)
        | exact ⟨⟨by omega, by omega, by omega⟩, sgn_size _⟩
        | exact ⟨⟨by omega, by omega⟩, by rw [sgn_at k3]; rfl⟩
        | exact ⟨⟨by omega, by omega⟩, by rw [sgn_at k4]; rfl⟩
        | (rw [cutS, sgn_at k3, sgn_at k4]; rfl)
        | rfl
        | trace_state
    exact local_dn key
end
end
end Go.Proofs.Ytjgkngjeniameaa

namespace Go.Proofs.Ytjgkngjeniameaa
open Go.Sym
set_option maxRecDepth 10000
set_option maxHeartbeats 4000000
section
variable (p : Pee) (hf : fitL p.chain) (hl : p.chain.length ≤ 5000)
include hf hl
theorem gtell_ok : LocalCall Try.prog 24 [.d (prD p)] [] [] (one [.d (.sl ((telB p.chain).map byteD))]) [] := by
  have lt : (p.chain.map sD).length = p.chain.length := List.length_map _
  have c1 : ∀ i, i < p.chain.length → _ := fun i hi => sgnW_at hf hi
  have c2 := texts_any (p.chain.map sgnB) (room_enc hf hl)
  refine vc_fn mixed Try.func24 rfl rfl [(500001, [9001003])] (vzH rfl) ?_
  repeat' (first | ((with_reducible refine vzH ?_); first | decide +kernel | rfl) | (with_reducible refine vzC ?_; rfl) | (with_reducible first | (refine vzZ ?_; constructor) | refine vzC ?_ | refine vc_call [] (c1 i (by omega)) ?_ | refine vc_call [true] c2 ?_ | refine vc_loopI 21 (fun (i : Nat) => [(3, .sl 9 [] 1 0 ((p.chain.take i).map sgnB).length), (7, .d (.sl (p.chain.map sD))), (8, .d (.int .i64 ((p.chain.map sD).length : Nat))), (9, .d (.int .i64 (i : Int)))]) (fun i => [(9, .row 1 (((p.chain.take i).map sgnB).map tD))]) (fun i => p.chain.length - i) (fun i => i ≤ p.chain.length) 0 [] ?_ ?_ ?_ ?_ ?_ (fun i hI => ?_) | refine vc_nextI (i + 1) [(9, 6016)] ?_ ?_ ?_ ?_ ?_ ?_ | refine vzB [] ?_ ?_ ?_ | refine vzD ?_ ?_ | refine vc_ret [] [] ?_) | ((with_reducible first | refine vzE (fun h => ?_) (fun h => ?_) | refine vzF (fun h => ?_) (fun h => ?_)) <;> try (exfalso; omega)) | ((with_reducible refine vzG (fun h => ?_) (fun h => ?_)) <;> (try simp only [Go.Sym.vs1, reduceCtorEq] at h) <;> try (exfalso; first | omega | (simp at h; done))) | ((conv in Vc _ => arg 1; whnf); first | (with_reducible refine vzC ?_; rfl) | (with_reducible first | (refine vzZ ?_; constructor) | refine vzC ?_ | refine vc_call [] (c1 i (by omega)) ?_ | refine vc_call [true] c2 ?_ | refine vc_loopI 21 (fun (i : Nat) => [(3, .sl 9 [] 1 0 ((p.chain.take i).map sgnB).length), (7, .d (.sl (p.chain.map sD))), (8, .d (.int .i64 ((p.chain.map sD).length : Nat))), (9, .d (.int .i64 (i : Int)))]) (fun i => [(9, .row 1 (((p.chain.take i).map sgnB).map tD))]) (fun i => p.chain.length - i) (fun i => i ≤ p.chain.length) 0 [] ?_ ?_ ?_ ?_ ?_ (fun i hI => ?_) | refine vc_nextI (i + 1) [(9, 6016)] ?_ ?_ ?_ ?_ ?_ ?_ | refine vzB [] ?_ ?_ ?_ | refine vzD ?_ ?_ | refine vc_ret [] [] ?_) | ((with_reducible first | refine vzE (fun h => ?_) (fun h => ?_) | refine vzF (fun h => ?_) (fun h => ?_)) <;> try (exfalso; omega)) | ((with_reducible refine vzG (fun h => ?_) (fun h => ?_)) <;> (try simp only [Go.Sym.vs1, reduceCtorEq] at h) <;> try (exfalso; first | omega | (simp at h; done)))))
  all_goals (try simp only [List.length_replicate, List.length_map, Nat.zero_add, Int.toNat_natCast, List.nil_append, List.drop_zero, List.take_length, Nat.sub_zero])
  all_goals first
    | with_reducible rfl
    | omega
    | exact ⟨⟨by omega, by omega⟩, by rw [sgn_at (by omega)]; rfl⟩
    | (show D.st _ = sD _; rw [sgn_at (by omega)]; rfl)
    | exact ⟨⟨Nat.le_refl _, by first | trivial | rfl, room24' (by simp only [List.length_append, List.length_map, List.length_take, List.length_cons, List.length_nil]; omega)⟩, fun y hy => (by rw [List.mem_singleton.1 hy]; rfl)⟩
    | exact sgB_app _ (by omega)
    | (rw [List.length_append, List.length_map, List.length_map, List.length_take, List.length_take]; show _ + 1 = _; omega)
    | (rw [wrap64_id (by omega) (by omega)]; rfl)
    | exact ⟨Nat.le_refl _, trivial⟩
    | (rw [show List.take i p.chain = p.chain from List.take_of_length_le (by omega)]; first | done | (rw [← List.length_map (f := sgnB), ← List.length_map (f := tD), List.take_length]; done) | rfl)
    | rfl
    | trace_state
theorem rGtell_ok : LocalCall Try.prog 26 [.d (prD p)] [] [] (one [.d (.sl ((telB p.chain).map byteD))]) [] := by
  have lt : (p.chain.map sD).length = p.chain.length := List.length_map _
  have c1 : ∀ i, i < p.chain.length → _ := fun i hi => rSgnW_at hf hi
  have c2 := refTs_ok (p.chain.map sgnB) (by rw [List.length_map]; omega) (room_enc hf hl)
  refine vc_fn mixed Try.func26 rfl rfl [(500001, [9001003])] (vzH rfl) ?_
  repeat' (first | ((with_reducible refine vzH ?_); first | decide +kernel | rfl) | (with_reducible refine vzC ?_; rfl) | (with_reducible first | (refine vzZ ?_; constructor) | refine vzC ?_ | refine vc_call [] (c1 i (by omega)) ?_ | refine vc_call [true] c2 ?_ | refine vc_loopI 23 (fun (i : Nat) => [(1, .ptr 1000 []), (3, .sl 9 [] 1 0 ((p.chain.take i).map sgnB).length), (4, .d (.int .i64 (i : Int)))]) (fun i => [(1000, .var (.d (prD p))), (9, .row 1 (((p.chain.take i).map sgnB).map tD))]) (fun i => p.chain.length - i) (fun i => i ≤ p.chain.length) 0 [] ?_ ?_ ?_ ?_ ?_ (fun i hI => ?_) | refine vc_nextI (i + 1) [(9, 6032)] ?_ ?_ ?_ ?_ ?_ ?_ | refine vzB [] ?_ ?_ ?_ | refine vzD ?_ ?_ | refine vc_ret [] [] ?_) | ((with_reducible first | refine vzE (fun h => ?_) (fun h => ?_) | refine vzF (fun h => ?_) (fun h => ?_)) <;> try (exfalso; omega)) | ((with_reducible refine vzG (fun h => ?_) (fun h => ?_)) <;> (try simp only [Go.Sym.vs1, reduceCtorEq] at h) <;> try (exfalso; first | omega | (simp at h; done))) | ((conv in Vc _ => arg 1; whnf); first | (with_reducible refine vzC ?_; rfl) | (with_reducible first | (refine vzZ ?_; constructor) | refine vzC ?_ | refine vc_call [] (c1 i (by omega)) ?_ | refine vc_call [true] c2 ?_ | refine vc_loopI 23 (fun (i : Nat) => [(1, .ptr 1000 []), (3, .sl 9 [] 1 0 ((p.chain.take i).map sgnB).length), (4, .d (.int .i64 (i : Int)))]) (fun i => [(1000, .var (.d (prD p))), (9, .row 1 (((p.chain.take i).map sgnB).map tD))]) (fun i => p.chain.length - i) (fun i => i ≤ p.chain.length) 0 [] ?_ ?_ ?_ ?_ ?_ (fun i hI => ?_) | refine vc_nextI (i + 1) [(9, 6032)] ?_ ?_ ?_ ?_ ?_ ?_ | refine vzB [] ?_ ?_ ?_ | refine vzD ?_ ?_ | refine vc_ret [] [] ?_) | ((with_reducible first | refine vzE (fun h => ?_) (fun h => ?_) | refine vzF (fun h => ?_) (fun h => ?_)) <;> try (exfalso; omega)) | ((with_reducible refine vzG (fun h => ?_) (fun h => ?_)) <;> (try simp only [Go.Sym.vs1, reduceCtorEq] at h) <;> try (exfalso; first | omega | (simp at h; done)))))
  all_goals (try simp only [List.length_replicate, List.length_map, Nat.zero_add, Int.toNat_natCast, List.nil_append, List.drop_zero, List.take_length, Nat.sub_zero])
  all_goals first
    | with_reducible rfl
    | omega
    | exact ⟨⟨by omega, by omega⟩, by rw [sgn_at (by omega)]; rfl⟩
    | (show D.st _ = sD _; rw [sgn_at (by omega)]; rfl)
    | exact ⟨⟨Nat.le_refl _, by first | trivial | rfl, room24' (by simp only [List.length_append, List.length_map, List.length_take, List.length_cons, List.length_nil]; omega)⟩, fun y hy => (by rw [List.mem_singleton.1 hy]; rfl)⟩
    | exact sgB_app _ (by omega)
    | (rw [List.length_append, List.length_map, List.length_map, List.length_take, List.length_take]; show _ + 1 = _; omega)
    | (rw [wrap64_id (by omega) (by omega)]; rfl)
    | exact ⟨Nat.le_refl _, trivial⟩
    | (rw [show List.take i p.chain = p.chain from List.take_of_length_le (by omega)]; first | done | (rw [← List.length_map (f := sgnB), ← List.length_map (f := tD), List.take_length]; done) | rfl)
    | rfl
    | trace_state
end
end Go.Proofs.Ytjgkngjeniameaa

namespace Go.Proofs.Ytjgkngjeniameaa
open Go.Sym
set_option maxRecDepth 10000
set_option maxHeartbeats 4000000
theorem accV_back {pin : List UInt8} {e : Evd} (h : rdE (evB e) = some e) : accV pin (evB e) = chkE pin e := by unfold accV; rw [h]
def unl (l m : List Sgn) (i : Nat) : Bool := (List.range i).any fun j => !decide ((l.getD j s0).root = (m.getD j s0).root)
theorem unl_succ (l m : List Sgn) (i : Nat) : unl l m (i + 1) = (unl l m i || !decide ((l.getD i s0).root = (m.getD i s0).root)) := by
  unfold unl
  rw [List.range_succ, List.any_append]; simp
theorem unl_end {l m : List Sgn} {i : Nat} (h1 : i ≤ l.length) (h2 : i ≤ m.length) (h : l.length ≤ i ∨ m.length ≤ i) : unl l m i = (partF l m).isSome := by
  unfold unl partF
  rw [show min l.length m.length = i by omega, Bool.eq_iff_iff, List.any_eq_true, List.find?_isSome]
theorem unl_bool (a b : Rt) : D.bool (bif true then !(D.beq (rootD a) (rootD b)) else D.beq (rootD a) (rootD b)) = D.bool (!decide (a = b)) := by
  show D.bool (!(D.beq (rootD a) (rootD b))) = _
  rw [beq_root]
end Go.Proofs.Ytjgkngjeniameaa
