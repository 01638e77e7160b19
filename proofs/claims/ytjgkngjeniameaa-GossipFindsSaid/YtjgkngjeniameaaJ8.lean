import Derived.Test.YtjgkngjeniameaaJ7
set_option linter.unusedSimpArgs false
set_option linter.unusedVariables false
namespace Go.Proofs.Ytjgkngjeniameaa
open Go.Sym
set_option maxRecDepth 10000
set_option maxHeartbeats 4000000
theorem gnew_ok (pin : List UInt8) (hp : pin.length = 32) : LocalCall Try.prog 15 [.d (digD pin)] [] [] (one [.d (prD ⟨pin, [], false, e0⟩)]) [] := by
  have key : LocalCall Try.prog 15 [.d (digD pin)] [] [] (one [.d (.st [digD pin, .nils, .bool false, evZ])]) [] := by
    refine vc_fn mixed Try.func15 rfl rfl [] (vzH rfl) ?_
    repeat' (first | ((with_reducible refine vzH ?_); first | decide +kernel | rfl) | (with_reducible refine vzC ?_; rfl) | (with_reducible first | (refine vzZ ?_; constructor) | refine vzC ?_ | refine vzB [] ?_ ?_ ?_ | refine vzD ?_ ?_ | refine vc_ret [] [] ?_) | ((with_reducible first | refine vzE (fun h => ?_) (fun h => ?_) | refine vzF (fun h => ?_) (fun h => ?_)) <;> try (exfalso; omega)) | ((with_reducible refine vzG (fun h => ?_) (fun h => ?_)) <;> (try simp only [Go.Sym.vs1, reduceCtorEq] at h) <;> try (exfalso; first | omega | (simp at h; done))) | ((conv in Vc _ => arg 1; whnf); first | (with_reducible refine vzC ?_; rfl) | (with_reducible first | (refine vzZ ?_; constructor) | refine vzC ?_ | refine vzB [] ?_ ?_ ?_ | refine vzD ?_ ?_ | refine vc_ret [] [] ?_) | ((with_reducible first | refine vzE (fun h => ?_) (fun h => ?_) | refine vzF (fun h => ?_) (fun h => ?_)) <;> try (exfalso; omega)) | ((with_reducible refine vzG (fun h => ?_) (fun h => ?_)) <;> (try simp only [Go.Sym.vs1, reduceCtorEq] at h) <;> try (exfalso; first | omega | (simp at h; done)))))
    all_goals first
      | with_reducible rfl
      | omega
      | exact ⟨trivial, trivial⟩
      | exact ⟨trivial, trivial, trivial⟩
      | exact ⟨trivial, trivial, trivial, trivial⟩
      | exact ⟨⟨by decide, by decide, by decide⟩, trivial⟩
      | exact ⟨Nat.le_of_eq (Nat.zero_add _), trivial⟩
      | exact ⟨Nat.le_refl _, trivial, trivial⟩
      | (rw [wrap64_id (by omega) (by omega)]; rfl)
      | rfl
      | (exfalso; simp at h; done)
      | skip
    all_goals trace_state
  exact local_dn1 key
section
variable (p : Pee) (hw : wfPe p) (hf : fitP p) (la : p.chain.length ≤ 2 ^ 19) (lb : p.ev.trunk.length ≤ 2 ^ 19)
include hw hf la lb
theorem blame_ok (bs : List UInt8) (hb : bs.length < 2 ^ 63) : LocalCall Try.prog 16 [.d (prD p), .d (.sl (bs.map byteD))] [] [] (one [.d (prD (blamP p bs)), .d (.int .i64 (blamI p bs))]) [] := by
  have c0 := eaccept_ok p.pin hw.pin bs hb
  have c1 := gown_ok p hf la lb
  unfold blamP blamT
  by_cases he : blamI p bs = 0
  · rw [decide_eq_true he, cond_true]
    unfold blamI at he ⊢
    rw [he] at c0 ⊢
    cases hr : rdE bs with
    | none => unfold accV at he; rw [hr] at he; cases he
    | some e =>
      have c2 := eread_some bs hb e hr
      cases hh : p.has with
      | true =>
        refine vc_fn mixed Try.func16 rfl rfl [] (vzH rfl) ?_
        repeat' (first | ((with_reducible refine vzH ?_); first | decide +kernel | rfl) | (with_reducible refine vzC ?_; rfl) | (with_reducible first | (refine vzZ ?_; constructor) | refine vzC ?_ | refine vc_pure c0 ?_ ?_ ?_ | refine vc_pure c1 ?_ ?_ ?_ | refine vc_pure c2 ?_ ?_ ?_ | refine vzB [] ?_ ?_ ?_ | refine vzD ?_ ?_ | refine vc_ret [] [] ?_) | ((with_reducible first | refine vzE (fun h => ?_) (fun h => ?_) | refine vzF (fun h => ?_) (fun h => ?_)) <;> try (exfalso; omega)) | ((with_reducible refine vzG (fun h => ?_) (fun h => ?_)) <;> (try simp only [Go.Sym.vs1, reduceCtorEq] at h) <;> try (exfalso; first | omega | (simp at h; done))) | ((conv in Vc _ => arg 1; whnf); first | (with_reducible refine vzC ?_; rfl) | (with_reducible first | (refine vzZ ?_; constructor) | refine vzC ?_ | refine vc_pure c0 ?_ ?_ ?_ | refine vc_pure c1 ?_ ?_ ?_ | refine vc_pure c2 ?_ ?_ ?_ | refine vzB [] ?_ ?_ ?_ | refine vzD ?_ ?_ | refine vc_ret [] [] ?_) | ((with_reducible first | refine vzE (fun h => ?_) (fun h => ?_) | refine vzF (fun h => ?_) (fun h => ?_)) <;> try (exfalso; omega)) | ((with_reducible refine vzG (fun h => ?_) (fun h => ?_)) <;> (try simp only [Go.Sym.vs1, reduceCtorEq] at h) <;> try (exfalso; first | omega | (simp at h; done)))))
        all_goals first
          | with_reducible rfl
          | trivial
          | exact ⟨trivial, trivial⟩
          | exact ⟨trivial, trivial, trivial⟩
          | exact ⟨trivial, trivial, trivial, trivial⟩
          | (exfalso; exact absurd (hh.symm.trans (show p.has = true by assumption)) (by decide))
          | (exfalso; exact absurd (hh.symm.trans (show p.has = false by assumption)) (by decide))
          | (exfalso; exact absurd rfl h)
          | rfl
          | trace_state
      | false =>
        refine vc_fn mixed Try.func16 rfl rfl [] (vzH rfl) ?_
        repeat' (first | ((with_reducible refine vzH ?_); first | decide +kernel | rfl) | (with_reducible refine vzC ?_; rfl) | (with_reducible first | (refine vzZ ?_; constructor) | refine vzC ?_ | refine vc_pure c0 ?_ ?_ ?_ | refine vc_pure c1 ?_ ?_ ?_ | refine vc_pure c2 ?_ ?_ ?_ | refine vzB [] ?_ ?_ ?_ | refine vzD ?_ ?_ | refine vc_ret [] [] ?_) | ((with_reducible first | refine vzE (fun h => ?_) (fun h => ?_) | refine vzF (fun h => ?_) (fun h => ?_)) <;> try (exfalso; omega)) | ((with_reducible refine vzG (fun h => ?_) (fun h => ?_)) <;> (try simp only [Go.Sym.vs1, reduceCtorEq] at h) <;> try (exfalso; first | omega | (simp at h; done))) | ((conv in Vc _ => arg 1; whnf); first | (with_reducible refine vzC ?_; rfl) | (with_reducible first | (refine vzZ ?_; constructor) | refine vzC ?_ | refine vc_pure c0 ?_ ?_ ?_ | refine vc_pure c1 ?_ ?_ ?_ | refine vc_pure c2 ?_ ?_ ?_ | refine vzB [] ?_ ?_ ?_ | refine vzD ?_ ?_ | refine vc_ret [] [] ?_) | ((with_reducible first | refine vzE (fun h => ?_) (fun h => ?_) | refine vzF (fun h => ?_) (fun h => ?_)) <;> try (exfalso; omega)) | ((with_reducible refine vzG (fun h => ?_) (fun h => ?_)) <;> (try simp only [Go.Sym.vs1, reduceCtorEq] at h) <;> try (exfalso; first | omega | (simp at h; done)))))
        all_goals first
          | with_reducible rfl
          | trivial
          | exact ⟨trivial, trivial⟩
          | exact ⟨trivial, trivial, trivial⟩
          | exact ⟨trivial, trivial, trivial, trivial⟩
          | (exfalso; exact absurd (hh.symm.trans (show p.has = true by assumption)) (by decide))
          | (exfalso; exact absurd (hh.symm.trans (show p.has = false by assumption)) (by decide))
          | (exfalso; exact absurd rfl h)
          | rfl
          | trace_state
  · rw [decide_eq_false he, cond_false]
    unfold blamI at he ⊢
    have key : LocalCall Try.prog 16 [.d (prD p), .d (.sl (bs.map byteD))] [] [] (one [.d prZ, .d (.int .i64 (accV p.pin bs))]) [] := by
      refine vc_fn mixed Try.func16 rfl rfl [] (vzH rfl) ?_
      repeat' (first | ((with_reducible refine vzH ?_); first | decide +kernel | rfl) | (with_reducible refine vzC ?_; rfl) | (with_reducible first | (refine vzZ ?_; constructor) | refine vzC ?_ | refine vc_pure c0 ?_ ?_ ?_ | refine vzB [] ?_ ?_ ?_ | refine vzD ?_ ?_ | refine vc_ret [] [] ?_) | ((with_reducible first | refine vzE (fun h => ?_) (fun h => ?_) | refine vzF (fun h => ?_) (fun h => ?_)) <;> try (exfalso; omega)) | ((with_reducible refine vzG (fun h => ?_) (fun h => ?_)) <;> (try simp only [Go.Sym.vs1, reduceCtorEq] at h) <;> try (exfalso; first | omega | (simp at h; done))) | ((conv in Vc _ => arg 1; whnf); first | (with_reducible refine vzC ?_; rfl) | (with_reducible first | (refine vzZ ?_; constructor) | refine vzC ?_ | refine vc_pure c0 ?_ ?_ ?_ | refine vzB [] ?_ ?_ ?_ | refine vzD ?_ ?_ | refine vc_ret [] [] ?_) | ((with_reducible first | refine vzE (fun h => ?_) (fun h => ?_) | refine vzF (fun h => ?_) (fun h => ?_)) <;> try (exfalso; omega)) | ((with_reducible refine vzG (fun h => ?_) (fun h => ?_)) <;> (try simp only [Go.Sym.vs1, reduceCtorEq] at h) <;> try (exfalso; first | omega | (simp at h; done)))))
      all_goals first
        | with_reducible rfl
        | trivial
        | exact ⟨trivial, trivial⟩
        | exact ⟨trivial, trivial, trivial⟩
        | exact ⟨trivial, trivial, trivial, trivial⟩
        | (exfalso; exact absurd (hh.symm.trans (show p.has = true by assumption)) (by decide))
        | (exfalso; exact absurd (hh.symm.trans (show p.has = false by assumption)) (by decide))
        | (exfalso; exact absurd rfl h)
        | rfl
        | trace_state
    exact local_dn key
omit hw la lb in
theorem accuse_ok (lc : p.ev.trunk.length ≤ 1000) : LocalCall Try.prog 18 [.d (prD p)] [] [] (one [.d (.sl ((accB p).map byteD))]) [] := by
  have c1 := ebytes_ok p.ev hf.2 lc
  unfold accB
  cases hh : p.has with
  | true =>
    refine vc_fn mixed Try.func18 rfl rfl [] (vzH rfl) ?_
    repeat' (first | ((with_reducible refine vzH ?_); first | decide +kernel | rfl) | (with_reducible refine vzC ?_; rfl) | (with_reducible first | (refine vzZ ?_; constructor) | refine vzC ?_ | refine vc_pure c1 ?_ ?_ ?_ | refine vzB [] ?_ ?_ ?_ | refine vzD ?_ ?_ | refine vc_ret [] [] ?_) | ((with_reducible first | refine vzE (fun h => ?_) (fun h => ?_) | refine vzF (fun h => ?_) (fun h => ?_)) <;> try (exfalso; omega)) | ((with_reducible refine vzG (fun h => ?_) (fun h => ?_)) <;> (try simp only [Go.Sym.vs1, reduceCtorEq] at h) <;> try (exfalso; first | omega | (simp at h; done))) | ((conv in Vc _ => arg 1; whnf); first | (with_reducible refine vzC ?_; rfl) | (with_reducible first | (refine vzZ ?_; constructor) | refine vzC ?_ | refine vc_pure c1 ?_ ?_ ?_ | refine vzB [] ?_ ?_ ?_ | refine vzD ?_ ?_ | refine vc_ret [] [] ?_) | ((with_reducible first | refine vzE (fun h => ?_) (fun h => ?_) | refine vzF (fun h => ?_) (fun h => ?_)) <;> try (exfalso; omega)) | ((with_reducible refine vzG (fun h => ?_) (fun h => ?_)) <;> (try simp only [Go.Sym.vs1, reduceCtorEq] at h) <;> try (exfalso; first | omega | (simp at h; done)))))
    all_goals first
      | with_reducible rfl
      | (exfalso; exact absurd (hh.symm.trans (show p.has = false by assumption)) (by decide))
      | rfl
      | trace_state
  | false =>
    have key : LocalCall Try.prog 18 [.d (prD p)] [] [] (one [.d .nils]) [] := by
      refine vc_fn mixed Try.func18 rfl rfl [] (vzH rfl) ?_
      repeat' (first | ((with_reducible refine vzH ?_); first | decide +kernel | rfl) | (with_reducible refine vzC ?_; rfl) | (with_reducible first | (refine vzZ ?_; constructor) | refine vzC ?_ | refine vc_pure c1 ?_ ?_ ?_ | refine vzB [] ?_ ?_ ?_ | refine vzD ?_ ?_ | refine vc_ret [] [] ?_) | ((with_reducible first | refine vzE (fun h => ?_) (fun h => ?_) | refine vzF (fun h => ?_) (fun h => ?_)) <;> try (exfalso; omega)) | ((with_reducible refine vzG (fun h => ?_) (fun h => ?_)) <;> (try simp only [Go.Sym.vs1, reduceCtorEq] at h) <;> try (exfalso; first | omega | (simp at h; done))) | ((conv in Vc _ => arg 1; whnf); first | (with_reducible refine vzC ?_; rfl) | (with_reducible first | (refine vzZ ?_; constructor) | refine vzC ?_ | refine vc_pure c1 ?_ ?_ ?_ | refine vzB [] ?_ ?_ ?_ | refine vzD ?_ ?_ | refine vc_ret [] [] ?_) | ((with_reducible first | refine vzE (fun h => ?_) (fun h => ?_) | refine vzF (fun h => ?_) (fun h => ?_)) <;> try (exfalso; omega)) | ((with_reducible refine vzG (fun h => ?_) (fun h => ?_)) <;> (try simp only [Go.Sym.vs1, reduceCtorEq] at h) <;> try (exfalso; first | omega | (simp at h; done)))))
      all_goals first
        | with_reducible rfl
        | (exfalso; exact absurd (hh.symm.trans (show p.has = true by assumption)) (by decide))
        | rfl
        | trace_state
    exact local_dn1 key
end
def sumK : List Sgn → Int → Int
  | [], n => n
  | s :: l, n => bif decide (n ≤ 262144) then sumK l (IntKind.i64.wrap (n + (s.sig.length : Int))) else n
def fewG (l : List Sgn) : Bool := bif decide ((l.length : Int) > 30) then false else decide (sumK l 0 ≤ 262144)
theorem fewG_le {l : List Sgn} (h : fewG l = true) : l.length ≤ 30 := by
  unfold fewG at h
  by_cases hl : (l.length : Int) > 30
  · rw [decide_eq_true hl] at h; cases h
  · omega
theorem sumK_step {l : List Sgn} {i : Nat} (hi : i < l.length) {n : Int} (hn : n ≤ 262144) : sumK (l.drop i) n = sumK (l.drop (i + 1)) (IntKind.i64.wrap (n + ((l.getD i s0).sig.length : Int))) := by
  have hd : l.drop i = l.getD i s0 :: l.drop (i + 1) := by
    rw [List.drop_eq_getElem_cons hi, List.getD_eq_getElem?_getD, List.getElem?_eq_getElem hi]; rfl
  rw [hd, sumK, decide_eq_true hn, cond_true]
theorem sumK_stop {l : List Sgn} {i : Nat} {n : Int} (h : ¬ n ≤ 262144 ∨ l.length ≤ i) : sumK (l.drop i) n = n := by
  rcases Nat.lt_or_ge i l.length with hi | hi
  · have hn : ¬ n ≤ 262144 := h.resolve_right (by omega)
    rw [List.drop_eq_getElem_cons hi, sumK, decide_eq_false hn, cond_false]
  · rw [List.drop_eq_nil_of_le hi, sumK]
theorem few24_ok (l : List Sgn) : LocalCall Try.prog 10 [.d (.sl (l.map sD))] [] [] (one [.d (.bool (fewG l))]) [] := by
  have lm : (l.map sD).length = l.length := List.length_map _
  refine vc_fn mixed Try.func10 rfl rfl [] (vzH rfl) ?_
  repeat' (first | ((with_reducible refine vzH ?_); first | decide +kernel | rfl) | (with_reducible refine vzC ?_; rfl) | (with_reducible first | (refine vzZ ?_; constructor) | refine vzC ?_ | refine vc_loopI 28 (fun (x : Int × Nat) => [(0, .d (.sl (l.map sD))), (3, .d (.int .i64 x.1)), (4, .d (.int .i64 (x.2 : Int)))]) (fun _ => []) (fun x => l.length - x.2) (fun x => x.2 ≤ l.length ∧ sumK l 0 = sumK (l.drop x.2) x.1) (0, 0) [] ?_ ?_ ?_ ?_ ?_ (fun x hI => ?_) | refine vc_nextI (IntKind.i64.wrap (x.1 + ((l.getD x.2 s0).sig.length : Int)), x.2 + 1) [] ?_ ?_ ?_ ?_ ?_ ?_ | refine vzB [] ?_ ?_ ?_ | refine vzD ?_ ?_ | refine vc_ret [] [] ?_) | ((with_reducible first | refine vzE (fun h => ?_) (fun h => ?_) | refine vzF (fun h => ?_) (fun h => ?_)) <;> try (exfalso; omega)) | ((with_reducible refine vzG (fun h => ?_) (fun h => ?_)) <;> (try simp only [Go.Sym.vs1, reduceCtorEq] at h) <;> try (exfalso; first | omega | (simp at h; done))) | ((conv in Vc _ => arg 1; whnf); first | (with_reducible refine vzC ?_; rfl) | (with_reducible first | (refine vzZ ?_; constructor) | refine vzC ?_ | refine vc_loopI 28 (fun (x : Int × Nat) => [(0, .d (.sl (l.map sD))), (3, .d (.int .i64 x.1)), (4, .d (.int .i64 (x.2 : Int)))]) (fun _ => []) (fun x => l.length - x.2) (fun x => x.2 ≤ l.length ∧ sumK l 0 = sumK (l.drop x.2) x.1) (0, 0) [] ?_ ?_ ?_ ?_ ?_ (fun x hI => ?_) | refine vc_nextI (IntKind.i64.wrap (x.1 + ((l.getD x.2 s0).sig.length : Int)), x.2 + 1) [] ?_ ?_ ?_ ?_ ?_ ?_ | refine vzB [] ?_ ?_ ?_ | refine vzD ?_ ?_ | refine vc_ret [] [] ?_) | ((with_reducible first | refine vzE (fun h => ?_) (fun h => ?_) | refine vzF (fun h => ?_) (fun h => ?_)) <;> try (exfalso; omega)) | ((with_reducible refine vzG (fun h => ?_) (fun h => ?_)) <;> (try simp only [Go.Sym.vs1, reduceCtorEq] at h) <;> try (exfalso; first | omega | (simp at h; done)))))
  all_goals first
    | with_reducible rfl
    | (unfold fewG; rw [decide_eq_true (show (l.length : Int) > 30 by omega)]; rfl)
    | exact ⟨Nat.zero_le _, rfl⟩
    | exact ⟨⟨by omega, by omega⟩, by rw [Int.toNat_natCast, sgn_at (by omega)]; rfl⟩
    | exact ⟨by show x.2 + 1 ≤ l.length; omega, hI.2.trans (sumK_step (by omega) h)⟩
    | (show l.length - (x.2 + 1) < l.length - x.2; omega)
    | (simp only [Int.toNat_natCast, sgn_at (show x.2 < l.length by omega)]; show D.int .i64 (IntKind.i64.wrap (x.1 + (((l.getD x.2 s0).sig.map byteD).length : Int))) = _; rw [List.length_map]; done)
    | (rw [wrap64_id (by omega) (by omega)]; rfl)
    | (unfold fewG; rw [decide_eq_false (show ¬ (l.length : Int) > 30 by omega), cond_false, hI.2, sumK_stop (.inl h)]; done)
    | (unfold fewG; rw [decide_eq_false (show ¬ (l.length : Int) > 30 by omega), cond_false, hI.2, sumK_stop (.inr (by omega))]; done)
    | rfl
    | trace_state
def lightG (p : Pee) : Bool := fewG p.chain && (fewG p.ev.trunk && fewG [p.ev.a, p.ev.b])
theorem light24_ok (p : Pee) : LocalCall Try.prog 9 [.d (prD p)] [] [] (one [.d (.bool (lightG p))]) [] := by
  have c1 := few24_ok p.chain
  have c2 := few24_ok p.ev.trunk
  have c3 := few24_ok [p.ev.a, p.ev.b]
  unfold lightG
  refine vc_fn mixed Try.func9 rfl rfl [] (vzH rfl) ?_
  cases h1 : fewG p.chain <;> rw [h1] at c1
  · skip
    repeat' (first | ((with_reducible refine vzH ?_); first | decide +kernel | rfl) | (with_reducible refine vzC ?_; rfl) | (with_reducible first | (refine vzZ ?_; constructor) | refine vzC ?_ | refine vc_pure c1 ?_ ?_ ?_ | refine vzB [] ?_ ?_ ?_ | refine vzD ?_ ?_ | refine vc_ret [] [] ?_) | ((with_reducible first | refine vzE (fun h => ?_) (fun h => ?_) | refine vzF (fun h => ?_) (fun h => ?_)) <;> try (exfalso; omega)) | ((with_reducible refine vzG (fun h => ?_) (fun h => ?_)) <;> (try simp only [Go.Sym.vs1, reduceCtorEq] at h) <;> try (exfalso; first | omega | (simp at h; done))) | ((conv in Vc _ => arg 1; whnf); first | (with_reducible refine vzC ?_; rfl) | (with_reducible first | (refine vzZ ?_; constructor) | refine vzC ?_ | refine vc_pure c1 ?_ ?_ ?_ | refine vzB [] ?_ ?_ ?_ | refine vzD ?_ ?_ | refine vc_ret [] [] ?_) | ((with_reducible first | refine vzE (fun h => ?_) (fun h => ?_) | refine vzF (fun h => ?_) (fun h => ?_)) <;> try (exfalso; omega)) | ((with_reducible refine vzG (fun h => ?_) (fun h => ?_)) <;> (try simp only [Go.Sym.vs1, reduceCtorEq] at h) <;> try (exfalso; first | omega | (simp at h; done)))))
    all_goals first
      | with_reducible rfl
      | omega
      | exact ⟨trivial, trivial⟩
      | exact ⟨trivial, trivial, trivial⟩
      | exact ⟨trivial, trivial, trivial, trivial⟩
      | exact ⟨⟨by decide, by decide, by decide⟩, trivial⟩
      | exact ⟨Nat.le_of_eq (Nat.zero_add _), trivial⟩
      | exact ⟨Nat.le_refl _, trivial, trivial⟩
      | (rw [wrap64_id (by omega) (by omega)]; rfl)
      | rfl
      | (exfalso; simp at h; done)
      | skip
  · cases h2 : fewG p.ev.trunk <;> rw [h2] at c2
    · skip
      repeat' (first | ((with_reducible refine vzH ?_); first | decide +kernel | rfl) | (with_reducible refine vzC ?_; rfl) | (with_reducible first | (refine vzZ ?_; constructor) | refine vzC ?_ | refine vc_pure c1 ?_ ?_ ?_ | refine vc_pure c2 ?_ ?_ ?_ | refine vzB [] ?_ ?_ ?_ | refine vzD ?_ ?_ | refine vc_ret [] [] ?_) | ((with_reducible first | refine vzE (fun h => ?_) (fun h => ?_) | refine vzF (fun h => ?_) (fun h => ?_)) <;> try (exfalso; omega)) | ((with_reducible refine vzG (fun h => ?_) (fun h => ?_)) <;> (try simp only [Go.Sym.vs1, reduceCtorEq] at h) <;> try (exfalso; first | omega | (simp at h; done))) | ((conv in Vc _ => arg 1; whnf); first | (with_reducible refine vzC ?_; rfl) | (with_reducible first | (refine vzZ ?_; constructor) | refine vzC ?_ | refine vc_pure c1 ?_ ?_ ?_ | refine vc_pure c2 ?_ ?_ ?_ | refine vzB [] ?_ ?_ ?_ | refine vzD ?_ ?_ | refine vc_ret [] [] ?_) | ((with_reducible first | refine vzE (fun h => ?_) (fun h => ?_) | refine vzF (fun h => ?_) (fun h => ?_)) <;> try (exfalso; omega)) | ((with_reducible refine vzG (fun h => ?_) (fun h => ?_)) <;> (try simp only [Go.Sym.vs1, reduceCtorEq] at h) <;> try (exfalso; first | omega | (simp at h; done)))))
      all_goals first
        | with_reducible rfl
        | omega
        | exact ⟨trivial, trivial⟩
        | exact ⟨trivial, trivial, trivial⟩
        | exact ⟨trivial, trivial, trivial, trivial⟩
        | exact ⟨⟨by decide, by decide, by decide⟩, trivial⟩
        | exact ⟨Nat.le_of_eq (Nat.zero_add _), trivial⟩
        | exact ⟨Nat.le_refl _, trivial, trivial⟩
        | (rw [wrap64_id (by omega) (by omega)]; rfl)
        | rfl
        | (exfalso; simp at h; done)
        | skip
    · skip
      repeat' (first | ((with_reducible refine vzH ?_); first | decide +kernel | rfl) | (with_reducible refine vzC ?_; rfl) | (with_reducible first | (refine vzZ ?_; constructor) | refine vzC ?_ | refine vc_pure c1 ?_ ?_ ?_ | refine vc_pure c2 ?_ ?_ ?_ | refine vc_call [true] c3 ?_ | refine vzB [] ?_ ?_ ?_ | refine vzD ?_ ?_ | refine vc_ret [] [] ?_) | ((with_reducible first | refine vzE (fun h => ?_) (fun h => ?_) | refine vzF (fun h => ?_) (fun h => ?_)) <;> try (exfalso; omega)) | ((with_reducible refine vzG (fun h => ?_) (fun h => ?_)) <;> (try simp only [Go.Sym.vs1, reduceCtorEq] at h) <;> try (exfalso; first | omega | (simp at h; done))) | ((conv in Vc _ => arg 1; whnf); first | (with_reducible refine vzC ?_; rfl) | (with_reducible first | (refine vzZ ?_; constructor) | refine vzC ?_ | refine vc_pure c1 ?_ ?_ ?_ | refine vc_pure c2 ?_ ?_ ?_ | refine vc_call [true] c3 ?_ | refine vzB [] ?_ ?_ ?_ | refine vzD ?_ ?_ | refine vc_ret [] [] ?_) | ((with_reducible first | refine vzE (fun h => ?_) (fun h => ?_) | refine vzF (fun h => ?_) (fun h => ?_)) <;> try (exfalso; omega)) | ((with_reducible refine vzG (fun h => ?_) (fun h => ?_)) <;> (try simp only [Go.Sym.vs1, reduceCtorEq] at h) <;> try (exfalso; first | omega | (simp at h; done)))))
      all_goals first
        | with_reducible rfl
        | omega
        | exact ⟨trivial, trivial⟩
        | exact ⟨trivial, trivial, trivial⟩
        | exact ⟨trivial, trivial, trivial, trivial⟩
        | exact ⟨⟨by decide, by decide, by decide⟩, trivial⟩
        | exact ⟨Nat.le_of_eq (Nat.zero_add _), trivial⟩
        | exact ⟨Nat.le_refl _, trivial, trivial⟩
        | (rw [wrap64_id (by omega) (by omega)]; rfl)
        | exact ⟨by decide, rfl⟩
        | exact ⟨Nat.le_of_eq (Nat.zero_add _), trivial⟩
        | rfl
        | (exfalso; simp at h; done)
        | skip
      all_goals trace_state
theorem light_lens {p : Pee} (h : lightG p = true) : p.chain.length ≤ 30 ∧ p.ev.trunk.length ≤ 30 := by
  unfold lightG at h
  simp only [Bool.and_eq_true] at h
  exact ⟨fewG_le h.1, fewG_le h.2.1⟩
end Go.Proofs.Ytjgkngjeniameaa
