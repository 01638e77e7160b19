import Derived.Test.YtjgkngjeniameaaJ11
set_option linter.unusedSimpArgs false
set_option linter.unusedVariables false
namespace Go.Proofs.Ytjgkngjeniameaa
open Go.Sym
set_option maxRecDepth 10000
set_option maxHeartbeats 4000000
theorem sumK_bound : ∀ (l : List Sgn) (n : Int), 0 ≤ n → n ≤ 2 ^ 40 → (∀ s, s ∈ l → s.sig.length ≤ 2 ^ 21) → sumK l n ≤ 262144 → n ≤ 262144 ∧ ∀ s, s ∈ l → n + (s.sig.length : Int) ≤ 262144
  | [], n, _, _, _, h => ⟨h, nofun⟩
  | s :: l, n, h0, h1, hs, h => by
    have hl := hs s (by simp)
    by_cases hn : n ≤ 262144
    · rw [sumK, decide_eq_true hn, cond_true, wrap64_id (by omega) (by omega)] at h
      have ih := sumK_bound l (n + (s.sig.length : Int)) (by omega) (by omega) (fun t ht => hs t (by simp [ht])) h
      refine ⟨hn, fun t ht => ?_⟩
      rcases List.mem_cons.1 ht with rfl | ht
      · exact ih.1
      · have := ih.2 t ht; omega
    · rw [sumK, decide_eq_false hn, cond_false] at h
      exact absurd h hn
theorem fewG_sig {l : List Sgn} (h : fewG l = true) (hs : ∀ s, s ∈ l → s.sig.length ≤ 2 ^ 21) : ∀ s, s ∈ l → s.sig.length ≤ 262144 := fun s hm => by
  have hk := fewG_le h
  unfold fewG at h
  rw [decide_eq_false (by omega), cond_false, decide_eq_true_eq] at h
  have := (sumK_bound l 0 (by decide) (by decide) hs h).2 s hm
  omega
theorem wf_pr0 : wfPe pr0 := ⟨rfl, nofun, wf_e0⟩
theorem fit_pr0 : fitP pr0 := ⟨nofun, fit_e0⟩
theorem evAt_fit {l m : List Sgn} (hl : fitL l) (hm : fitL m) (k : Nat) : fitE (evAt l m k) := fun s hs => by
  have at_ : ∀ (l : List Sgn), fitL l → wfS (l.getD k s0) ∧ (l.getD k s0).sig.length ≤ 2 ^ 21 := fun l hl => by
    by_cases h : k < l.length
    · exact hl _ (by rw [List.getD_eq_getElem?_getD, List.getElem?_eq_getElem h]; simp)
    · rw [List.getD_eq_getElem?_getD, List.getElem?_eq_none (by omega)]; exact ⟨wfS_0, by decide⟩
  rcases List.mem_append.1 hs with hs | hs
  · exact hl s (List.mem_of_mem_take hs)
  · simp only [List.mem_cons, List.not_mem_nil, or_false] at hs
    rcases hs with rfl | rfl
    · exact at_ l hl
    · exact at_ m hm
theorem hear_ind {P : Pee → Prop} {p : Pee} {l : List Sgn} (h0 : P pr0) (h1 : P p) (h2 : hearI p l = 0 → ∀ k, P ⟨p.pin, p.chain, true, evAt p.chain l k⟩) (h3 : hearI p l = 0 → P ⟨p.pin, l, p.has, p.ev⟩) : P (hearP p l) := by
  unfold hearP
  by_cases he : hearI p l = 0
  · rw [decide_eq_true he, cond_true]
    unfold hearT
    cases findF p.pin p.chain l with
    | none =>
      by_cases hl : p.chain.length < l.length
      · simp only [decide_eq_true hl, cond_true]; exact h3 he
      · simp only [decide_eq_false hl, cond_false]; exact h1
    | some k => cases p.has with
      | true => exact h1
      | false => exact h2 he k
  · rw [decide_eq_false he, cond_false]; exact h0
theorem blam_ind {P : Pee → Prop} {p : Pee} {bs : List UInt8} (h0 : P pr0) (h1 : P p) (h2 : ∀ e, rdE bs = some e → P ⟨p.pin, p.chain, true, e⟩) : P (blamP p bs) := by
  unfold blamP
  by_cases he : blamI p bs = 0
  · rw [decide_eq_true he, cond_true]
    unfold blamT
    cases hr : rdE bs with
    | none => unfold blamI accV at he; rw [hr] at he; cases he
    | some e =>
      cases p.has with
      | true => exact h1
      | false => exact h2 e hr
  · rw [decide_eq_false he, cond_false]; exact h0
theorem evAt_trunk (l m : List Sgn) (k : Nat) : (evAt l m k).trunk.length ≤ l.length := by
  show (l.take k).length ≤ _
  rw [List.length_take]; omega
theorem hear_lens {p : Pee} {l : List Sgn} {n : Nat} (hc : p.chain.length ≤ n) (ht : p.ev.trunk.length ≤ n) (hl : l.length ≤ n) : (hearP p l).chain.length ≤ n ∧ (hearP p l).ev.trunk.length ≤ n :=
  hear_ind (P := fun q => q.chain.length ≤ n ∧ q.ev.trunk.length ≤ n) ⟨Nat.zero_le _, Nat.zero_le _⟩ ⟨hc, ht⟩ (fun _ k => ⟨hc, Nat.le_trans (evAt_trunk _ _ k) hc⟩) (fun _ => ⟨hl, ht⟩)
theorem hear_wf {p : Pee} {l : List Sgn} (hw : wfPe p) (hl : ∀ s, s ∈ l → wfS s) : wfPe (hearP p l) :=
  hear_ind wf_pr0 hw (fun _ k => ⟨hw.1, hw.2, evAt_wf hw.2 hl k⟩) (fun _ => ⟨hw.1, hl, hw.3⟩)
theorem hear_fit {p : Pee} {l : List Sgn} (hf : fitP p) (hl : ∀ s, s ∈ l → wfS s) : fitP (hearP p l) := by
  have fl : hearI p l = 0 → fitL l := fun h s hs => ⟨hl s hs, by rw [walk_sig _ _ h s hs]; decide⟩
  exact hear_ind fit_pr0 hf (fun h k => ⟨hf.1, evAt_fit hf.1 (fl h) k⟩) (fun h => ⟨fl h, hf.2⟩)
theorem blam_lens {p : Pee} {bs : List UInt8} (hc : p.chain.length ≤ 100) (ht : p.ev.trunk.length ≤ 100) : (blamP p bs).chain.length ≤ 100 ∧ (blamP p bs).ev.trunk.length ≤ 100 :=
  blam_ind (P := fun q => q.chain.length ≤ 100 ∧ q.ev.trunk.length ≤ 100) ⟨Nat.zero_le _, Nat.zero_le _⟩ ⟨hc, ht⟩ (fun e h => ⟨hc, Nat.le_trans (rdE_some h).2.2.1 (by decide)⟩)
theorem blam_wf {p : Pee} {bs : List UInt8} (hw : wfPe p) : wfPe (blamP p bs) :=
  blam_ind wf_pr0 hw (fun _ h => ⟨hw.1, hw.2, (rdE_some h).2.1⟩)
theorem blam_fit {p : Pee} {bs : List UInt8} (hf : fitP p) : fitP (blamP p bs) :=
  blam_ind fit_pr0 hf (fun _ h => ⟨hf.1, fit_of (rdE_some h).2.1 (rdE_some h).2.2.2⟩)
theorem partF_self (l : List Sgn) : partF l l = none := by
  cases h : partF l l with
  | none => rfl
  | some k => exact absurd rfl (partF_at h).2.2.1
theorem partF_nil (l : List Sgn) : partF l [] = none := by
  cases h : partF l [] with
  | none => rfl
  | some k => exact absurd (partF_at h).2.1 (Nat.not_lt_zero k)
theorem hearP_yes {p : Pee} {l : List Sgn} (h : hearI p l = 0) : hearP p l = hearT p l := by unfold hearP; rw [decide_eq_true h, cond_true]
theorem hear_pin {p : Pee} {l : List Sgn} (h : hearI p l = 0) : (hearP p l).pin = p.pin := by
  rw [hearP_yes h]; unfold hearT
  cases findF p.pin p.chain l with
  | none => cases decide (p.chain.length < l.length) <;> rfl
  | some k => cases p.has <;> rfl
theorem hear_nil (a : Pee) : hearI a [] = 0 ∧ hearP a [] = a := by
  have h : hearI a [] = 0 := rfl
  refine ⟨h, ?_⟩
  rw [hearP_yes h]; unfold hearT
  rw [findF_none (partF_nil _)]
  simp only [decide_eq_false (Nat.not_lt_zero a.chain.length), cond_false, List.length_nil]
theorem hear_again {p : Pee} {l : List Sgn} (h : hearI p l = 0) : hearI (hearP p l) l = 0 ∧ hearP (hearP p l) l = hearP p l := by
  have h2 : hearI (hearP p l) l = 0 := by unfold hearI; rw [hear_pin h]; exact h
  refine ⟨h2, ?_⟩
  rw [hearP_yes h2, hearP_yes h]
  cases hF : findF p.pin p.chain l with
  | none =>
    by_cases hl : p.chain.length < l.length
    · have e : hearT p l = ⟨p.pin, l, p.has, p.ev⟩ := by unfold hearT; simp only [hF, decide_eq_true hl, cond_true]
      rw [e]; unfold hearT
      simp only [findF_none (partF_self l), decide_eq_false (Nat.lt_irrefl l.length), cond_false]
    · have e : hearT p l = p := by unfold hearT; simp only [hF, decide_eq_false hl, cond_false]
      rw [e, e]
  | some k =>
    cases hh : p.has with
    | true =>
      have e : hearT p l = p := by unfold hearT; simp only [hF, hh, cond_true]
      rw [e, e]
    | false =>
      have e : hearT p l = ⟨p.pin, p.chain, true, evAt p.chain l k⟩ := by unfold hearT; simp only [hF, hh, cond_false]
      rw [e]; unfold hearT
      simp only [hF, cond_true]
theorem blam_again {p : Pee} {bs : List UInt8} (h : blamI p bs = 0) : blamI (blamP p bs) bs = 0 ∧ blamP (blamP p bs) bs = blamP p bs := by
  have e : blamP p bs = blamT p bs := by unfold blamP; rw [decide_eq_true h, cond_true]
  rw [e]
  cases hh : p.has with
  | true =>
    have e2 : blamT p bs = p := by unfold blamT; rw [hh]; rfl
    rw [e2]; exact ⟨h, e.trans e2⟩
  | false =>
    have e2 : blamT p bs = ⟨p.pin, p.chain, true, (rdE bs).getD e0⟩ := by unfold blamT; rw [hh]; rfl
    rw [e2]
    have h3 : blamI ⟨p.pin, p.chain, true, (rdE bs).getD e0⟩ bs = 0 := h
    refine ⟨h3, ?_⟩
    unfold blamP
    rw [h3]; rfl
section
variable (p : Pee) (hw : wfPe p) (hf : fitP p)
include hw hf
theorem gossipHears_main (l : List Sgn) (hl : ∀ s, s ∈ l → wfS s) : LocalCall Try.prog 3 [.d (prD p), .d (.sl (l.map sD))] [] [] (one [.d (.bool true)]) [] := by
  have c0 := light24_ok p
  have c1 := few24_ok l
  by_cases hg : lightG p = true ∧ fewG l = true
  case neg =>
    refine vc_fn mixed Try.func3 rfl rfl [] (vzH rfl) ?_
    repeat' (first | ((with_reducible refine vzH ?_); first | decide +kernel | rfl) | (with_reducible refine vzC ?_; rfl) | (with_reducible first | (refine vzZ ?_; constructor) | refine vzC ?_ | refine vc_pure c0 ?_ ?_ ?_ | refine vc_pure c1 ?_ ?_ ?_ | refine vc_pure works24_ok ?_ ?_ ?_ | refine vzB [] ?_ ?_ ?_ | refine vzD ?_ ?_ | refine vc_ret [] [] ?_) | ((with_reducible first | refine vzE (fun h => ?_) (fun h => ?_) | refine vzF (fun h => ?_) (fun h => ?_)) <;> try (exfalso; omega)) | ((with_reducible refine vzG (fun h => ?_) (fun h => ?_)) <;> (try simp only [Go.Sym.vs1, reduceCtorEq] at h) <;> try (exfalso; first | omega | (simp at h; done))) | ((conv in Vc _ => arg 1; whnf); first | (with_reducible refine vzC ?_; rfl) | (with_reducible first | (refine vzZ ?_; constructor) | refine vzC ?_ | refine vc_pure c0 ?_ ?_ ?_ | refine vc_pure c1 ?_ ?_ ?_ | refine vc_pure works24_ok ?_ ?_ ?_ | refine vzB [] ?_ ?_ ?_ | refine vzD ?_ ?_ | refine vc_ret [] [] ?_) | ((with_reducible first | refine vzE (fun h => ?_) (fun h => ?_) | refine vzF (fun h => ?_) (fun h => ?_)) <;> try (exfalso; omega)) | ((with_reducible refine vzG (fun h => ?_) (fun h => ?_)) <;> (try simp only [Go.Sym.vs1, reduceCtorEq] at h) <;> try (exfalso; first | omega | (simp at h; done)))))
    all_goals first
      | with_reducible rfl
      | (exfalso; exact hg ⟨by assumption, by assumption⟩)
      | rfl
      | trace_state
  obtain ⟨g1, g2⟩ := hg
  obtain ⟨l1, l2⟩ := light_lens g1
  have l3 := fewG_le g2
  rw [g1] at c0
  rw [g2] at c1
  obtain ⟨a1, a2⟩ := hear_lens l1 l2 l3
  have c2 := hear_ok p hw l hl (by omega) (by omega) hf (by omega)
  have c3 := rHear_ok p hw l hl (by omega) (by omega)
  have c4 := samePe_ok (hearP p l) (hearP p l) (by omega) (by omega)
  have c5 := gnew_ok p.pin hw.pin
  have c6 : LocalCall Try.prog 14 [.d (prD ⟨p.pin, [], false, e0⟩), .d (.st [digD p.pin, .nils, .bool false, evZ])] [] [] (one [.d (.bool (decide ((⟨p.pin, [], false, e0⟩ : Pee) = ⟨p.pin, [], false, e0⟩)))]) [] := local_dna (samePe_ok ⟨p.pin, [], false, e0⟩ ⟨p.pin, [], false, e0⟩ (show 0 < 2 ^ 63 by decide) (show 0 < 2 ^ 63 by decide))
  rw [decide_eq_true rfl] at c4 c6
  refine vc_fn mixed Try.func3 rfl rfl [] (vzH rfl) ?_
  repeat' (first | ((with_reducible refine vzH ?_); first | decide +kernel | rfl) | (with_reducible refine vzC ?_; rfl) | (with_reducible first | (refine vzZ ?_; constructor) | refine vzC ?_ | refine vc_pure c0 ?_ ?_ ?_ | refine vc_pure c1 ?_ ?_ ?_ | refine vc_pure works24_ok ?_ ?_ ?_ | refine vc_pure c2 ?_ ?_ ?_ | refine vc_pure c3 ?_ ?_ ?_ | refine vc_pure c4 ?_ ?_ ?_ | refine vc_pure c5 ?_ ?_ ?_ | refine vc_call [] c6 ?_ | refine vzB [] ?_ ?_ ?_ | refine vzD ?_ ?_ | refine vc_ret [] [] ?_) | ((with_reducible first | refine vzE (fun h => ?_) (fun h => ?_) | refine vzF (fun h => ?_) (fun h => ?_)) <;> try (exfalso; omega)) | ((with_reducible refine vzG (fun h => ?_) (fun h => ?_)) <;> (try simp only [Go.Sym.vs1, reduceCtorEq] at h) <;> try (exfalso; first | omega | (simp at h; done))) | ((conv in Vc _ => arg 1; whnf); first | (with_reducible refine vzC ?_; rfl) | (with_reducible first | (refine vzZ ?_; constructor) | refine vzC ?_ | refine vc_pure c0 ?_ ?_ ?_ | refine vc_pure c1 ?_ ?_ ?_ | refine vc_pure works24_ok ?_ ?_ ?_ | refine vc_pure c2 ?_ ?_ ?_ | refine vc_pure c3 ?_ ?_ ?_ | refine vc_pure c4 ?_ ?_ ?_ | refine vc_pure c5 ?_ ?_ ?_ | refine vc_call [] c6 ?_ | refine vzB [] ?_ ?_ ?_ | refine vzD ?_ ?_ | refine vc_ret [] [] ?_) | ((with_reducible first | refine vzE (fun h => ?_) (fun h => ?_) | refine vzF (fun h => ?_) (fun h => ?_)) <;> try (exfalso; omega)) | ((with_reducible refine vzG (fun h => ?_) (fun h => ?_)) <;> (try simp only [Go.Sym.vs1, reduceCtorEq] at h) <;> try (exfalso; first | omega | (simp at h; done)))))
  all_goals first
    | with_reducible rfl
    | trivial
    | exact ⟨trivial, trivial, trivial, trivial⟩
    | exact absurd rfl h
    | rfl
    | trace_state
theorem gossipBlames_main (bs : List UInt8) (hb : bs.length < 2 ^ 63) : LocalCall Try.prog 4 [.d (prD p), .d (.sl (bs.map byteD))] [] [] (one [.d (.bool true)]) [] := by
  have c0 := light24_ok p
  have lb : (bs.map byteD).length = bs.length := List.length_map _
  by_cases hg : lightG p = true ∧ bs.length ≤ 524288
  case neg =>
    refine vc_fn mixed Try.func4 rfl rfl [] (vzH rfl) ?_
    repeat' (first | ((with_reducible refine vzH ?_); first | decide +kernel | rfl) | (with_reducible refine vzC ?_; rfl) | (with_reducible first | (refine vzZ ?_; constructor) | refine vzC ?_ | refine vc_pure c0 ?_ ?_ ?_ | refine vc_pure works24_ok ?_ ?_ ?_ | refine vzB [] ?_ ?_ ?_ | refine vzD ?_ ?_ | refine vc_ret [] [] ?_) | ((with_reducible first | refine vzE (fun h => ?_) (fun h => ?_) | refine vzF (fun h => ?_) (fun h => ?_)) <;> try (exfalso; omega)) | ((with_reducible refine vzG (fun h => ?_) (fun h => ?_)) <;> (try simp only [Go.Sym.vs1, reduceCtorEq] at h) <;> try (exfalso; first | omega | (simp at h; done))) | ((conv in Vc _ => arg 1; whnf); first | (with_reducible refine vzC ?_; rfl) | (with_reducible first | (refine vzZ ?_; constructor) | refine vzC ?_ | refine vc_pure c0 ?_ ?_ ?_ | refine vc_pure works24_ok ?_ ?_ ?_ | refine vzB [] ?_ ?_ ?_ | refine vzD ?_ ?_ | refine vc_ret [] [] ?_) | ((with_reducible first | refine vzE (fun h => ?_) (fun h => ?_) | refine vzF (fun h => ?_) (fun h => ?_)) <;> try (exfalso; omega)) | ((with_reducible refine vzG (fun h => ?_) (fun h => ?_)) <;> (try simp only [Go.Sym.vs1, reduceCtorEq] at h) <;> try (exfalso; first | omega | (simp at h; done)))))
    all_goals first
      | with_reducible rfl
      | (exfalso; exact hg ⟨by assumption, by omega⟩)
      | rfl
      | trace_state
  obtain ⟨g1, g2⟩ := hg
  obtain ⟨l1, l2⟩ := light_lens g1
  rw [g1] at c0
  obtain ⟨a1, a2⟩ := blam_lens (p := p) (bs := bs) (by omega) (by omega)
  have c2 := blame_ok p hw hf (by omega) (by omega) bs hb
  have c3 := rBlame_ok p hw bs hb
  have c4 := samePe_ok (blamP p bs) (blamP p bs) (by omega) (by omega)
  have c5 := accuse_ok p hf (by omega)
  have c6 := rEbytes_ok p.ev hf.2 (by omega)
  have c7 := same_yes (evB p.ev)
  rw [decide_eq_true rfl] at c4
  unfold accB at c5
  refine vc_fn mixed Try.func4 rfl rfl [] (vzH rfl) ?_
  cases hh : p.has with
  | true =>
    rw [hh] at c5
    replace c5 : LocalCall Try.prog 18 [.d (prD p)] [] [] (one [.d (.sl ((evB p.ev).map byteD))]) [] := c5
    repeat' (first | ((with_reducible refine vzH ?_); first | decide +kernel | rfl) | (with_reducible refine vzC ?_; rfl) | (with_reducible first | (refine vzZ ?_; constructor) | refine vzC ?_ | refine vc_pure c0 ?_ ?_ ?_ | refine vc_pure works24_ok ?_ ?_ ?_ | refine vc_pure c2 ?_ ?_ ?_ | refine vc_pure c3 ?_ ?_ ?_ | refine vc_pure c4 ?_ ?_ ?_ | refine vc_pure c5 ?_ ?_ ?_ | refine vc_pure c6 ?_ ?_ ?_ | refine vc_pure c7 ?_ ?_ ?_ | refine vzB [] ?_ ?_ ?_ | refine vzD ?_ ?_ | refine vc_ret [] [] ?_) | ((with_reducible first | refine vzE (fun h => ?_) (fun h => ?_) | refine vzF (fun h => ?_) (fun h => ?_)) <;> try (exfalso; omega)) | ((with_reducible refine vzG (fun h => ?_) (fun h => ?_)) <;> (try simp only [Go.Sym.vs1, reduceCtorEq] at h) <;> try (exfalso; first | omega | (simp at h; done))) | ((conv in Vc _ => arg 1; whnf); first | (with_reducible refine vzC ?_; rfl) | (with_reducible first | (refine vzZ ?_; constructor) | refine vzC ?_ | refine vc_pure c0 ?_ ?_ ?_ | refine vc_pure works24_ok ?_ ?_ ?_ | refine vc_pure c2 ?_ ?_ ?_ | refine vc_pure c3 ?_ ?_ ?_ | refine vc_pure c4 ?_ ?_ ?_ | refine vc_pure c5 ?_ ?_ ?_ | refine vc_pure c6 ?_ ?_ ?_ | refine vc_pure c7 ?_ ?_ ?_ | refine vzB [] ?_ ?_ ?_ | refine vzD ?_ ?_ | refine vc_ret [] [] ?_) | ((with_reducible first | refine vzE (fun h => ?_) (fun h => ?_) | refine vzF (fun h => ?_) (fun h => ?_)) <;> try (exfalso; omega)) | ((with_reducible refine vzG (fun h => ?_) (fun h => ?_)) <;> (try simp only [Go.Sym.vs1, reduceCtorEq] at h) <;> try (exfalso; first | omega | (simp at h; done)))))
    all_goals first
      | with_reducible rfl
      | trivial
      | exact ⟨trivial, trivial, trivial, trivial⟩
      | (exfalso; exact absurd (hh.symm.trans (show p.has = false by assumption)) (by decide))
      | exact absurd rfl h
      | rfl
      | trace_state
  | false =>
    rw [hh] at c5
    replace c5 : LocalCall Try.prog 18 [.d (prD p)] [] [] (one [.d (.sl [])]) [] := c5
    repeat' (first | ((with_reducible refine vzH ?_); first | decide +kernel | rfl) | (with_reducible refine vzC ?_; rfl) | (with_reducible first | (refine vzZ ?_; constructor) | refine vzC ?_ | refine vc_pure c0 ?_ ?_ ?_ | refine vc_pure works24_ok ?_ ?_ ?_ | refine vc_pure c2 ?_ ?_ ?_ | refine vc_pure c3 ?_ ?_ ?_ | refine vc_pure c4 ?_ ?_ ?_ | refine vc_pure c5 ?_ ?_ ?_ | refine vzB [] ?_ ?_ ?_ | refine vzD ?_ ?_ | refine vc_ret [] [] ?_) | ((with_reducible first | refine vzE (fun h => ?_) (fun h => ?_) | refine vzF (fun h => ?_) (fun h => ?_)) <;> try (exfalso; omega)) | ((with_reducible refine vzG (fun h => ?_) (fun h => ?_)) <;> (try simp only [Go.Sym.vs1, reduceCtorEq] at h) <;> try (exfalso; first | omega | (simp at h; done))) | ((conv in Vc _ => arg 1; whnf); first | (with_reducible refine vzC ?_; rfl) | (with_reducible first | (refine vzZ ?_; constructor) | refine vzC ?_ | refine vc_pure c0 ?_ ?_ ?_ | refine vc_pure works24_ok ?_ ?_ ?_ | refine vc_pure c2 ?_ ?_ ?_ | refine vc_pure c3 ?_ ?_ ?_ | refine vc_pure c4 ?_ ?_ ?_ | refine vc_pure c5 ?_ ?_ ?_ | refine vzB [] ?_ ?_ ?_ | refine vzD ?_ ?_ | refine vc_ret [] [] ?_) | ((with_reducible first | refine vzE (fun h => ?_) (fun h => ?_) | refine vzF (fun h => ?_) (fun h => ?_)) <;> try (exfalso; omega)) | ((with_reducible refine vzG (fun h => ?_) (fun h => ?_)) <;> (try simp only [Go.Sym.vs1, reduceCtorEq] at h) <;> try (exfalso; first | omega | (simp at h; done)))))
    all_goals first
      | with_reducible rfl
      | trivial
      | exact ⟨trivial, trivial, trivial, trivial⟩
      | (exfalso; exact absurd (hh.symm.trans (show p.has = true by assumption)) (by decide))
      | exact absurd rfl h
      | rfl
      | trace_state
end
end Go.Proofs.Ytjgkngjeniameaa
