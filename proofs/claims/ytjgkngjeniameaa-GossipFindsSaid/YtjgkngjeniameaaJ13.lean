import Derived.Test.YtjgkngjeniameaaJ12
set_option linter.unusedSimpArgs false
set_option linter.unusedVariables false
namespace Go.Proofs.Ytjgkngjeniameaa
open Go.Sym
set_option maxRecDepth 10000
set_option maxHeartbeats 4000000
theorem telB_len {l : List Sgn} (h : fitL l) (hl : l.length ≤ 5000) : (telB l).length < 2 ^ 63 := by
  have h1 : ∀ v, v ∈ l.map sgnB → v.length ≤ 2 ^ 22 := fun v hv => by
    obtain ⟨s, hs, rfl⟩ := List.mem_map.1 hv
    exact fit_len (h s hs)
  have h2 := flat_le h1
  have h3 := encT_len (fun v hv => Nat.lt_of_le_of_lt (h1 v hv) (by decide)) (show (l.map sgnB).length < 2 ^ 64 by rw [List.length_map]; omega)
  rw [List.length_map] at h2 h3
  unfold telB
  omega
theorem tell_back {l : List Sgn} (hl : l.length ≤ 4096) (h : ∀ s, s ∈ l → wfS s ∧ s.sig.length ≤ 1048000) : rdL (telB l) = some l := by
  have h1 : rdTexts (telB l) = some (l.map sgnB) := rdTexts_iff.2 ⟨rfl, by rw [List.length_map]; exact hl, fun v hv => by
    obtain ⟨s, hs, rfl⟩ := List.mem_map.1 hv
    have h2 := h s hs
    exact Nat.le_trans (sgnB_le h2.1 (by omega)) (by omega)⟩
  unfold rdL
  rw [h1, Option.bind_some]
  exact rdSs_back fun s hs => ⟨(h s hs).1, by have := (h s hs).2; omega⟩
theorem rdL_some {bs : List UInt8} {l : List Sgn} (h : rdL bs = some l) : telB l = bs ∧ l.length ≤ 4096 ∧ ∀ s, s ∈ l → wfS s ∧ s.sig.length ≤ 1048576 := by
  rcases rdL_cases (bs := bs) with ⟨_, he⟩ | ⟨ts, ht, hn, hs⟩
  · rw [he] at h; cases h
  rw [h] at hs
  obtain ⟨h1, h2⟩ := rdSs_some hs.symm
  have h3 := (rdTexts_iff.1 ht).1
  refine ⟨by rw [h3, h1]; rfl, ?_, h2⟩
  rw [h1, List.length_map] at hn
  exact hn
section
variable (p : Pee) (hw : wfPe p) (hf : fitP p)
include hw hf
omit hw in
theorem gossipTells_main (bs : List UInt8) (hb : bs.length < 2 ^ 63) : LocalCall Try.prog 7 [.d (prD p), .d (.sl (bs.map byteD))] [] [] (one [.d (.bool true)]) [] := by
  have c0 := light24_ok p
  have lb : (bs.map byteD).length = bs.length := List.length_map _
  by_cases hg : lightG p = true ∧ bs.length ≤ 524288
  case neg =>
    refine vc_fn mixed Try.func7 rfl rfl [] (vzH rfl) ?_
    repeat' (first | ((with_reducible refine vzH ?_); first | decide +kernel | rfl) | (with_reducible refine vzC ?_; rfl) | (with_reducible first | (refine vzZ ?_; constructor) | refine vzC ?_ | refine vc_pure c0 ?_ ?_ ?_ | refine vc_pure works24_ok ?_ ?_ ?_ | refine vzB [] ?_ ?_ ?_ | refine vzD ?_ ?_ | refine vc_ret [] [] ?_) | ((with_reducible first | refine vzE (fun h => ?_) (fun h => ?_) | refine vzF (fun h => ?_) (fun h => ?_)) <;> try (exfalso; omega)) | ((with_reducible refine vzG (fun h => ?_) (fun h => ?_)) <;> (try simp only [Go.Sym.vs1, reduceCtorEq] at h) <;> try (exfalso; first | omega | (simp at h; done))) | ((conv in Vc _ => arg 1; whnf); first | (with_reducible refine vzC ?_; rfl) | (with_reducible first | (refine vzZ ?_; constructor) | refine vzC ?_ | refine vc_pure c0 ?_ ?_ ?_ | refine vc_pure works24_ok ?_ ?_ ?_ | refine vzB [] ?_ ?_ ?_ | refine vzD ?_ ?_ | refine vc_ret [] [] ?_) | ((with_reducible first | refine vzE (fun h => ?_) (fun h => ?_) | refine vzF (fun h => ?_) (fun h => ?_)) <;> try (exfalso; omega)) | ((with_reducible refine vzG (fun h => ?_) (fun h => ?_)) <;> (try simp only [Go.Sym.vs1, reduceCtorEq] at h) <;> try (exfalso; first | omega | (simp at h; done)))))
    all_goals first
      | with_reducible rfl
      | (exfalso; exact hg ⟨by assumption, by omega⟩)
      | rfl
      | trace_state
  obtain ⟨g1, g2⟩ := hg
  obtain ⟨l1, l2⟩ := light_lens g1
  have few : fewG p.chain = true := by unfold lightG at g1; simp only [Bool.and_eq_true] at g1; exact g1.1
  have sg := fewG_sig few (fun s hs => (hf.1 s hs).2)
  have bk : rdL (telB p.chain) = some p.chain := tell_back (by omega) fun s hs => ⟨(hf.1 s hs).1, by have := sg s hs; omega⟩
  rw [g1] at c0
  have c2 := gtell_ok p hf.1 (by omega)
  have c3 := rGtell_ok p hf.1 (by omega)
  have c4 := gread_some (telB p.chain) (telB_len hf.1 (by omega)) p.chain bk
  have c5 := same_yes (telB p.chain)
  have c6 := sameRoots_ok p.chain p.chain (by omega)
  rw [decide_eq_true rfl] at c6
  generalize telB p.chain = T at *
  refine vc_fn mixed Try.func7 rfl rfl [] (vzH rfl) ?_
  cases hr : rdL bs with
  | none =>
    have d1 := gread_out bs hb hr
    have d2 := rGread_out bs hb hr
    have d3 := sameRoots_ok [] [] (by decide)
    rw [decide_eq_true rfl] at d3
    repeat' (first | ((with_reducible refine vzH ?_); first | decide +kernel | rfl) | (with_reducible refine vzC ?_; rfl) | (with_reducible first | (refine vzZ ?_; constructor) | refine vzC ?_ | refine vc_pure c0 ?_ ?_ ?_ | refine vc_pure works24_ok ?_ ?_ ?_ | refine vc_pure c2 ?_ ?_ ?_ | refine vc_pure c3 ?_ ?_ ?_ | refine vc_pure c4 ?_ ?_ ?_ | refine vc_pure c5 ?_ ?_ ?_ | refine vc_pure c6 ?_ ?_ ?_ | refine vc_pure d1 ?_ ?_ ?_ | refine vc_pure d2 ?_ ?_ ?_ | refine vc_pure d3 ?_ ?_ ?_ | refine vzB [] ?_ ?_ ?_ | refine vzD ?_ ?_ | refine vc_ret [] [] ?_) | ((with_reducible first | refine vzE (fun h => ?_) (fun h => ?_) | refine vzF (fun h => ?_) (fun h => ?_)) <;> try (exfalso; omega)) | ((with_reducible refine vzG (fun h => ?_) (fun h => ?_)) <;> (try simp only [Go.Sym.vs1, reduceCtorEq] at h) <;> try (exfalso; first | omega | (simp at h; done))) | ((conv in Vc _ => arg 1; whnf); first | (with_reducible refine vzC ?_; rfl) | (with_reducible first | (refine vzZ ?_; constructor) | refine vzC ?_ | refine vc_pure c0 ?_ ?_ ?_ | refine vc_pure works24_ok ?_ ?_ ?_ | refine vc_pure c2 ?_ ?_ ?_ | refine vc_pure c3 ?_ ?_ ?_ | refine vc_pure c4 ?_ ?_ ?_ | refine vc_pure c5 ?_ ?_ ?_ | refine vc_pure c6 ?_ ?_ ?_ | refine vc_pure d1 ?_ ?_ ?_ | refine vc_pure d2 ?_ ?_ ?_ | refine vc_pure d3 ?_ ?_ ?_ | refine vzB [] ?_ ?_ ?_ | refine vzD ?_ ?_ | refine vc_ret [] [] ?_) | ((with_reducible first | refine vzE (fun h => ?_) (fun h => ?_) | refine vzF (fun h => ?_) (fun h => ?_)) <;> try (exfalso; omega)) | ((with_reducible refine vzG (fun h => ?_) (fun h => ?_)) <;> (try simp only [Go.Sym.vs1, reduceCtorEq] at h) <;> try (exfalso; first | omega | (simp at h; done)))))
    all_goals first
      | with_reducible rfl
      | trivial
      | exact ⟨trivial, trivial, trivial, trivial⟩
      | exact absurd rfl h
      | rfl
      | trace_state
  | some x =>
    obtain ⟨x1, x2, x3⟩ := rdL_some hr
    have d1 := gread_some bs hb x hr
    have d2 := rGread_some bs hb x hr
    have d3 := sameRoots_ok x x (by omega)
    have d4 : LocalCall Try.prog 24 [.d (.st [digD zero32, .sl (x.map sD), .bool false, evZ])] [] [] (one [.d (.sl ((telB x).map byteD))]) [] := local_dna (gtell_ok ⟨zero32, x, false, e0⟩ (fun s hs => ⟨(x3 s hs).1, by have := (x3 s hs).2; omega⟩) (show x.length ≤ 5000 by omega))
    have d5 := same_yes bs
    rw [decide_eq_true rfl] at d3
    rw [x1] at d4
    repeat' (first | ((with_reducible refine vzH ?_); first | decide +kernel | rfl) | (with_reducible refine vzC ?_; rfl) | (with_reducible first | (refine vzZ ?_; constructor) | refine vzC ?_ | refine vc_pure c0 ?_ ?_ ?_ | refine vc_pure works24_ok ?_ ?_ ?_ | refine vc_pure c2 ?_ ?_ ?_ | refine vc_pure c3 ?_ ?_ ?_ | refine vc_pure c4 ?_ ?_ ?_ | refine vc_pure c5 ?_ ?_ ?_ | refine vc_pure c6 ?_ ?_ ?_ | refine vc_pure d1 ?_ ?_ ?_ | refine vc_pure d2 ?_ ?_ ?_ | refine vc_pure d3 ?_ ?_ ?_ | refine vc_call [] d4 ?_ | refine vc_pure d5 ?_ ?_ ?_ | refine vzB [] ?_ ?_ ?_ | refine vzD ?_ ?_ | refine vc_ret [] [] ?_) | ((with_reducible first | refine vzE (fun h => ?_) (fun h => ?_) | refine vzF (fun h => ?_) (fun h => ?_)) <;> try (exfalso; omega)) | ((with_reducible refine vzG (fun h => ?_) (fun h => ?_)) <;> (try simp only [Go.Sym.vs1, reduceCtorEq] at h) <;> try (exfalso; first | omega | (simp at h; done))) | ((conv in Vc _ => arg 1; whnf); first | (with_reducible refine vzC ?_; rfl) | (with_reducible first | (refine vzZ ?_; constructor) | refine vzC ?_ | refine vc_pure c0 ?_ ?_ ?_ | refine vc_pure works24_ok ?_ ?_ ?_ | refine vc_pure c2 ?_ ?_ ?_ | refine vc_pure c3 ?_ ?_ ?_ | refine vc_pure c4 ?_ ?_ ?_ | refine vc_pure c5 ?_ ?_ ?_ | refine vc_pure c6 ?_ ?_ ?_ | refine vc_pure d1 ?_ ?_ ?_ | refine vc_pure d2 ?_ ?_ ?_ | refine vc_pure d3 ?_ ?_ ?_ | refine vc_call [] d4 ?_ | refine vc_pure d5 ?_ ?_ ?_ | refine vzB [] ?_ ?_ ?_ | refine vzD ?_ ?_ | refine vc_ret [] [] ?_) | ((with_reducible first | refine vzE (fun h => ?_) (fun h => ?_) | refine vzF (fun h => ?_) (fun h => ?_)) <;> try (exfalso; omega)) | ((with_reducible refine vzG (fun h => ?_) (fun h => ?_)) <;> (try simp only [Go.Sym.vs1, reduceCtorEq] at h) <;> try (exfalso; first | omega | (simp at h; done)))))
    all_goals first
      | with_reducible rfl
      | trivial
      | exact ⟨trivial, trivial, trivial, trivial⟩
      | exact absurd rfl h
      | rfl
      | trace_state
theorem gossipAgain_main (l : List Sgn) (hl : ∀ s, s ∈ l → wfS s) (bs : List UInt8) (hb : bs.length < 2 ^ 63) : LocalCall Try.prog 6 [.d (prD p), .d (.sl (l.map sD)), .d (.sl (bs.map byteD))] [] [] (one [.d (.bool true)]) [] := by
  have c0 := light24_ok p
  have c1 := few24_ok l
  have lb : (bs.map byteD).length = bs.length := List.length_map _
  by_cases hg : lightG p = true ∧ fewG l = true ∧ bs.length ≤ 524288
  case neg =>
    refine vc_fn mixed Try.func6 rfl rfl [] (vzH rfl) ?_
    repeat' (first | ((with_reducible refine vzH ?_); first | decide +kernel | rfl) | (with_reducible refine vzC ?_; rfl) | (with_reducible first | (refine vzZ ?_; constructor) | refine vzC ?_ | refine vc_pure c0 ?_ ?_ ?_ | refine vc_pure c1 ?_ ?_ ?_ | refine vc_pure works24_ok ?_ ?_ ?_ | refine vzB [] ?_ ?_ ?_ | refine vzD ?_ ?_ | refine vc_ret [] [] ?_) | ((with_reducible first | refine vzE (fun h => ?_) (fun h => ?_) | refine vzF (fun h => ?_) (fun h => ?_)) <;> try (exfalso; omega)) | ((with_reducible refine vzG (fun h => ?_) (fun h => ?_)) <;> (try simp only [Go.Sym.vs1, reduceCtorEq] at h) <;> try (exfalso; first | omega | (simp at h; done))) | ((conv in Vc _ => arg 1; whnf); first | (with_reducible refine vzC ?_; rfl) | (with_reducible first | (refine vzZ ?_; constructor) | refine vzC ?_ | refine vc_pure c0 ?_ ?_ ?_ | refine vc_pure c1 ?_ ?_ ?_ | refine vc_pure works24_ok ?_ ?_ ?_ | refine vzB [] ?_ ?_ ?_ | refine vzD ?_ ?_ | refine vc_ret [] [] ?_) | ((with_reducible first | refine vzE (fun h => ?_) (fun h => ?_) | refine vzF (fun h => ?_) (fun h => ?_)) <;> try (exfalso; omega)) | ((with_reducible refine vzG (fun h => ?_) (fun h => ?_)) <;> (try simp only [Go.Sym.vs1, reduceCtorEq] at h) <;> try (exfalso; first | omega | (simp at h; done)))))
    all_goals first
      | with_reducible rfl
      | (exfalso; exact hg ⟨by assumption, by assumption, by omega⟩)
      | rfl
      | trace_state
  obtain ⟨g1, g2, g3⟩ := hg
  obtain ⟨l1, l2⟩ := light_lens g1
  have l3 := fewG_le g2
  rw [g1] at c0
  rw [g2] at c1
  obtain ⟨a1, a2⟩ := hear_lens l1 l2 l3
  obtain ⟨b1, b2⟩ := blam_lens (p := p) (bs := bs) (by omega) (by omega)
  have c2 := hear_ok p hw l hl (by omega) (by omega) hf (by omega)
  have c3 := hear_ok (hearP p l) (hear_wf hw hl) l hl (by omega) (by omega) (hear_fit hf hl) (by omega)
  have c4 := hear_ok (hearP p l) (hear_wf hw hl) [] nofun (by omega) (by omega) (hear_fit hf hl) (by decide)
  rw [(hear_nil (hearP p l)).1, (hear_nil (hearP p l)).2] at c4
  have c4 : LocalCall Try.prog 12 [.d (prD (hearP p l)), .d .nils] [] [] (one [.d (prD (hearP p l)), .d (.int .i64 0)]) [] := local_dna c4
  have c5 := samePe_ok (hearP p l) (hearP p l) (by omega) (by omega)
  have d2 := blame_ok p hw hf (by omega) (by omega) bs hb
  have d3 := blame_ok (blamP p bs) (blam_wf hw) (blam_fit hf) (by omega) (by omega) bs hb
  have d5 := samePe_ok (blamP p bs) (blamP p bs) (by omega) (by omega)
  rw [decide_eq_true rfl] at c5 d5
  have ha : hearI p l = 0 → hearI (hearP p l) l = 0 ∧ hearP (hearP p l) l = hearP p l := hear_again
  have hB : blamI p bs = 0 → blamI (blamP p bs) bs = 0 ∧ blamP (blamP p bs) bs = blamP p bs := blam_again
  generalize hearP p l = a at *
  generalize blamP p bs = x at *
  generalize hearI p l = hi at *
  generalize blamI p bs = bi at *
  refine vc_fn mixed Try.func6 rfl rfl [] (vzH rfl) ?_
  by_cases e1 : hi = 0
  · rw [(ha e1).1, (ha e1).2] at c3
    rw [e1] at c2
    by_cases e2 : bi = 0
    · rw [(hB e2).1, (hB e2).2] at d3
      rw [e2] at d2
      repeat' (first | ((with_reducible refine vzH ?_); first | decide +kernel | rfl) | (with_reducible refine vzC ?_; rfl) | (with_reducible first | (refine vzZ ?_; constructor) | refine vzC ?_ | refine vc_pure c0 ?_ ?_ ?_ | refine vc_pure c1 ?_ ?_ ?_ | refine vc_pure works24_ok ?_ ?_ ?_ | refine vc_pure c2 ?_ ?_ ?_ | refine vc_pure c3 ?_ ?_ ?_ | refine vc_pure c4 ?_ ?_ ?_ | refine vc_pure c5 ?_ ?_ ?_ | refine vc_pure d2 ?_ ?_ ?_ | refine vc_pure d3 ?_ ?_ ?_ | refine vc_pure d5 ?_ ?_ ?_ | refine vzB [] ?_ ?_ ?_ | refine vzD ?_ ?_ | refine vc_ret [] [] ?_) | ((with_reducible first | refine vzE (fun h => ?_) (fun h => ?_) | refine vzF (fun h => ?_) (fun h => ?_)) <;> try (exfalso; omega)) | ((with_reducible refine vzG (fun h => ?_) (fun h => ?_)) <;> (try simp only [Go.Sym.vs1, reduceCtorEq] at h) <;> try (exfalso; first | omega | (simp at h; done))) | ((conv in Vc _ => arg 1; whnf); first | (with_reducible refine vzC ?_; rfl) | (with_reducible first | (refine vzZ ?_; constructor) | refine vzC ?_ | refine vc_pure c0 ?_ ?_ ?_ | refine vc_pure c1 ?_ ?_ ?_ | refine vc_pure works24_ok ?_ ?_ ?_ | refine vc_pure c2 ?_ ?_ ?_ | refine vc_pure c3 ?_ ?_ ?_ | refine vc_pure c4 ?_ ?_ ?_ | refine vc_pure c5 ?_ ?_ ?_ | refine vc_pure d2 ?_ ?_ ?_ | refine vc_pure d3 ?_ ?_ ?_ | refine vc_pure d5 ?_ ?_ ?_ | refine vzB [] ?_ ?_ ?_ | refine vzD ?_ ?_ | refine vc_ret [] [] ?_) | ((with_reducible first | refine vzE (fun h => ?_) (fun h => ?_) | refine vzF (fun h => ?_) (fun h => ?_)) <;> try (exfalso; omega)) | ((with_reducible refine vzG (fun h => ?_) (fun h => ?_)) <;> (try simp only [Go.Sym.vs1, reduceCtorEq] at h) <;> try (exfalso; first | omega | (simp at h; done)))))
      all_goals first
        | with_reducible rfl
        | trivial
        | exact ⟨trivial, trivial, trivial, trivial⟩
        | exact absurd rfl h
        | rfl
        | trace_state
    · skip
      repeat' (first | ((with_reducible refine vzH ?_); first | decide +kernel | rfl) | (with_reducible refine vzC ?_; rfl) | (with_reducible first | (refine vzZ ?_; constructor) | refine vzC ?_ | refine vc_pure c0 ?_ ?_ ?_ | refine vc_pure c1 ?_ ?_ ?_ | refine vc_pure works24_ok ?_ ?_ ?_ | refine vc_pure c2 ?_ ?_ ?_ | refine vc_pure c3 ?_ ?_ ?_ | refine vc_pure c4 ?_ ?_ ?_ | refine vc_pure c5 ?_ ?_ ?_ | refine vc_pure d2 ?_ ?_ ?_ | refine vzB [] ?_ ?_ ?_ | refine vzD ?_ ?_ | refine vc_ret [] [] ?_) | ((with_reducible first | refine vzE (fun h => ?_) (fun h => ?_) | refine vzF (fun h => ?_) (fun h => ?_)) <;> try (exfalso; omega)) | ((with_reducible refine vzG (fun h => ?_) (fun h => ?_)) <;> (try simp only [Go.Sym.vs1, reduceCtorEq] at h) <;> try (exfalso; first | omega | (simp at h; done))) | ((conv in Vc _ => arg 1; whnf); first | (with_reducible refine vzC ?_; rfl) | (with_reducible first | (refine vzZ ?_; constructor) | refine vzC ?_ | refine vc_pure c0 ?_ ?_ ?_ | refine vc_pure c1 ?_ ?_ ?_ | refine vc_pure works24_ok ?_ ?_ ?_ | refine vc_pure c2 ?_ ?_ ?_ | refine vc_pure c3 ?_ ?_ ?_ | refine vc_pure c4 ?_ ?_ ?_ | refine vc_pure c5 ?_ ?_ ?_ | refine vc_pure d2 ?_ ?_ ?_ | refine vzB [] ?_ ?_ ?_ | refine vzD ?_ ?_ | refine vc_ret [] [] ?_) | ((with_reducible first | refine vzE (fun h => ?_) (fun h => ?_) | refine vzF (fun h => ?_) (fun h => ?_)) <;> try (exfalso; omega)) | ((with_reducible refine vzG (fun h => ?_) (fun h => ?_)) <;> (try simp only [Go.Sym.vs1, reduceCtorEq] at h) <;> try (exfalso; first | omega | (simp at h; done)))))
      all_goals first
        | with_reducible rfl
        | trivial
        | exact ⟨trivial, trivial, trivial, trivial⟩
        | exact absurd h e2
        | exact absurd rfl h
        | rfl
        | trace_state
  · by_cases e2 : bi = 0
    · rw [(hB e2).1, (hB e2).2] at d3
      rw [e2] at d2
      repeat' (first | ((with_reducible refine vzH ?_); first | decide +kernel | rfl) | (with_reducible refine vzC ?_; rfl) | (with_reducible first | (refine vzZ ?_; constructor) | refine vzC ?_ | refine vc_pure c0 ?_ ?_ ?_ | refine vc_pure c1 ?_ ?_ ?_ | refine vc_pure works24_ok ?_ ?_ ?_ | refine vc_pure c2 ?_ ?_ ?_ | refine vc_pure d2 ?_ ?_ ?_ | refine vc_pure d3 ?_ ?_ ?_ | refine vc_pure d5 ?_ ?_ ?_ | refine vzB [] ?_ ?_ ?_ | refine vzD ?_ ?_ | refine vc_ret [] [] ?_) | ((with_reducible first | refine vzE (fun h => ?_) (fun h => ?_) | refine vzF (fun h => ?_) (fun h => ?_)) <;> try (exfalso; omega)) | ((with_reducible refine vzG (fun h => ?_) (fun h => ?_)) <;> (try simp only [Go.Sym.vs1, reduceCtorEq] at h) <;> try (exfalso; first | omega | (simp at h; done))) | ((conv in Vc _ => arg 1; whnf); first | (with_reducible refine vzC ?_; rfl) | (with_reducible first | (refine vzZ ?_; constructor) | refine vzC ?_ | refine vc_pure c0 ?_ ?_ ?_ | refine vc_pure c1 ?_ ?_ ?_ | refine vc_pure works24_ok ?_ ?_ ?_ | refine vc_pure c2 ?_ ?_ ?_ | refine vc_pure d2 ?_ ?_ ?_ | refine vc_pure d3 ?_ ?_ ?_ | refine vc_pure d5 ?_ ?_ ?_ | refine vzB [] ?_ ?_ ?_ | refine vzD ?_ ?_ | refine vc_ret [] [] ?_) | ((with_reducible first | refine vzE (fun h => ?_) (fun h => ?_) | refine vzF (fun h => ?_) (fun h => ?_)) <;> try (exfalso; omega)) | ((with_reducible refine vzG (fun h => ?_) (fun h => ?_)) <;> (try simp only [Go.Sym.vs1, reduceCtorEq] at h) <;> try (exfalso; first | omega | (simp at h; done)))))
      all_goals first
        | with_reducible rfl
        | trivial
        | exact ⟨trivial, trivial, trivial, trivial⟩
        | exact absurd h e1
        | exact absurd rfl h
        | rfl
        | (exfalso; exact e1 (by assumption))
        | trace_state
    · skip
      repeat' (first | ((with_reducible refine vzH ?_); first | decide +kernel | rfl) | (with_reducible refine vzC ?_; rfl) | (with_reducible first | (refine vzZ ?_; constructor) | refine vzC ?_ | refine vc_pure c0 ?_ ?_ ?_ | refine vc_pure c1 ?_ ?_ ?_ | refine vc_pure works24_ok ?_ ?_ ?_ | refine vc_pure c2 ?_ ?_ ?_ | refine vc_pure d2 ?_ ?_ ?_ | refine vzB [] ?_ ?_ ?_ | refine vzD ?_ ?_ | refine vc_ret [] [] ?_) | ((with_reducible first | refine vzE (fun h => ?_) (fun h => ?_) | refine vzF (fun h => ?_) (fun h => ?_)) <;> try (exfalso; omega)) | ((with_reducible refine vzG (fun h => ?_) (fun h => ?_)) <;> (try simp only [Go.Sym.vs1, reduceCtorEq] at h) <;> try (exfalso; first | omega | (simp at h; done))) | ((conv in Vc _ => arg 1; whnf); first | (with_reducible refine vzC ?_; rfl) | (with_reducible first | (refine vzZ ?_; constructor) | refine vzC ?_ | refine vc_pure c0 ?_ ?_ ?_ | refine vc_pure c1 ?_ ?_ ?_ | refine vc_pure works24_ok ?_ ?_ ?_ | refine vc_pure c2 ?_ ?_ ?_ | refine vc_pure d2 ?_ ?_ ?_ | refine vzB [] ?_ ?_ ?_ | refine vzD ?_ ?_ | refine vc_ret [] [] ?_) | ((with_reducible first | refine vzE (fun h => ?_) (fun h => ?_) | refine vzF (fun h => ?_) (fun h => ?_)) <;> try (exfalso; omega)) | ((with_reducible refine vzG (fun h => ?_) (fun h => ?_)) <;> (try simp only [Go.Sym.vs1, reduceCtorEq] at h) <;> try (exfalso; first | omega | (simp at h; done)))))
      all_goals first
        | with_reducible rfl
        | trivial
        | exact ⟨trivial, trivial, trivial, trivial⟩
        | exact absurd h e1
        | exact absurd h e2
        | exact absurd rfl h
        | rfl
        | (exfalso; exact e1 (by assumption))
        | trace_state
end
end Go.Proofs.Ytjgkngjeniameaa
