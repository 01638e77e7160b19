import Derived.Test.YtjgkngjeniameaaJ10
set_option linter.unusedSimpArgs false
set_option linter.unusedVariables false
namespace Go.Sym
mutual
def D.dd : D → D
  | .nils => .sl []
  | .st fs => .st (D.dds fs)
  | .sl xs => .sl (D.dds xs)
  | x => x
def D.dds : List D → List D
  | [] => []
  | x :: xs => D.dd x :: D.dds xs
end
theorem D.dd_agg (x : D) : x.dd.isAgg = x.isAgg := by cases x <;> rfl
theorem D.dds_length : ∀ xs : List D, (D.dds xs).length = xs.length
  | [] => rfl
  | _ :: xs => congrArg (· + 1) (D.dds_length xs)
mutual
theorem D.dd_size : ∀ x : D, x.dd.size = x.size
  | .nils => rfl
  | .st fs => D.dds_sizes fs
  | .sl _ => rfl
  | .int .. | .bool _ | .str _ | .arr .. | .nilp | .nilf | .nili => rfl
theorem D.dds_sizes : ∀ xs : List D, D.sizes (D.dds xs) = D.sizes xs
  | [] => rfl
  | x :: xs => by
    show D.size x.dd + D.sizes (D.dds xs) = D.size x + D.sizes xs
    rw [D.dd_size x, D.dds_sizes xs]
end
theorem D.dds_all {e : Nat} : ∀ xs : List D, (∀ x, x ∈ xs → x.size = e) → ∀ x, x ∈ D.dds xs → x.size = e
  | [], _, x, hx => nomatch hx
  | y :: xs, h, x, hx => by
    rcases List.mem_cons.1 hx with rfl | hx
    · rw [D.dd_size]; exact h y (by simp)
    · exact D.dds_all xs (fun z hz => h z (by simp [hz])) x hx
mutual
theorem RepD.dd {X : Nat → Prop} {w : World} : ∀ {x : D} {cs : List Value}, RepD X w x cs → RepD X w x.dd cs
  | _, _, .int k n => .int k n
  | _, _, .bool b => .bool b
  | _, _, .str s => .str s
  | _, _, .st h => .st (RepL.dd h)
  | _, _, .arr h1 h2 h3 => .arr h1 h2 h3
  | _, _, .slnil => .slnil
  | _, _, .sl (xs := xs) h1 h2 h3 h4 h5 h6 => by
    have h := RepD.sl h1 h2 (D.dds_all xs h3) (by rw [D.dds_length]; exact h4) h5 (RepL.dd h6)
    rw [D.dds_length] at h
    exact h
  | _, _, .nils => .slnil
  | _, _, .nilp => .nilp
  | _, _, .nilf => .nilf
  | _, _, .nili => .nili
theorem RepL.dd {X : Nat → Prop} {w : World} : ∀ {xs : List D} {cs : List Value}, RepL X w xs cs → RepL X w (D.dds xs) cs
  | _, _, .nil => .nil
  | _, _, .cons h hs => .cons (RepD.dd h) (RepL.dd hs)
end
def AV.dd : AV → AV
  | .d x => .d x.dd
  | x => x
theorem AV.dd_names (x : AV) : x.dd.names = x.names := by cases x <;> rfl
theorem AV.dd_namesL : ∀ l : List AV, AV.namesL (l.map AV.dd) = AV.namesL l
  | [] => rfl
  | x :: l => by simp only [List.map_cons, AV.namesL, AV.dd_names, AV.dd_namesL l]
theorem RepA1.dd {ρ : Nat → Option Nat} {X : Nat → Prop} {w : World} {x : D} {v : Value} (h : RepA1 ρ X w (.d x) v) : RepA1 ρ X w (.d x.dd) v := by
  obtain ⟨cs, h1, h2⟩ := h
  cases h1 with
  | d h1 => exact ⟨cs, .d h1.dd, by rw [h2]; show wrapV x.isAgg cs = wrapV x.dd.isAgg cs; rw [D.dd_agg]⟩
theorem RepA1.ddA {ρ : Nat → Option Nat} {X : Nat → Prop} {w : World} {x : AV} {v : Value} (h : RepA1 ρ X w x v) : RepA1 ρ X w x.dd v := by
  cases x <;> first | exact h.dd | exact h
theorem RepT.dd {ρ : Nat → Option Nat} {X : Nat → Prop} {w : World} : ∀ {xs : List AV} {vs : List Value}, RepT ρ X w xs vs → RepT ρ X w (xs.map AV.dd) vs
  | [], [], _ => trivial
  | _ :: _, _ :: _, ⟨h1, h2⟩ => ⟨h1.ddA, h2.dd⟩
theorem local_dda {P : Program} {f : FuncId} {args : List AV} {pre : List (Nat × AObj)} {nw : List Nat} {r : AV} {ws : List (Nat × AObj)} (h : LocalCall P f (args.map AV.dd) pre nw r ws) : LocalCall P f args pre nw r ws := by
  intro hp h1 h2 ρ X w vs hs hr hn
  exact h hp h1 h2 ρ X w vs hs hr.dd (by rw [AV.dd_namesL]; exact hn)
end Go.Sym
namespace Go.Proofs.Ytjgkngjeniameaa
open Go.Sym
set_option maxRecDepth 10000
set_option maxHeartbeats 4000000
def pw1 : List UInt8 := 1 :: List.replicate 31 0
def pWk : Pee := ⟨pw1, [], false, e0⟩
def rWk : Rt := ⟨1, zero32, zero32, zero32⟩
abbrev sgN (r : Rt) : D := .st [rootD r, .nils]
theorem wf_pWk : wfPe pWk := ⟨rfl, nofun, wf_e0⟩
theorem fit_e0 : fitE e0 := fun s hs => by
  simp only [evL, e0, List.nil_append, List.mem_cons, List.not_mem_nil, or_false, or_self] at hs
  subst hs; exact ⟨wfS_0, by decide⟩
theorem fit_pWk : fitP pWk := ⟨nofun, fit_e0⟩
theorem works24_ok : LocalCall Try.prog 11 [] [] [] (one [.d (.bool true)]) [] := by
  have e1 : hearI pWk [] = 0 := rfl
  have e2 : hearP pWk [] = pWk := by
    unfold hearP; rw [e1]; rfl
  have c0 := gnew_ok pw1 rfl
  have c1 : LocalCall Try.prog 12 [.d (prD pWk), .d .nils] [] [] (one [.d (prD pWk), .d (.int .i64 0)]) [] := by
    have h := hear_ok pWk wf_pWk [] nofun (by decide) (by decide) fit_pWk (by decide)
    rw [e2, e1] at h
    exact local_dna h
  have f15 : folE (hdP pw1) ⟨rWk, []⟩ = 15 := by
    rcases folE_cases (hdP pw1) ⟨rWk, []⟩ with ⟨h, _⟩ | ⟨_, ⟨_, h⟩ | ⟨_, h2, _⟩⟩
    · rcases h with h | h
      · exact absurd h (by decide)
      · exact absurd rfl h
    · exact h
    · exfalso
      unfold checkE at h2
      rw [decide_eq_false (show ¬ ([] : List UInt8).length = 16384 by decide), Bool.false_and, cond_false] at h2
      cases h2
  have wk : (walk (hdP pw1) [⟨rWk, []⟩]).2.2 = 15 := by
    unfold walk
    rw [f15, decide_eq_false (show ¬ (15 : Int) = 0 by decide), cond_false]
  have c2 : LocalCall Try.prog 12 [.d (prD pWk), .d (.sl [sgN rWk])] [] [] (one [.d (prD pr0), .d (.int .i64 15)]) [] := by
    have h := hear_ok pWk wf_pWk [⟨rWk, []⟩] (fun s hs => by rw [List.mem_singleton.1 hs]; exact ⟨by decide, rfl, rfl, rfl⟩) (by decide) (by decide) fit_pWk (by decide)
    unfold hearP at h
    rw [show hearI pWk [⟨rWk, []⟩] = 15 from wk, decide_eq_false (show ¬ (15 : Int) = 0 by decide), cond_false] at h
    exact local_dda h
  have e3 : blamI pWk [] = 3 := by unfold blamI accV; rw [read_nil]
  have c3 : LocalCall Try.prog 16 [.d (prD pWk), .d .nils] [] [] (one [.d (prD pr0), .d (.int .i64 3)]) [] := by
    have h := blame_ok pWk wf_pWk fit_pWk (by decide) (by decide) [] (by decide)
    unfold blamP at h
    rw [e3] at h
    exact local_dna h
  have c4 := gtell_ok pWk fit_pWk.1 (by decide)
  rw [show telB pWk.chain = [0] by decide +kernel] at c4
  have c5 := accuse_ok pWk fit_pWk (by decide)
  refine vc_fn mixed Try.func11 rfl rfl [] (vzH rfl) ?_
  repeat' (first | ((with_reducible refine vzH ?_); first | decide +kernel | rfl) | (with_reducible refine vzC ?_; rfl) | (with_reducible first | (refine vzZ ?_; constructor) | refine vzC ?_ | refine vc_call [] c0 ?_ | refine vzB [] ?_ ?_ ?_ | refine vzD ?_ ?_ | refine vc_ret [] [] ?_) | ((with_reducible first | refine vzE (fun h => ?_) (fun h => ?_) | refine vzF (fun h => ?_) (fun h => ?_)) <;> try (exfalso; omega)) | ((with_reducible refine vzG (fun h => ?_) (fun h => ?_)) <;> (try simp only [Go.Sym.vs1, reduceCtorEq] at h) <;> try (exfalso; first | omega | (simp at h; done))) | ((conv in Vc _ => arg 1; whnf); first | (with_reducible refine vzC ?_; rfl) | (with_reducible first | (refine vzZ ?_; constructor) | refine vzC ?_ | refine vc_call [] c0 ?_ | refine vzB [] ?_ ?_ ?_ | refine vzD ?_ ?_ | refine vc_ret [] [] ?_) | ((with_reducible first | refine vzE (fun h => ?_) (fun h => ?_) | refine vzF (fun h => ?_) (fun h => ?_)) <;> try (exfalso; omega)) | ((with_reducible refine vzG (fun h => ?_) (fun h => ?_)) <;> (try simp only [Go.Sym.vs1, reduceCtorEq] at h) <;> try (exfalso; first | omega | (simp at h; done)))))
  any_goals (conv in Vc _ => arg 1; whnf)
  any_goals (refine vc_call [] c1 ?_)
  repeat' (first | ((with_reducible refine vzH ?_); first | decide +kernel | rfl) | (with_reducible refine vzC ?_; rfl) | (with_reducible first | (refine vzZ ?_; constructor) | refine vzC ?_ | refine vzB [] ?_ ?_ ?_ | refine vzD ?_ ?_ | refine vc_ret [] [] ?_) | ((with_reducible first | refine vzE (fun h => ?_) (fun h => ?_) | refine vzF (fun h => ?_) (fun h => ?_)) <;> try (exfalso; omega)) | ((with_reducible refine vzG (fun h => ?_) (fun h => ?_)) <;> (try simp only [Go.Sym.vs1, reduceCtorEq] at h) <;> try (exfalso; first | omega | (simp at h; done))) | ((conv in Vc _ => arg 1; whnf); first | (with_reducible refine vzC ?_; rfl) | (with_reducible first | (refine vzZ ?_; constructor) | refine vzC ?_ | refine vzB [] ?_ ?_ ?_ | refine vzD ?_ ?_ | refine vc_ret [] [] ?_) | ((with_reducible first | refine vzE (fun h => ?_) (fun h => ?_) | refine vzF (fun h => ?_) (fun h => ?_)) <;> try (exfalso; omega)) | ((with_reducible refine vzG (fun h => ?_) (fun h => ?_)) <;> (try simp only [Go.Sym.vs1, reduceCtorEq] at h) <;> try (exfalso; first | omega | (simp at h; done)))))
  any_goals (conv in Vc _ => arg 1; whnf)
  any_goals (refine vc_call [false, true] c2 ?_)
  repeat' (first | ((with_reducible refine vzH ?_); first | decide +kernel | rfl) | (with_reducible refine vzC ?_; rfl) | (with_reducible first | (refine vzZ ?_; constructor) | refine vzC ?_ | refine vzB [] ?_ ?_ ?_ | refine vzD ?_ ?_ | refine vc_ret [] [] ?_) | ((with_reducible first | refine vzE (fun h => ?_) (fun h => ?_) | refine vzF (fun h => ?_) (fun h => ?_)) <;> try (exfalso; omega)) | ((with_reducible refine vzG (fun h => ?_) (fun h => ?_)) <;> (try simp only [Go.Sym.vs1, reduceCtorEq] at h) <;> try (exfalso; first | omega | (simp at h; done))) | ((conv in Vc _ => arg 1; whnf); first | (with_reducible refine vzC ?_; rfl) | (with_reducible first | (refine vzZ ?_; constructor) | refine vzC ?_ | refine vzB [] ?_ ?_ ?_ | refine vzD ?_ ?_ | refine vc_ret [] [] ?_) | ((with_reducible first | refine vzE (fun h => ?_) (fun h => ?_) | refine vzF (fun h => ?_) (fun h => ?_)) <;> try (exfalso; omega)) | ((with_reducible refine vzG (fun h => ?_) (fun h => ?_)) <;> (try simp only [Go.Sym.vs1, reduceCtorEq] at h) <;> try (exfalso; first | omega | (simp at h; done)))))
  any_goals (conv in Vc _ => arg 1; whnf)
  any_goals (refine vc_call [] c3 ?_)
  repeat' (first | ((with_reducible refine vzH ?_); first | decide +kernel | rfl) | (with_reducible refine vzC ?_; rfl) | (with_reducible first | (refine vzZ ?_; constructor) | refine vzC ?_ | refine vc_call [] c4 ?_ | refine vc_call [] c5 ?_ | refine vzB [] ?_ ?_ ?_ | refine vzD ?_ ?_ | refine vc_ret [] [] ?_) | ((with_reducible first | refine vzE (fun h => ?_) (fun h => ?_) | refine vzF (fun h => ?_) (fun h => ?_)) <;> try (exfalso; omega)) | ((with_reducible refine vzG (fun h => ?_) (fun h => ?_)) <;> (try simp only [Go.Sym.vs1, reduceCtorEq] at h) <;> try (exfalso; first | omega | (simp at h; done))) | ((conv in Vc _ => arg 1; whnf); first | (with_reducible refine vzC ?_; rfl) | (with_reducible first | (refine vzZ ?_; constructor) | refine vzC ?_ | refine vc_call [] c4 ?_ | refine vc_call [] c5 ?_ | refine vzB [] ?_ ?_ ?_ | refine vzD ?_ ?_ | refine vc_ret [] [] ?_) | ((with_reducible first | refine vzE (fun h => ?_) (fun h => ?_) | refine vzF (fun h => ?_) (fun h => ?_)) <;> try (exfalso; omega)) | ((with_reducible refine vzG (fun h => ?_) (fun h => ?_)) <;> (try simp only [Go.Sym.vs1, reduceCtorEq] at h) <;> try (exfalso; first | omega | (simp at h; done)))))
  all_goals first
    | with_reducible rfl
    | trivial
    | exact ⟨trivial, trivial, trivial⟩
    | exact ⟨trivial, trivial, trivial, trivial⟩
    | exact ⟨fits_dig 6 pWk.pin, fits_dig 6 pw1⟩
    | exact absurd rfl h
    | rfl
    | trace_state
end Go.Proofs.Ytjgkngjeniameaa
