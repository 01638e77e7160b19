import Derived.Test.YtcdjheiccefcdaaJ10
import Derived.Test.YtcdjheiccefcdaaJ11
set_option linter.unusedSimpArgs false
set_option linter.unusedVariables false
/-
The honest are safe: what evidence against the pin of a seed comes to.
-/
set_option linter.unusedSimpArgs false
set_option linter.unusedVariables false
namespace Go.Proofs.Ytcdjheiccefcdaa
open Go.Sym
set_option maxRecDepth 10000
set_option maxHeartbeats 4000000

theorem first_bad {p : Nat → Prop} [DecidablePred p] : ∀ n, (∀ j, j < n → p j) ∨ ∃ k, k < n ∧ (∀ j, j < k → p j) ∧ ¬ p k
  | 0 => .inl fun j hj => absurd hj (Nat.not_lt_zero j)
  | n + 1 => by
    rcases first_bad (p := p) n with h | ⟨k, h1, h2, h3⟩
    · by_cases hp : p n
      · exact .inl fun j hj => by
          by_cases e : j = n
          · rw [e]; exact hp
          · exact h j (by omega)
      · exact .inr ⟨n, by omega, h, hp⟩
    · exact .inr ⟨k, by omega, h2, h3⟩

/-- All roots of evidence but the last one. -/
abbrev evM (e : Evd) : List Sgn := e.trunk ++ [e.a]
theorem evM_lt {e : Evd} {i : Nat} (h : i < e.trunk.length) : (evM e).getD i s0 = e.trunk.getD i s0 := by
  rw [List.getD_eq_getElem?_getD, List.getElem?_append_left h, ← List.getD_eq_getElem?_getD]
theorem evM_eq (e : Evd) : (evM e).getD e.trunk.length s0 = e.a := by
  rw [List.getD_eq_getElem?_getD, List.getElem?_append_right (Nat.le_refl _), Nat.sub_self]; rfl
theorem evM_length (e : Evd) : (evM e).length = e.trunk.length + 1 := by rw [List.length_append]; rfl

section
variable {seed : List UInt8} {ts : List (List UInt8)} {e : Evd} (hok : okE (pubH seed 1) e = true)
include hok
theorem sound_at {k : Nat} (hk : k ≤ e.trunk.length) (h : ∀ j, j < k → j < ts.length ∧ ((evM e).getD j s0).root = ((honN seed ts ts.length).getD j s0).root) : ∃ g, walkAt (hdP (pubH seed 1)) e.trunk g k ∧ g.key = pubH seed (k + 1) ∧ (k < e.trunk.length → folE g (e.trunk.getD k s0) = 0) := by
  have hf : ∀ g, walkAt (hdP (pubH seed 1)) e.trunk g k → k < e.trunk.length → folE g (e.trunk.getD k s0) = 0 := fun g hg hk2 => by
    by_cases hf : folE g (e.trunk.getD k s0) = 0
    · exact hf
    · have h3 := (okE_iff.1 hok).1
      rw [walkAt_no hg hk2 hf] at h3
      exact absurd h3 hf
  suffices h : ∃ g, walkAt (hdP (pubH seed 1)) e.trunk g k ∧ g.key = pubH seed (k + 1) from h.elim fun g hg => ⟨g, hg.1, hg.2, hf g hg.1⟩
  clear hf
  induction k with
  | zero => exact ⟨_, walkAt_zero _ _, rfl⟩
  | succ k ih =>
    obtain ⟨g, h1, h2⟩ := ih (by omega) (fun j hj => h j (by omega))
    have hf : folE g (e.trunk.getD k s0) = 0 := by
      by_cases hf : folE g (e.trunk.getD k s0) = 0
      · exact hf
      · have h3 := (okE_iff.1 hok).1
        rw [walkAt_no h1 (by omega) hf] at h3
        exact absurd h3 hf
    refine ⟨_, walkAt_yes h1 (by omega) hf, ?_⟩
    have h3 := h k (by omega)
    rw [evM_lt (by omega), honN_at _ _ _ _ h3.1] at h3
    show (e.trunk.getD k s0).root.next = _
    rw [h3.2]
    show pubH seed ((honH seed ts k).epoch + 2) = _
    rw [honH_epoch]

theorem sound_chk {k : Nat} (hk : k ≤ e.trunk.length) (h : ∀ j, j < k → j < ts.length ∧ ((evM e).getD j s0).root = ((honN seed ts ts.length).getD j s0).root) : checkE (pubH seed (k + 1)) (rootB ((evM e).getD k s0).root) ((evM e).getD k s0).sig = 0 ∧ (k = e.trunk.length → checkE (pubH seed (k + 1)) (rootB e.b.root) e.b.sig = 0) := by
  obtain ⟨g, h1, h2, h3⟩ := sound_at hok hk h
  have ho := okE_iff.1 hok
  by_cases hl : k < e.trunk.length
  · rw [evM_lt hl, ← h2]
    exact ⟨(folE_yes (h3 hl)).2.2.2, fun hk => by omega⟩
  · have hl : k = e.trunk.length := by omega
    rw [walkAt_end h1 (by omega)] at ho
    rw [← h2]
    refine ⟨?_, fun _ => (folE_yes ho.2.2.1).2.2.2⟩
    rw [hl, evM_eq]
    exact (folE_yes ho.2.1).2.2.2

theorem sound_first : ∃ k, k ≤ e.trunk.length ∧ (∀ j, j < k → j < ts.length ∧ ((evM e).getD j s0).root = ((honN seed ts ts.length).getD j s0).root) ∧
    ((k = e.trunk.length ∧ (k < ts.length ∧ ((evM e).getD k s0).root = ((honN seed ts ts.length).getD k s0).root) ∧ ¬ e.b.root = ((honN seed ts ts.length).getD k s0).root) ∨ (k < ts.length ∧ ¬ ((evM e).getD k s0).root = ((honN seed ts ts.length).getD k s0).root) ∨ ts.length ≤ k) := by
  have last : ∀ k, ¬ (k < ts.length ∧ ((evM e).getD k s0).root = ((honN seed ts ts.length).getD k s0).root) → (k < ts.length ∧ ¬ ((evM e).getD k s0).root = ((honN seed ts ts.length).getD k s0).root) ∨ ts.length ≤ k := fun k h => by
    by_cases hk : k < ts.length
    · exact .inl ⟨hk, fun he => h ⟨hk, he⟩⟩
    · exact .inr (by omega)
  rcases first_bad (p := fun j => j < ts.length ∧ ((evM e).getD j s0).root = ((honN seed ts ts.length).getD j s0).root) e.trunk.length with h | ⟨k, h1, h2, h3⟩
  · refine ⟨_, Nat.le_refl _, h, ?_⟩
    by_cases hp : e.trunk.length < ts.length ∧ ((evM e).getD e.trunk.length s0).root = ((honN seed ts ts.length).getD e.trunk.length s0).root
    · refine .inl ⟨rfl, hp, fun hb => (okE_iff.1 hok).2.2.2 ?_⟩
      rw [← evM_eq e, hp.2, hb]
    · exact .inr (last _ hp)
  · exact ⟨k, by omega, h2, .inr (last _ h3)⟩
end

theorem at_k12 {M O : List Sgn} {i k n : Nat} (h : i ≤ k) (hk : ∀ j, j < k → j < n ∧ (M.getD j s0).root = (O.getD j s0).root) (he : ¬ (M.getD i s0).root = (O.getD i s0).root) : i = k := by
  by_cases e : i = k
  · exact e
  · exact absurd (hk i (by omega)).2 he

theorem lt_k12 {M O : List Sgn} {i k : Nat} (h : i ≤ k) (hk : ¬ (M.getD k s0).root = (O.getD k s0).root) (he : (M.getD i s0).root = (O.getD i s0).root) : i + 1 ≤ k := by
  by_cases e : i = k
  · exact absurd (e ▸ he) hk
  · omega
theorem eY_at {M O : List Sgn} {i k : Nat} (h : i = k) (he : (M.getD i s0).root = (O.getD i s0).root) : (M.getD k s0).root = (O.getD k s0).root := h ▸ he
theorem bY_at {b : Rt} {O : List Sgn} {i k : Nat} (h : i = k) (he : (bif false then !(D.beq (rootD b) (rootD (O.getD i s0).root)) else D.beq (rootD b) (rootD (O.getD i s0).root)) = true) : b = (O.getD k s0).root := h ▸ rtNo he
theorem key_at {i k : Nat} (h : i = k) (hk : k < 2 ^ 40) : D.int .u64 (IntKind.u64.wrap (IntKind.i64.wrap ((i : Int) + 1))) = D.int .u64 ((k + 1 : Nat) : Int) := by
  rw [wrap64_id (by omega) (by omega), wrapU64_id (by omega) (by omega), h]; rfl

section
variable (seed : List UInt8) (hs : seed.length = 32) (ts : List (List UInt8)) (ht : ∀ t, t ∈ ts → t.length = 32) (e : Evd) (hw : wfE e)
include hs ht hw
theorem forkSound_main (hm : ts.length < 2 ^ 63) : LocalCall Try.prog 5 [.d (.arr 32 1 (seed.map byteD)), .d (.sl (ts.map digD)), .d (eD e)] [] [] (one [.d (.bool true)]) [] := by
  have lt : (ts.map digD).length = ts.length := List.length_map _
  have c0 := light12_ok e
  have cp := rPin_ok seed hs
  have ll : lightB e = true → e.trunk.length < 2 ^ 63 := fun h => Nat.lt_of_le_of_lt (light_len h) (by decide)
  have c1 : lightB e = true → _ := fun h => echeck_ok (pubH seed 1) (pubH_length _ _) e hw (ll h)
  by_cases hg : lightB e = true ∧ ts.length ≤ 5 ∧ chkE (pubH seed 1) e = 0
  case neg =>
    refine vc_fn mixed Try.func5 rfl rfl [] (vc_chk rfl) ?_
    repeat' (first
        | ((with_reducible refine vc_chk ?_); first | decide +kernel | rfl)
        | (with_reducible refine vc_side0 ?_; rfl)
        | (with_reducible first
             | refine vc_true ?_ | refine vc_true2 ?_ | refine vc_side ?_ ?_ | refine vc_triv | refine vc_later ?_ | refine vc_caseT ?_ | refine vc_caseF ?_ | refine vc_cons ?_ | refine vc_nil ?_ ?_ | refine vc_seq ?_
                | refine vc_region ?_ | refine vc_cond ?_ | refine vc_block ?_ | refine vc_retc ?_ | refine vc_exit ?_ | refine vc_skip ?_ | refine vc_scope ?_ | refine vc_label ?_ | refine vc_goto ?_ | refine vc_wkSl0
                | refine vc_wkHp0 | refine vc_eqAVs0 | refine vc_preG0 | refine vc_wkSl ?_ ?_ | refine vc_wkHp ?_ ?_ | refine vc_eqAVs ?_ ?_ | refine vc_preG ?_ ?_ | refine vc_side0 ?_ | refine vc_pure c0 ?_ ?_ ?_
                | refine vc_pure works12_ok ?_ ?_ ?_ | refine vc_pure cp ?_ ?_ ?_ | refine vc_pure (c1 (by assumption)) ?_ ?_ ?_ | refine vc_weakf [] ?_ ?_ ?_ | refine vc_and ?_ ?_ | refine vc_ret [] [] ?_)
        | ((with_reducible first | refine vc_caseD (fun h => ?_) (fun h => ?_) | refine vc_caseN (fun h => ?_) (fun h => ?_)) <;> try (exfalso; omega))
        | ((with_reducible refine vc_case (fun h => ?_) (fun h => ?_)) <;> (try simp only [Go.Sym.vs1, reduceCtorEq] at h) <;> try (exfalso; first | omega | (simp at h; done)))
        | (conv in Vc _ => arg 1; whnf
           first
            | (with_reducible refine vc_side0 ?_; rfl)
            | (with_reducible first
                | refine vc_true ?_ | refine vc_true2 ?_ | refine vc_side ?_ ?_ | refine vc_triv | refine vc_later ?_ | refine vc_caseT ?_ | refine vc_caseF ?_ | refine vc_cons ?_ | refine vc_nil ?_ ?_ | refine vc_seq ?_
                   | refine vc_region ?_ | refine vc_cond ?_ | refine vc_block ?_ | refine vc_retc ?_ | refine vc_exit ?_ | refine vc_skip ?_ | refine vc_scope ?_ | refine vc_label ?_ | refine vc_goto ?_ | refine vc_wkSl0
                   | refine vc_wkHp0 | refine vc_eqAVs0 | refine vc_preG0 | refine vc_wkSl ?_ ?_ | refine vc_wkHp ?_ ?_ | refine vc_eqAVs ?_ ?_ | refine vc_preG ?_ ?_ | refine vc_side0 ?_ | refine vc_pure c0 ?_ ?_ ?_
                   | refine vc_pure works12_ok ?_ ?_ ?_ | refine vc_pure cp ?_ ?_ ?_ | refine vc_pure (c1 (by assumption)) ?_ ?_ ?_ | refine vc_weakf [] ?_ ?_ ?_ | refine vc_and ?_ ?_ | refine vc_ret [] [] ?_)
            | ((with_reducible first | refine vc_caseD (fun h => ?_) (fun h => ?_) | refine vc_caseN (fun h => ?_) (fun h => ?_)) <;> try (exfalso; omega))
            | ((with_reducible refine vc_case (fun h => ?_) (fun h => ?_)) <;> (try simp only [Go.Sym.vs1, reduceCtorEq] at h) <;> try (exfalso; first | omega | (simp at h; done)))))
    all_goals first
      | with_reducible rfl
      | (exfalso; exact hg ⟨by assumption, by omega, by assumption⟩)
      | exact absurd rfl h
      | rfl
      | trace_state
  obtain ⟨hl, h5, hc⟩ := hg
  have c1 := c1 hl
  rw [hl] at c0
  have h40 := light_len hl
  have hok := chkE_ok hc
  rw [hc] at c1
  have co := rHonest_ok seed hs ts ht (by omega)
  obtain ⟨k, k1, k2, k3⟩ := sound_first (ts := ts) hok
  have kc := sound_chk hok k1 k2
  have lO := honN_length seed ts ts.length
  have wO := honN_wf seed ht (Nat.le_refl ts.length) (by omega)
  generalize honN seed ts ts.length = O at *
  have lm : (e.trunk.map sD).length = e.trunk.length := List.length_map _
  have lo : (O.map sD).length = ts.length := by rw [List.length_map, lO]
  have lM : ((evM e).map sD).length = e.trunk.length + 1 := by rw [List.length_map, evM_length]
  have wM : ∀ i, i ≤ e.trunk.length → wfS ((evM e).getD i s0) := fun i hi => by
    by_cases h : i < e.trunk.length
    · rw [evM_lt h]; exact hw.1 _ (by rw [List.getD_eq_getElem?_getD, List.getElem?_eq_getElem h]; simp)
    · rw [show i = e.trunk.length by omega, evM_eq]; exact hw.2
  have wK : k < ts.length → wfR (O.getD k s0).root := fun h => (wO _ (by rw [List.getD_eq_getElem?_getD, List.getElem?_eq_getElem (by omega)]; simp)).wfR
  have bl : k < ts.length → (rootB (O.getD k s0).root).length < 2 ^ 28 := fun h => by rw [rootB_length (wK h)]; decide
  have cb : k < ts.length → _ := fun h => rRootBytes_ok (O.getD k s0).root (wK h)
  have lM2 := evM_length e
  have mA : evM e = e.trunk ++ [e.a] := rfl
  generalize evM e = M at *
  have hW : IntKind.i64.wrap (((M.map sD).length : Int) - 1) = (e.trunk.length : Int) := by rw [lM, wrap64_id (by omega) (by omega)]; omega
  rcases k3 with ⟨q1, q2, q3⟩ | ⟨q1, q2⟩ | q1
  · have ck := breaks_ok seed hs (k + 1) (by omega) (rootB (O.getD k s0).root) (bl q2.1) e.b hw.3 (kc.2 q1) (fun h => q3 (rootB_inj (wK q2.1) hw.3.wfR h).symm)
    have cb := cb q2.1
    have hk1 : ∀ j, j ≤ k → j < ts.length ∧ (M.getD j s0).root = (O.getD j s0).root := fun j hj => by
      by_cases h : j = k
      · rw [h]; exact q2
      · exact k2 j (by omega)
    refine vc_fn mixed Try.func5 rfl rfl [(500006, [9098008])] (vc_chk rfl) ?_
    repeat' (first
        | ((with_reducible refine vc_chk ?_); first | decide +kernel | rfl)
        | (with_reducible refine vc_side0 ?_; rfl)
        | (with_reducible first
             | refine vc_true ?_ | refine vc_true2 ?_ | refine vc_side ?_ ?_ | refine vc_triv | refine vc_later ?_ | refine vc_caseT ?_ | refine vc_caseF ?_ | refine vc_cons ?_ | refine vc_nil ?_ ?_ | refine vc_seq ?_
                | refine vc_region ?_ | refine vc_cond ?_ | refine vc_block ?_ | refine vc_retc ?_ | refine vc_exit ?_ | refine vc_skip ?_ | refine vc_scope ?_ | refine vc_label ?_ | refine vc_goto ?_ | refine vc_wkSl0
                | refine vc_wkHp0 | refine vc_eqAVs0 | refine vc_preG0 | refine vc_wkSl ?_ ?_ | refine vc_wkHp ?_ ?_ | refine vc_eqAVs ?_ ?_ | refine vc_preG ?_ ?_ | refine vc_side0 ?_ | refine vc_pure c0 ?_ ?_ ?_
                | refine vc_pure works12_ok ?_ ?_ ?_ | refine vc_pure cp ?_ ?_ ?_ | refine vc_pure c1 ?_ ?_ ?_ | refine vc_pure co ?_ ?_ ?_ | refine vc_call [] cb ?_ | refine vc_call [] ck ?_
                | refine vc_loopI 106 (fun (i : Nat) => [(1, .d (.sl (ts.map digD))), (3, .ptr 1000 []), (5, .ptr 1004 []), (7, .d (.sl (O.map sD))), (8, .sl 9 [] 98 0 (M.map sD).length), (9, .d (.int .i64 (i : Int)))]) (fun _ => [(1000, .var (.d (.arr 32 1 (seed.map byteD)))), (1004, .var (.d (eD e))), (9, .row 98 (M.map sD))]) (fun i => M.length - i) (fun i => i ≤ k) 0 [(9, 9016)] ?_ ?_ ?_ ?_ ?_ (fun i hI => ?_)
                | refine vc_nextI (i + 1) [] ?_ ?_ ?_ ?_ ?_ ?_ | refine vc_weakf [] ?_ ?_ ?_ | refine vc_and ?_ ?_ | refine vc_ret [] [] ?_)
        | ((with_reducible first | refine vc_caseD (fun h => ?_) (fun h => ?_) | refine vc_caseN (fun h => ?_) (fun h => ?_)) <;> try (exfalso; omega))
        | ((with_reducible refine vc_case (fun h => ?_) (fun h => ?_)) <;> (try simp only [Go.Sym.vs1, reduceCtorEq] at h) <;> try (exfalso; first | omega | (simp at h; done)))
        | (conv in Vc _ => arg 1; whnf
           first
            | (with_reducible refine vc_side0 ?_; rfl)
            | (with_reducible first
                | refine vc_true ?_ | refine vc_true2 ?_ | refine vc_side ?_ ?_ | refine vc_triv | refine vc_later ?_ | refine vc_caseT ?_ | refine vc_caseF ?_ | refine vc_cons ?_ | refine vc_nil ?_ ?_ | refine vc_seq ?_
                   | refine vc_region ?_ | refine vc_cond ?_ | refine vc_block ?_ | refine vc_retc ?_ | refine vc_exit ?_ | refine vc_skip ?_ | refine vc_scope ?_ | refine vc_label ?_ | refine vc_goto ?_ | refine vc_wkSl0
                   | refine vc_wkHp0 | refine vc_eqAVs0 | refine vc_preG0 | refine vc_wkSl ?_ ?_ | refine vc_wkHp ?_ ?_ | refine vc_eqAVs ?_ ?_ | refine vc_preG ?_ ?_ | refine vc_side0 ?_ | refine vc_pure c0 ?_ ?_ ?_
                   | refine vc_pure works12_ok ?_ ?_ ?_ | refine vc_pure cp ?_ ?_ ?_ | refine vc_pure c1 ?_ ?_ ?_ | refine vc_pure co ?_ ?_ ?_ | refine vc_call [] cb ?_ | refine vc_call [] ck ?_
                   | refine vc_loopI 106 (fun (i : Nat) => [(1, .d (.sl (ts.map digD))), (3, .ptr 1000 []), (5, .ptr 1004 []), (7, .d (.sl (O.map sD))), (8, .sl 9 [] 98 0 (M.map sD).length), (9, .d (.int .i64 (i : Int)))]) (fun _ => [(1000, .var (.d (.arr 32 1 (seed.map byteD)))), (1004, .var (.d (eD e))), (9, .row 98 (M.map sD))]) (fun i => M.length - i) (fun i => i ≤ k) 0 [(9, 9016)] ?_ ?_ ?_ ?_ ?_ (fun i hI => ?_)
                   | refine vc_nextI (i + 1) [] ?_ ?_ ?_ ?_ ?_ ?_ | refine vc_weakf [] ?_ ?_ ?_ | refine vc_and ?_ ?_ | refine vc_ret [] [] ?_)
            | ((with_reducible first | refine vc_caseD (fun h => ?_) (fun h => ?_) | refine vc_caseN (fun h => ?_) (fun h => ?_)) <;> try (exfalso; omega))
            | ((with_reducible refine vc_case (fun h => ?_) (fun h => ?_)) <;> (try simp only [Go.Sym.vs1, reduceCtorEq] at h) <;> try (exfalso; first | omega | (simp at h; done)))))
    all_goals (try have hi : i < M.length := (by omega))
    all_goals (try have hj : i < O.length := (by omega))
    all_goals (try simp only [Int.toNat_natCast, Nat.zero_add, sgn_at hi] at *)
    all_goals (try simp only [sgn_at hj] at *)
    all_goals (try have eY := rtNo (a := (M.getD i s0).root) (b := (O.getD i s0).root) (by assumption))
    all_goals (try have eN := rtOff (a := (M.getD i s0).root) (b := (O.getD i s0).root) (by assumption))
    all_goals (try (exfalso; first | exact eN eY | exact eN (hk1 i hI).2 | (have := (hk1 i hI).1; omega) | exact q3 (bY_at (O := O) (show i = k by omega) (by assumption))))
    all_goals first
      | with_reducible rfl
      | omega
      | exact ⟨⟨trivial, rfl, room128 (by show (e.trunk.map sD).length ≤ _; omega)⟩, sgn_size e.trunk⟩
      | exact ⟨⟨Nat.le_refl _, rfl, room128 (by rw [List.length_append]; show (e.trunk.map sD).length + 1 ≤ _; omega)⟩, fun y hy => (by rw [List.mem_singleton.1 hy]; rfl)⟩
      | (rw [mA, List.map_append]; rfl)
      | exact ⟨by omega, by omega⟩
      | exact ⟨⟨by omega, trivial⟩, rfl⟩
      | exact ⟨⟨by omega, by omega⟩, rfl⟩
      | exact ⟨by decide +kernel, fits_root 5 _, fits_root 5 _⟩
      | exact key_at (by omega) (by omega)
      | (have q : i = k := (by omega); subst q; rfl)
      | (rw [wrap64_id (by omega) (by omega)]; rfl)
      | exact ⟨trivial, trivial, trivial, trivial⟩
      | rfl
      | trace_state
  · have ck := breaks_ok seed hs (k + 1) (by omega) (rootB (O.getD k s0).root) (bl q1) (M.getD k s0) (wM k k1) kc.1 (fun h => q2 (rootB_inj (wK q1) (wM k k1).wfR h).symm)
    have cb := cb q1
    refine vc_fn mixed Try.func5 rfl rfl [(500006, [9098008])] (vc_chk rfl) ?_
    repeat' (first
        | ((with_reducible refine vc_chk ?_); first | decide +kernel | rfl)
        | (with_reducible refine vc_side0 ?_; rfl)
        | (with_reducible first
             | refine vc_true ?_ | refine vc_true2 ?_ | refine vc_side ?_ ?_ | refine vc_triv | refine vc_later ?_ | refine vc_caseT ?_ | refine vc_caseF ?_ | refine vc_cons ?_ | refine vc_nil ?_ ?_ | refine vc_seq ?_
                | refine vc_region ?_ | refine vc_cond ?_ | refine vc_block ?_ | refine vc_retc ?_ | refine vc_exit ?_ | refine vc_skip ?_ | refine vc_scope ?_ | refine vc_label ?_ | refine vc_goto ?_ | refine vc_wkSl0
                | refine vc_wkHp0 | refine vc_eqAVs0 | refine vc_preG0 | refine vc_wkSl ?_ ?_ | refine vc_wkHp ?_ ?_ | refine vc_eqAVs ?_ ?_ | refine vc_preG ?_ ?_ | refine vc_side0 ?_ | refine vc_pure c0 ?_ ?_ ?_
                | refine vc_pure works12_ok ?_ ?_ ?_ | refine vc_pure cp ?_ ?_ ?_ | refine vc_pure c1 ?_ ?_ ?_ | refine vc_pure co ?_ ?_ ?_ | refine vc_call [] cb ?_ | refine vc_call [] ck ?_
                | refine vc_loopI 106 (fun (i : Nat) => [(1, .d (.sl (ts.map digD))), (3, .ptr 1000 []), (5, .ptr 1004 []), (7, .d (.sl (O.map sD))), (8, .sl 9 [] 98 0 (M.map sD).length), (9, .d (.int .i64 (i : Int)))]) (fun _ => [(1000, .var (.d (.arr 32 1 (seed.map byteD)))), (1004, .var (.d (eD e))), (9, .row 98 (M.map sD))]) (fun i => M.length - i) (fun i => i ≤ k) 0 [(9, 9016)] ?_ ?_ ?_ ?_ ?_ (fun i hI => ?_)
                | refine vc_nextI (i + 1) [] ?_ ?_ ?_ ?_ ?_ ?_ | refine vc_weakf [] ?_ ?_ ?_ | refine vc_and ?_ ?_ | refine vc_ret [] [] ?_)
        | ((with_reducible first | refine vc_caseD (fun h => ?_) (fun h => ?_) | refine vc_caseN (fun h => ?_) (fun h => ?_)) <;> try (exfalso; omega))
        | ((with_reducible refine vc_case (fun h => ?_) (fun h => ?_)) <;> (try simp only [Go.Sym.vs1, reduceCtorEq] at h) <;> try (exfalso; first | omega | (simp at h; done)))
        | (conv in Vc _ => arg 1; whnf
           first
            | (with_reducible refine vc_side0 ?_; rfl)
            | (with_reducible first
                | refine vc_true ?_ | refine vc_true2 ?_ | refine vc_side ?_ ?_ | refine vc_triv | refine vc_later ?_ | refine vc_caseT ?_ | refine vc_caseF ?_ | refine vc_cons ?_ | refine vc_nil ?_ ?_ | refine vc_seq ?_
                   | refine vc_region ?_ | refine vc_cond ?_ | refine vc_block ?_ | refine vc_retc ?_ | refine vc_exit ?_ | refine vc_skip ?_ | refine vc_scope ?_ | refine vc_label ?_ | refine vc_goto ?_ | refine vc_wkSl0
                   | refine vc_wkHp0 | refine vc_eqAVs0 | refine vc_preG0 | refine vc_wkSl ?_ ?_ | refine vc_wkHp ?_ ?_ | refine vc_eqAVs ?_ ?_ | refine vc_preG ?_ ?_ | refine vc_side0 ?_ | refine vc_pure c0 ?_ ?_ ?_
                   | refine vc_pure works12_ok ?_ ?_ ?_ | refine vc_pure cp ?_ ?_ ?_ | refine vc_pure c1 ?_ ?_ ?_ | refine vc_pure co ?_ ?_ ?_ | refine vc_call [] cb ?_ | refine vc_call [] ck ?_
                   | refine vc_loopI 106 (fun (i : Nat) => [(1, .d (.sl (ts.map digD))), (3, .ptr 1000 []), (5, .ptr 1004 []), (7, .d (.sl (O.map sD))), (8, .sl 9 [] 98 0 (M.map sD).length), (9, .d (.int .i64 (i : Int)))]) (fun _ => [(1000, .var (.d (.arr 32 1 (seed.map byteD)))), (1004, .var (.d (eD e))), (9, .row 98 (M.map sD))]) (fun i => M.length - i) (fun i => i ≤ k) 0 [(9, 9016)] ?_ ?_ ?_ ?_ ?_ (fun i hI => ?_)
                   | refine vc_nextI (i + 1) [] ?_ ?_ ?_ ?_ ?_ ?_ | refine vc_weakf [] ?_ ?_ ?_ | refine vc_and ?_ ?_ | refine vc_ret [] [] ?_)
            | ((with_reducible first | refine vc_caseD (fun h => ?_) (fun h => ?_) | refine vc_caseN (fun h => ?_) (fun h => ?_)) <;> try (exfalso; omega))
            | ((with_reducible refine vc_case (fun h => ?_) (fun h => ?_)) <;> (try simp only [Go.Sym.vs1, reduceCtorEq] at h) <;> try (exfalso; first | omega | (simp at h; done)))))
    all_goals (try have hi : i < M.length := (by omega))
    all_goals (try have hj : i < O.length := (by omega))
    all_goals (try simp only [Int.toNat_natCast, Nat.zero_add, sgn_at hi] at *)
    all_goals (try simp only [sgn_at hj] at *)
    all_goals (try have eY := rtNo (a := (M.getD i s0).root) (b := (O.getD i s0).root) (by assumption))
    all_goals (try have eN := rtOff (a := (M.getD i s0).root) (b := (O.getD i s0).root) (by assumption))
    all_goals (try (exfalso; first | exact eN eY | exact q2 (eY_at (show i = k by omega) eY)))
    all_goals first
      | with_reducible rfl
      | omega
      | exact lt_k12 hI q2 eY
      | exact ⟨⟨trivial, rfl, room128 (by show (e.trunk.map sD).length ≤ _; omega)⟩, sgn_size e.trunk⟩
      | exact ⟨⟨Nat.le_refl _, rfl, room128 (by rw [List.length_append]; show (e.trunk.map sD).length + 1 ≤ _; omega)⟩, fun y hy => (by rw [List.mem_singleton.1 hy]; rfl)⟩
      | (rw [mA, List.map_append]; rfl)
      | exact ⟨by omega, by omega⟩
      | exact ⟨⟨by omega, trivial⟩, rfl⟩
      | exact ⟨⟨by omega, by omega⟩, rfl⟩
      | exact ⟨by decide +kernel, fits_root 5 _, fits_root 5 _⟩
      | exact key_at (at_k12 hI k2 eN) (by omega)
      | (have q : i = k := (at_k12 hI k2 eN); subst q; rfl)
      | (rw [wrap64_id (by omega) (by omega)]; rfl)
      | exact ⟨trivial, trivial, trivial, trivial⟩
      | rfl
      | trace_state
  · have ck := breaks_ok seed hs (k + 1) (by omega) [] (by decide) (M.getD k s0) (wM k k1) kc.1 nofun
    have ck : LocalCall Try.prog 21 [.d (.arr 32 1 (seed.map byteD)), .d (.int .u64 ((k + 1 : Nat) : Int)), .d .nils, .d (sD (M.getD k s0))] [] [] (one [.d (.bool true)]) [] := local_dna ck
    have q2 : k = ts.length := by
      by_cases h : k = ts.length
      · exact h
      · exact absurd (k2 ts.length (by omega)).1 (by omega)
    refine vc_fn mixed Try.func5 rfl rfl [(500006, [9098008])] (vc_chk rfl) ?_
    repeat' (first
        | ((with_reducible refine vc_chk ?_); first | decide +kernel | rfl)
        | (with_reducible refine vc_side0 ?_; rfl)
        | (with_reducible first
             | refine vc_true ?_ | refine vc_true2 ?_ | refine vc_side ?_ ?_ | refine vc_triv | refine vc_later ?_ | refine vc_caseT ?_ | refine vc_caseF ?_ | refine vc_cons ?_ | refine vc_nil ?_ ?_ | refine vc_seq ?_
                | refine vc_region ?_ | refine vc_cond ?_ | refine vc_block ?_ | refine vc_retc ?_ | refine vc_exit ?_ | refine vc_skip ?_ | refine vc_scope ?_ | refine vc_label ?_ | refine vc_goto ?_ | refine vc_wkSl0
                | refine vc_wkHp0 | refine vc_eqAVs0 | refine vc_preG0 | refine vc_wkSl ?_ ?_ | refine vc_wkHp ?_ ?_ | refine vc_eqAVs ?_ ?_ | refine vc_preG ?_ ?_ | refine vc_side0 ?_ | refine vc_pure c0 ?_ ?_ ?_
                | refine vc_pure works12_ok ?_ ?_ ?_ | refine vc_pure cp ?_ ?_ ?_ | refine vc_pure c1 ?_ ?_ ?_ | refine vc_pure co ?_ ?_ ?_ | refine vc_call [] ck ?_
                | refine vc_loopI 106 (fun (i : Nat) => [(1, .d (.sl (ts.map digD))), (3, .ptr 1000 []), (5, .ptr 1004 []), (7, .d (.sl (O.map sD))), (8, .sl 9 [] 98 0 (M.map sD).length), (9, .d (.int .i64 (i : Int)))]) (fun _ => [(1000, .var (.d (.arr 32 1 (seed.map byteD)))), (1004, .var (.d (eD e))), (9, .row 98 (M.map sD))]) (fun i => M.length - i) (fun i => i ≤ k) 0 [(9, 9016)] ?_ ?_ ?_ ?_ ?_ (fun i hI => ?_)
                | refine vc_nextI (i + 1) [] ?_ ?_ ?_ ?_ ?_ ?_ | refine vc_weakf [] ?_ ?_ ?_ | refine vc_and ?_ ?_ | refine vc_ret [] [] ?_)
        | ((with_reducible first | refine vc_caseD (fun h => ?_) (fun h => ?_) | refine vc_caseN (fun h => ?_) (fun h => ?_)) <;> try (exfalso; omega))
        | ((with_reducible refine vc_case (fun h => ?_) (fun h => ?_)) <;> (try simp only [Go.Sym.vs1, reduceCtorEq] at h) <;> try (exfalso; first | omega | (simp at h; done)))
        | (conv in Vc _ => arg 1; whnf
           first
            | (with_reducible refine vc_side0 ?_; rfl)
            | (with_reducible first
                | refine vc_true ?_ | refine vc_true2 ?_ | refine vc_side ?_ ?_ | refine vc_triv | refine vc_later ?_ | refine vc_caseT ?_ | refine vc_caseF ?_ | refine vc_cons ?_ | refine vc_nil ?_ ?_ | refine vc_seq ?_
                   | refine vc_region ?_ | refine vc_cond ?_ | refine vc_block ?_ | refine vc_retc ?_ | refine vc_exit ?_ | refine vc_skip ?_ | refine vc_scope ?_ | refine vc_label ?_ | refine vc_goto ?_ | refine vc_wkSl0
                   | refine vc_wkHp0 | refine vc_eqAVs0 | refine vc_preG0 | refine vc_wkSl ?_ ?_ | refine vc_wkHp ?_ ?_ | refine vc_eqAVs ?_ ?_ | refine vc_preG ?_ ?_ | refine vc_side0 ?_ | refine vc_pure c0 ?_ ?_ ?_
                   | refine vc_pure works12_ok ?_ ?_ ?_ | refine vc_pure cp ?_ ?_ ?_ | refine vc_pure c1 ?_ ?_ ?_ | refine vc_pure co ?_ ?_ ?_ | refine vc_call [] ck ?_
                   | refine vc_loopI 106 (fun (i : Nat) => [(1, .d (.sl (ts.map digD))), (3, .ptr 1000 []), (5, .ptr 1004 []), (7, .d (.sl (O.map sD))), (8, .sl 9 [] 98 0 (M.map sD).length), (9, .d (.int .i64 (i : Int)))]) (fun _ => [(1000, .var (.d (.arr 32 1 (seed.map byteD)))), (1004, .var (.d (eD e))), (9, .row 98 (M.map sD))]) (fun i => M.length - i) (fun i => i ≤ k) 0 [(9, 9016)] ?_ ?_ ?_ ?_ ?_ (fun i hI => ?_)
                   | refine vc_nextI (i + 1) [] ?_ ?_ ?_ ?_ ?_ ?_ | refine vc_weakf [] ?_ ?_ ?_ | refine vc_and ?_ ?_ | refine vc_ret [] [] ?_)
            | ((with_reducible first | refine vc_caseD (fun h => ?_) (fun h => ?_) | refine vc_caseN (fun h => ?_) (fun h => ?_)) <;> try (exfalso; omega))
            | ((with_reducible refine vc_case (fun h => ?_) (fun h => ?_)) <;> (try simp only [Go.Sym.vs1, reduceCtorEq] at h) <;> try (exfalso; first | omega | (simp at h; done)))))
    all_goals (try have hi : i < M.length := (by omega))
    all_goals (try have hj : i < O.length := (by omega))
    all_goals (try simp only [Int.toNat_natCast, Nat.zero_add, sgn_at hi] at *)
    all_goals (try simp only [sgn_at hj] at *)
    all_goals (try have eY := rtNo (a := (M.getD i s0).root) (b := (O.getD i s0).root) (by assumption))
    all_goals (try have eN := rtOff (a := (M.getD i s0).root) (b := (O.getD i s0).root) (by assumption))
    all_goals (try (exfalso; first | exact eN eY | exact eN (k2 i (by omega)).2))
    all_goals first
      | with_reducible rfl
      | omega
      | exact ⟨⟨trivial, rfl, room128 (by show (e.trunk.map sD).length ≤ _; omega)⟩, sgn_size e.trunk⟩
      | exact ⟨⟨Nat.le_refl _, rfl, room128 (by rw [List.length_append]; show (e.trunk.map sD).length + 1 ≤ _; omega)⟩, fun y hy => (by rw [List.mem_singleton.1 hy]; rfl)⟩
      | (rw [mA, List.map_append]; rfl)
      | exact ⟨by omega, by omega⟩
      | exact ⟨⟨by omega, trivial⟩, rfl⟩
      | exact ⟨⟨by omega, by omega⟩, rfl⟩
      | exact ⟨by decide +kernel, fits_root 5 _, fits_root 5 _⟩
      | exact key_at (by omega) (by omega)
      | (have q : i = k := (by omega); subst q; rfl)
      | (rw [wrap64_id (by omega) (by omega)]; rfl)
      | exact ⟨trivial, trivial, trivial, trivial⟩
      | rfl
      | trace_state
end

end Go.Proofs.Ytcdjheiccefcdaa
