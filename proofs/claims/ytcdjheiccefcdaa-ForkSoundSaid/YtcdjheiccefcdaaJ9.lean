import Derived.Test.YtcdjheiccefcdaaJ4
import Derived.Test.YtcdjheiccefcdaaJ6
import Derived.Test.YtcdjheiccefcdaaJ7
import Derived.Test.YtcdjheiccefcdaaJ8
set_option linter.unusedSimpArgs false
set_option linter.unusedVariables false
/-
Evidence that two roots of one epoch were signed: plain words, and what they come to.
-/
set_option linter.unusedSimpArgs false
set_option linter.unusedVariables false
namespace Go.Proofs.Ytcdjheiccefcdaa
open Go.Sym
set_option maxRecDepth 10000
set_option maxHeartbeats 1000000

/-- Evidence. -/
structure Evd where
  trunk : List Sgn
  a : Sgn
  b : Sgn
instance : DecidableEq Evd := fun x y => if h : x.trunk = y.trunk ∧ x.a = y.a ∧ x.b = y.b then isTrue (by cases x; cases y; simp_all) else isFalse (by rintro rfl; exact h ⟨rfl, rfl, rfl⟩)
abbrev eD (e : Evd) : D := .st [.sl (e.trunk.map sD), sD e.a, sD e.b]
def e0 : Evd := ⟨[], s0, s0⟩
structure wfE (e : Evd) : Prop where
  trunk : ∀ s, s ∈ e.trunk → wfS s
  a : wfS e.a
  b : wfS e.b
theorem wfS_0 : wfS s0 := ⟨by decide, rfl, rfl, rfl⟩
theorem wf_e0 : wfE e0 := ⟨nofun, wfS_0, wfS_0⟩
theorem evd_ext (x y : Evd) : x = y ↔ x.trunk = y.trunk ∧ x.a = y.a ∧ x.b = y.b := ⟨fun h => by subst h; exact ⟨rfl, rfl, rfl⟩, fun h => by cases x; cases y; simp_all⟩
/-- The head ahead of all. -/
abbrev hdP (pin : List UInt8) : Hd := ⟨0, zero32, pin⟩
theorem wf_hdP {pin : List UInt8} (h : pin.length = 32) : wfH (hdP pin) := ⟨by show (0 : Nat) < _; decide, rfl, h⟩

/-- Does evidence hold? -/
def okE (pin : List UInt8) (e : Evd) : Bool :=
  decide ((walk (hdP pin) e.trunk).2.2 = 0) && (decide (folE (walk (hdP pin) e.trunk).1 e.a = 0) && (decide (folE (walk (hdP pin) e.trunk).1 e.b = 0) && !decide (e.a.root = e.b.root)))
def chkE (pin : List UInt8) (e : Evd) : Int := bif okE pin e then 0 else 15
theorem okE_iff {pin : List UInt8} {e : Evd} : okE pin e = true ↔ (walk (hdP pin) e.trunk).2.2 = 0 ∧ folE (walk (hdP pin) e.trunk).1 e.a = 0 ∧ folE (walk (hdP pin) e.trunk).1 e.b = 0 ∧ ¬ e.a.root = e.b.root := by
  unfold okE
  simp only [Bool.and_eq_true, Bool.not_eq_true', decide_eq_true_eq, decide_eq_false_iff_not]
theorem chkE_yes {pin : List UInt8} {e : Evd} (h : okE pin e = true) : chkE pin e = 0 := by unfold chkE; rw [h]; rfl
theorem chkE_no {pin : List UInt8} {e : Evd} (h : ¬ okE pin e = true) : chkE pin e = 15 := by unfold chkE; rw [Bool.eq_false_iff.2 h]; rfl
theorem chkE_ok {pin : List UInt8} {e : Evd} (h : chkE pin e = 0) : okE pin e = true := by
  by_cases hb : okE pin e = true
  · exact hb
  · rw [chkE_no hb] at h; cases h
/-- The bytes. -/
def evL (e : Evd) : List Sgn := e.trunk ++ [e.a, e.b]
def evB (e : Evd) : List UInt8 := encT ((evL e).map sgnB)
def mkE (l : List Sgn) : Evd := ⟨l.take (l.length - 2), l.getD (l.length - 2) s0, l.getD (l.length - 1) s0⟩
theorem mkE_evL (e : Evd) : mkE (evL e) = e := by
  have h : (evL e).length = e.trunk.length + 2 := by simp [evL]
  unfold mkE
  rw [h, show e.trunk.length + 2 - 2 = e.trunk.length by omega, show e.trunk.length + 2 - 1 = e.trunk.length + 1 by omega]
  rw [evd_ext]
  refine ⟨?_, ?_, ?_⟩
  · simp [evL]
  · simp [evL, List.getD_eq_getElem?_getD]
  · simp [evL, List.getD_eq_getElem?_getD]
theorem evL_wf {e : Evd} (h : wfE e) : ∀ s, s ∈ evL e → wfS s := fun s hs => by
  rcases List.mem_append.1 hs with hs | hs
  · exact h.1 s hs
  · simp only [List.mem_cons, List.not_mem_nil, or_false] at hs
    rcases hs with rfl | rfl
    · exact h.2
    · exact h.3
/-- What texts are as signed roots. -/
def rdS (t : List UInt8) : Option Sgn := toFin t.length (rdSgn t)
def rdSs : List (List UInt8) → Option (List Sgn)
  | [] => some []
  | t :: ts => (rdS t).bind fun s => (rdSs ts).map fun l => s :: l
def gotL (ts : List (List UInt8)) (i : Nat) : List Sgn := (ts.take i).map fun t => (rdS t).getD s0
theorem gotL_length {ts : List (List UInt8)} {i : Nat} (h : i ≤ ts.length) : (gotL ts i).length = i := by
  unfold gotL
  rw [List.length_map, List.length_take]; omega
theorem gotL_succ {ts : List (List UInt8)} {i : Nat} (h : i < ts.length) : gotL ts (i + 1) = gotL ts i ++ [(rdS (ts.getD i [])).getD s0] := by
  unfold gotL
  rw [List.take_add_one, List.getElem?_eq_getElem h, List.map_append, List.getD_eq_getElem?_getD, List.getElem?_eq_getElem h]; rfl
theorem rdSs_all {ts : List (List UInt8)} (h : ∀ j, j < ts.length → (rdS (ts.getD j [])).isSome = true) : rdSs ts = some (gotL ts ts.length) := by
  induction ts with
  | nil => rfl
  | cons t ts ih =>
    have h0 := h 0 (by simp)
    have h1 := ih fun j hj => by simpa using h (j + 1) (by simpa using hj)
    obtain ⟨s, hs⟩ := Option.isSome_iff_exists.1 h0
    have hs : rdS t = some s := hs
    simp only [rdSs, hs, h1, Option.bind_some, Option.map_some, gotL, List.length_cons, List.take_succ_cons, List.map_cons, Option.getD_some]
theorem rdSs_bad {ts : List (List UInt8)} {j : Nat} (hj : j < ts.length) (h : rdS (ts.getD j []) = none) : rdSs ts = none := by
  induction ts generalizing j with
  | nil => simp at hj
  | cons t ts ih =>
    cases j with
    | zero =>
      have h : rdS t = none := h
      simp only [rdSs, h, Option.bind_none]
    | succ j =>
      have := ih (j := j) (by simpa using hj) (by simpa using h)
      simp only [rdSs, this, Option.map_none]
      cases rdS t <;> rfl
theorem rdSs_some {ts : List (List UInt8)} {l : List Sgn} (h : rdSs ts = some l) : ts = l.map sgnB ∧ ∀ s, s ∈ l → wfS s ∧ s.sig.length ≤ 1048576 := by
  induction ts generalizing l with
  | nil => cases h; exact ⟨rfl, nofun⟩
  | cons t ts ih =>
    unfold rdSs at h
    cases hs : rdS t with
    | none => rw [hs] at h; cases h
    | some s =>
      cases hl : rdSs ts with
      | none => rw [hs, hl] at h; cases h
      | some l' =>
        rw [hs, hl] at h
        cases h
        obtain ⟨h1, h2⟩ := ih hl
        obtain ⟨k1, k2, k3⟩ := sgn_one hs
        refine ⟨by rw [List.map_cons, ← h1, k1], fun x hx => ?_⟩
        rcases List.mem_cons.1 hx with rfl | hx
        · exact ⟨k2, k3⟩
        · exact h2 x hx
theorem rdSs_back {l : List Sgn} (h : ∀ s, s ∈ l → wfS s ∧ s.sig.length ≤ 1048576) : rdSs (l.map sgnB) = some l := by
  induction l with
  | nil => rfl
  | cons s l ih =>
    have hs := h s (by simp)
    have h1 : rdS (sgnB s) = some s := sgn_back hs.1 hs.2
    simp only [List.map_cons, rdSs, h1, ih (fun x hx => h x (by simp [hx])), Option.bind_some, Option.map_some]

theorem textB_le (t : List UInt8) (h : t.length < 2 ^ 64) : (textB t).length ≤ t.length + 10 := by
  have h1 := numB_len_le 10 t.length (Nat.lt_of_lt_of_le h (by decide)) (by decide)
  unfold textB
  rw [List.length_append]; omega
theorem sgnB_le {s : Sgn} (hw : wfS s) (h : s.sig.length < 2 ^ 64) : (sgnB s).length ≤ s.sig.length + 116 := by
  have h1 := numB_len_le 10 s.root.epoch (Nat.lt_of_lt_of_le hw.1 (by decide)) (by decide)
  have h2 := textB_le s.sig h
  unfold sgnB
  simp only [List.length_append, List.flatten_cons, List.flatten_nil, List.length_nil, hw.2, hw.3, hw.4]
  omega

def rdE (bs : List UInt8) : Option Evd := (rdTexts bs).bind fun ts => bif decide (2 ≤ ts.length ∧ ts.length ≤ 65) then (rdSs ts).map mkE else none
theorem rdE_back {e : Evd} (hw : wfE e) (hn : e.trunk.length ≤ 63) (hs : ∀ s, s ∈ evL e → s.sig.length ≤ 1048000) : rdE (evB e) = some e := by
  have h1 : rdTexts (evB e) = some ((evL e).map sgnB) := by
    rw [rdTexts_iff]
    refine ⟨rfl, by rw [List.length_map]; simp [evL]; omega, fun t ht => ?_⟩
    obtain ⟨s, hs2, rfl⟩ := List.mem_map.1 ht
    have := sgnB_le (evL_wf hw s hs2) (Nat.lt_of_le_of_lt (hs s hs2) (by decide))
    have := hs s hs2
    omega
  have h2 : ((evL e).map sgnB).length = e.trunk.length + 2 := by simp [evL]
  unfold rdE
  rw [h1, Option.bind_some, h2, decide_eq_true (by omega), cond_true, rdSs_back (fun s h => ⟨evL_wf hw s h, Nat.le_trans (hs s h) (by decide)⟩), Option.map_some, mkE_evL]

/-- The place at which two lists of roots part. -/
def partF (l m : List Sgn) : Option Nat := (List.range (min l.length m.length)).find? fun i => !decide ((l.getD i s0).root = (m.getD i s0).root)
def evAt (l m : List Sgn) (i : Nat) : Evd := ⟨l.take i, l.getD i s0, m.getD i s0⟩
/-- The evidence that two lists come to. -/
def findF (pin : List UInt8) (l m : List Sgn) : Option Nat := (partF l m).bind fun i => bif okE pin (evAt l m i) then some i else none
end Go.Proofs.Ytcdjheiccefcdaa

/-
Readings of evidence.
-/
set_option linter.unusedSimpArgs false
set_option linter.unusedVariables false
namespace Go.Proofs.Ytcdjheiccefcdaa
open Go.Sym
set_option maxRecDepth 100000

theorem evd_of {n : Nat} {x : D} (h : okD Try.prog (n + 7) 32 x) : ∃ e : Evd, x = eD e ∧ wfE e := by
  have hu : ∃ fs, Try.prog.underlying 32 = some (.struct fs) ∧ fs.toList.map (·.type) = [24, 30, 30] := ⟨_, rfl, rfl⟩
  obtain ⟨fs, hu, ht⟩ := hu
  rw [show n + 7 = (n + 6) + 1 from rfl, okD, hu] at h
  obtain ⟨xs, rfl, hx⟩ := h
  rw [ht] at hx
  obtain ⟨t, a, b, rfl, h0, h1, h2⟩ := okAll3 hx
  obtain ⟨l, rfl, hl, _⟩ := sgns_of (n := n) h0
  obtain ⟨s, rfl, hs⟩ := sgn_of (n := n + 1) h1
  obtain ⟨u, rfl, hv⟩ := sgn_of (n := n + 1) h2
  exact ⟨⟨l, s, u⟩, rfl, hl, hs, hv⟩
end Go.Proofs.Ytcdjheiccefcdaa

/-
Evidence checked, written and read by the program.
-/
set_option linter.unusedSimpArgs false
set_option linter.unusedVariables false
namespace Go.Proofs.Ytcdjheiccefcdaa
open Go.Sym
set_option maxRecDepth 10000
set_option maxHeartbeats 4000000

theorem rtNo {a b : Rt} (h : (bif false then !(D.beq (rootD a) (rootD b)) else D.beq (rootD a) (rootD b)) = true) : a = b := by
  have h2 : D.beq (rootD a) (rootD b) = true := h
  rw [beq_root] at h2
  exact of_decide_eq_true h2
theorem rtOff {a b : Rt} (h : (bif false then !(D.beq (rootD a) (rootD b)) else D.beq (rootD a) (rootD b)) = false) : ¬ a = b := by
  have h2 : D.beq (rootD a) (rootD b) = false := h
  rw [beq_root] at h2
  exact of_decide_eq_false h2
theorem two_len {x y : D} : [x, y].length = 2 := rfl
theorem two_at (a b : Sgn) {i : Nat} (h : i < 2) : [sD a, sD b].getD i .nilp = sD ([a, b].getD i s0) := by
  match i, h with
  | 0, _ => rfl
  | 1, _ => rfl
theorem two_i {i : Nat} (h : i < 2) : i = 0 ∨ i = 1 := by omega
theorem fol_more {g : Hd} {l : List Sgn} {i : Nat} (h : ∀ j, j < i → folE g (l.getD j s0) = 0) (hp : folE g (l.getD i s0) = 0) : ∀ j, j < i + 1 → folE g (l.getD j s0) = 0 := fun j hj => by
  by_cases e : j = i
  · subst e; exact hp
  · exact h j (by omega)
theorem chk15 {pin : List UInt8} {e : Evd} (h : ¬ (walk (hdP pin) e.trunk).2.2 = 0 ∨ e.a.root = e.b.root ∨ ¬ folE (walk (hdP pin) e.trunk).1 e.a = 0 ∨ ¬ folE (walk (hdP pin) e.trunk).1 e.b = 0) : chkE pin e = 15 := by
  refine chkE_no fun k => ?_
  obtain ⟨h1, h2, h3, h4⟩ := okE_iff.1 k
  rcases h with h | h | h | h
  · exact h h1
  · exact h4 h
  · exact h h2
  · exact h h3

section
variable (pin : List UInt8) (hp : pin.length = 32) (e : Evd) (hw : wfE e) (hl : e.trunk.length < 2 ^ 63)
include hp hw hl
theorem echeck_ok : LocalCall Try.prog 11 [.d (digD pin), .d (eD e)] [] [] (one [.d (.int .i64 (chkE pin e))]) [] := by
  have c0 := start_ok pin
  have c1 := walk_ok (hdP pin) e.trunk (wf_hdP hp) hw.1 hl
  have wg : wfH (walk (hdP pin) e.trunk).1 := walk_wf _ _ (wf_hdP hp) hw.1
  have k15 : _ → chkE pin e = 15 := chk15 (pin := pin) (e := e)
  have k0 : (walk (hdP pin) e.trunk).2.2 = 0 → ¬ e.a.root = e.b.root → folE (walk (hdP pin) e.trunk).1 e.a = 0 → folE (walk (hdP pin) e.trunk).1 e.b = 0 → chkE pin e = 0 := fun h1 h2 h3 h4 => chkE_yes (okE_iff.2 ⟨h1, h3, h4, h2⟩)
  generalize (walk (hdP pin) e.trunk).1 = g at *
  generalize (walk (hdP pin) e.trunk).2.2 = r at *
  generalize ((walk (hdP pin) e.trunk).2.1 : Int) = n at *
  have fo : ∀ i : Nat, i < 2 → LocalCall Try.prog 29 [.d (hdD g), .d (sD ([e.a, e.b].getD i s0))] [] [] (one [.d (hdD (folH g ([e.a, e.b].getD i s0))), .d (.int .i64 (folE g ([e.a, e.b].getD i s0)))]) [] := fun i hi => follow_ok g _ wg (wfS_at (l := [e.a, e.b]) (fun s hs => by
    simp only [List.mem_cons, List.not_mem_nil, or_false] at hs
    rcases hs with rfl | rfl
    · exact hw.2
    · exact hw.3) hi)
  refine vc_fn mixed Try.func11 rfl rfl [] (vc_chk rfl) ?_
  repeat' (first
      | ((with_reducible refine vc_chk ?_); first | decide +kernel | rfl)
      | (with_reducible refine vc_side0 ?_; rfl)
      | (with_reducible first
           | refine vc_true ?_ | refine vc_true2 ?_ | refine vc_side ?_ ?_ | refine vc_triv | refine vc_later ?_ | refine vc_caseT ?_ | refine vc_caseF ?_ | refine vc_cons ?_ | refine vc_nil ?_ ?_ | refine vc_seq ?_
              | refine vc_region ?_ | refine vc_cond ?_ | refine vc_block ?_ | refine vc_retc ?_ | refine vc_exit ?_ | refine vc_skip ?_ | refine vc_scope ?_ | refine vc_label ?_ | refine vc_goto ?_ | refine vc_wkSl0
              | refine vc_wkHp0 | refine vc_eqAVs0 | refine vc_preG0 | refine vc_wkSl ?_ ?_ | refine vc_wkHp ?_ ?_ | refine vc_eqAVs ?_ ?_ | refine vc_preG ?_ ?_ | refine vc_side0 ?_ | refine vc_pure c0 ?_ ?_ ?_
              | refine vc_pure c1 ?_ ?_ ?_ | refine vc_call [] (fo i (by omega)) ?_
              | refine vc_loopI 51 (fun (i : Nat) => [(5, .ptr 2036 []), (36, .sl 5016 [] 98 0 2), (37, .d (.int .i64 2)), (38, .d (.int .i64 (i : Int)))]) (fun i => [(2036, .var (.d (hdD g))), (5016, .row 98 [sD e.a, sD e.b])]) (fun i => 2 - i) (fun i => i ≤ 2 ∧ ∀ j, j < i → folE g ([e.a, e.b].getD j s0) = 0) 0 [] ?_ ?_ ?_ ?_ ?_ (fun i hI => ?_)
              | refine vc_nextI (i + 1) [] ?_ ?_ ?_ ?_ ?_ ?_ | refine vc_weakf [] ?_ ?_ ?_ | refine vc_and ?_ ?_ | refine vc_ret [] [] ?_)
      | ((with_reducible first | refine vc_caseD (fun h => ?_) (fun h => ?_) | refine vc_caseN (fun h => ?_) (fun h => ?_)) <;> try (exfalso; omega))
      | ((with_reducible refine vc_case (fun h => ?_) (fun h => ?_)) <;> (try simp only [Go.Sym.vs1, reduceCtorEq] at h) <;> try (exfalso; first | omega | (simp at h; done)))
      | (conv in Vc _ => arg 1; whnf
         first
          | (with_reducible refine vc_side0 ?_; rfl)
          | (with_reducible first
              | refine vc_true ?_ | refine vc_true2 ?_ | refine vc_side ?_ ?_ | refine vc_triv | refine vc_later ?_ | refine vc_caseT ?_ | refine vc_caseF ?_ | refine vc_cons ?_ | refine vc_nil ?_ ?_ | refine vc_seq ?_
                 | refine vc_region ?_ | refine vc_cond ?_ | refine vc_block ?_ | refine vc_retc ?_ | refine vc_exit ?_ | refine vc_skip ?_ | refine vc_scope ?_ | refine vc_label ?_ | refine vc_goto ?_ | refine vc_wkSl0
                 | refine vc_wkHp0 | refine vc_eqAVs0 | refine vc_preG0 | refine vc_wkSl ?_ ?_ | refine vc_wkHp ?_ ?_ | refine vc_eqAVs ?_ ?_ | refine vc_preG ?_ ?_ | refine vc_side0 ?_ | refine vc_pure c0 ?_ ?_ ?_
                 | refine vc_pure c1 ?_ ?_ ?_ | refine vc_call [] (fo i (by omega)) ?_
                 | refine vc_loopI 51 (fun (i : Nat) => [(5, .ptr 2036 []), (36, .sl 5016 [] 98 0 2), (37, .d (.int .i64 2)), (38, .d (.int .i64 (i : Int)))]) (fun i => [(2036, .var (.d (hdD g))), (5016, .row 98 [sD e.a, sD e.b])]) (fun i => 2 - i) (fun i => i ≤ 2 ∧ ∀ j, j < i → folE g ([e.a, e.b].getD j s0) = 0) 0 [] ?_ ?_ ?_ ?_ ?_ (fun i hI => ?_)
                 | refine vc_nextI (i + 1) [] ?_ ?_ ?_ ?_ ?_ ?_ | refine vc_weakf [] ?_ ?_ ?_ | refine vc_and ?_ ?_ | refine vc_ret [] [] ?_)
          | ((with_reducible first | refine vc_caseD (fun h => ?_) (fun h => ?_) | refine vc_caseN (fun h => ?_) (fun h => ?_)) <;> try (exfalso; omega))
          | ((with_reducible refine vc_case (fun h => ?_) (fun h => ?_)) <;> (try simp only [Go.Sym.vs1, reduceCtorEq] at h) <;> try (exfalso; first | omega | (simp at h; done)))))
  all_goals first
    | with_reducible rfl
    | omega
    | exact ⟨by decide +kernel, fits_root 5 _, fits_root 5 _⟩
    | exact ⟨Nat.zero_le _, fun j hj => absurd hj (Nat.not_lt_zero j)⟩
    | exact ⟨by omega, by rw [two_len]; omega⟩
    | exact ⟨⟨by rw [two_len]; omega, trivial⟩, by rw [Nat.zero_add, Int.toNat_natCast, two_at _ _ (by omega)]; rfl⟩
    | (show D.st _ = sD _; simp only [Nat.zero_add, Int.toNat_natCast, two_at _ _ (show i < 2 by omega)]; rfl)
    | exact ⟨by omega, fol_more hI.2 (by assumption)⟩
    | (rw [wrap64_id (by omega) (by omega)]; rfl)
    | (rcases two_i (show i < 2 by omega) with e | e <;> subst e <;> first
       | exact congrArg (D.int .i64) (k15 (.inr (.inr (.inl (by assumption))))).symm
       | exact congrArg (D.int .i64) (k15 (.inr (.inr (.inr (by assumption))))).symm)
    | exact congrArg (D.int .i64) (k0 (by assumption) (rtOff (by assumption)) (hI.2 0 (by omega)) (hI.2 1 (by omega))).symm
    | exact congrArg (D.int .i64) (k15 (.inl (by assumption))).symm
    | exact congrArg (D.int .i64) (k15 (.inr (.inl (rtNo (by assumption))))).symm
    | exact congrArg (D.int .i64) (k15 (.inr (.inr (.inl (by assumption))))).symm
    | exact congrArg (D.int .i64) (k15 (.inr (.inr (.inr (by assumption))))).symm
    | exact congrArg (D.int .i64) (k0 (by assumption) (rtOff (by assumption)) (by assumption) (by assumption)).symm
    | rfl
    | trace_state

end

end Go.Proofs.Ytcdjheiccefcdaa

/-
What the references of the record layer write.
-/
set_option linter.unusedSimpArgs false
set_option linter.unusedVariables false
namespace Go.Proofs.Ytcdjheiccefcdaa
open Go.Sym
set_option maxRecDepth 10000
set_option maxHeartbeats 8000000

end Go.Proofs.Ytcdjheiccefcdaa

/-
Evidence's bytes, by the program and by the document.
-/
set_option linter.unusedSimpArgs false
set_option linter.unusedVariables false
namespace Go.Proofs.Ytcdjheiccefcdaa
open Go.Sym
set_option maxRecDepth 10000
set_option maxHeartbeats 4000000

theorem flat_le {M : Nat} : ∀ {vs : List (List UInt8)}, (∀ v, v ∈ vs → v.length ≤ M) → vs.flatten.length ≤ M * vs.length
  | [], _ => by simp
  | v :: vs, h => by
    have h1 := h v (by simp)
    have h2 : vs.flatten.length ≤ M * vs.length := flat_le fun w hw => h w (List.mem_cons_of_mem _ hw)
    rw [List.flatten_cons, List.length_append, List.length_cons, Nat.mul_succ]; omega
/-- Roots that may be written. -/
def fitL (l : List Sgn) : Prop := ∀ s, s ∈ l → wfS s ∧ s.sig.length ≤ 2 ^ 21
theorem fit_len {s : Sgn} (h : wfS s ∧ s.sig.length ≤ 2 ^ 21) : (sgnB s).length ≤ 2 ^ 22 := by
  have := sgnB_le h.1 (Nat.lt_of_le_of_lt h.2 (by decide))
  have := h.2
  omega
theorem room_enc {l : List Sgn} (h : fitL l) (hl : l.length ≤ 5000) : Room (encT (l.map sgnB)).length 1 := by
  have h1 : ∀ v, v ∈ l.map sgnB → v.length ≤ 2 ^ 22 := fun v hv => by
    obtain ⟨s, hs, rfl⟩ := List.mem_map.1 hv
    exact fit_len (h s hs)
  have h2 := flat_le h1
  have h3 := encT_len (fun v hv => Nat.lt_of_le_of_lt (h1 v hv) (by decide)) (show (l.map sgnB).length < 2 ^ 64 by rw [List.length_map]; omega)
  rw [List.length_map] at h2 h3
  unfold Room; omega
theorem sgnW_at {l : List Sgn} (h : fitL l) {i : Nat} (hi : i < l.length) : LocalCall Try.prog 32 [.d (sD (l.getD i s0))] [] [] (one [.d (.sl ((sgnB (l.getD i s0)).map byteD))]) [] := by
  have hs := h (l.getD i s0) (by rw [List.getD_eq_getElem?_getD, List.getElem?_eq_getElem hi]; simp)
  exact sgnW _ hs.1.1 hs.1.2 hs.1.3 hs.1.4 (Nat.le_trans (fit_len hs) (by decide))
theorem sgB_app (l : List Sgn) {i : Nat} (hi : i < l.length) : ((l.take i).map sgnB).map tD ++ [tD (sgnB (l.getD i s0))] = ((l.take (i + 1)).map sgnB).map tD := by
  rw [List.take_add_one, List.getElem?_eq_getElem hi, List.getD_eq_getElem?_getD, List.getElem?_eq_getElem hi, List.map_append, List.map_append]; rfl

theorem room128 {n : Nat} (h : n ≤ 2 ^ 20) : Room n 128 := by unfold Room; omega
theorem room24' {n : Nat} (h : n ≤ 2 ^ 20) : Room n 24 := by unfold Room; omega
theorem sgn_size (l : List Sgn) : ∀ y, y ∈ l.map sD → y.size = 98 := fun y hy => by
  obtain ⟨s, _, rfl⟩ := List.mem_map.1 hy
  rfl
theorem bytes_ok {n : Nat} (h : n ≤ 2 ^ 20) : (128 : Int) * (n : Int) ≤ 281474976710656 := by omega
theorem cutS (l : List Sgn) (i : Nat) : cutD (l.map sD) 0 (i : Int) = (l.take i).map sD := by
  show List.drop 0 (List.take (i : Int).toNat _) = _
  rw [List.drop_zero, Int.toNat_natCast, List.map_take]
theorem copied (e : Evd) : overD (overD (List.replicate (e.trunk.length + 2) (D.zero Try.prog 8 30)) (e.trunk.map sD) 0 (min e.trunk.length (e.trunk.length + 2))) [sD e.a, sD e.b] e.trunk.length (min [sD e.a, sD e.b].length (e.trunk.length + 2 - e.trunk.length)) = (evL e).map sD := by
  have h1 : overD (List.replicate (e.trunk.length + 2) (D.zero Try.prog 8 30)) (e.trunk.map sD) 0 (min e.trunk.length (e.trunk.length + 2)) = e.trunk.map sD ++ List.replicate 2 (D.zero Try.prog 8 30) := by
    unfold overD
    rw [show min e.trunk.length (e.trunk.length + 2) = e.trunk.length by omega, List.take_zero, List.nil_append, List.take_of_length_le (by rw [List.length_map]; exact Nat.le_refl _), List.drop_replicate]
    congr 1; congr 1; omega
  rw [h1, show min [sD e.a, sD e.b].length (e.trunk.length + 2 - e.trunk.length) = 2 by show min 2 _ = 2; omega]
  unfold overD evL
  rw [List.take_left' (List.length_map _), List.drop_of_length_le (by rw [List.length_append, List.length_map, List.length_replicate]; omega), List.append_nil, List.map_append]
  rfl
theorem told (e : Evd) {i : Nat} (hi : e.trunk.length ≤ i) : D.sl (((e.trunk.take i).map sgnB).map tD ++ [D.sl ((sgnB e.a).map byteD)] ++ [D.sl ((sgnB e.b).map byteD)]) = D.sl (((evL e).map sgnB).map tD) := by
  rw [List.take_of_length_le hi]
  unfold evL
  rw [List.map_append, List.map_append, List.append_assoc]; rfl

section
variable (e : Evd) (hf : fitL (evL e)) (hl : e.trunk.length ≤ 1000)
include hf hl
theorem ebytes_ok : LocalCall Try.prog 13 [.d (eD e)] [] [] (one [.d (.sl ((evB e).map byteD))]) [] := by
  have lt : (e.trunk.map sD).length = e.trunk.length := List.length_map _
  have lv : (evL e).length = e.trunk.length + 2 := by simp [evL]
  have c1 : ∀ i, i < (evL e).length → _ := fun i hi => sgnW_at hf hi
  have w2 : IntKind.i64.wrap ((e.trunk.length : Int) + 2) = ((e.trunk.length + 2 : Nat) : Int) := by rw [wrap64_id (by omega) (by omega)]; omega
  have c2 := texts_any ((evL e).map sgnB) (room_enc hf (by omega))
  refine vc_fn mixed Try.func13 rfl rfl [(500004, [9001004])] (vc_chk rfl) ?_
  repeat' (first
      | ((with_reducible refine vc_chk ?_); first | decide +kernel | rfl)
      | (with_reducible refine vc_side0 ?_; rfl)
      | (with_reducible first
           | refine vc_true ?_ | refine vc_true2 ?_ | refine vc_side ?_ ?_ | refine vc_triv | refine vc_later ?_ | refine vc_caseT ?_ | refine vc_caseF ?_ | refine vc_cons ?_ | refine vc_nil ?_ ?_ | refine vc_seq ?_
              | refine vc_region ?_ | refine vc_cond ?_ | refine vc_block ?_ | refine vc_retc ?_ | refine vc_exit ?_ | refine vc_skip ?_ | refine vc_scope ?_ | refine vc_label ?_ | refine vc_goto ?_ | refine vc_wkSl0
              | refine vc_wkHp0 | refine vc_eqAVs0 | refine vc_preG0 | refine vc_wkSl ?_ ?_ | refine vc_wkHp ?_ ?_ | refine vc_eqAVs ?_ ?_ | refine vc_preG ?_ ?_ | refine vc_side0 ?_ | refine vc_call [] (c1 i (by omega)) ?_
              | refine vc_call [true] c2 ?_
              | refine vc_loopI 41 (fun (i : Nat) => [(4, .sl 9 [] 1 0 (((evL e).take i).map sgnB).length), (27, .sl 2016 [] 98 0 (evL e).length), (28, .d (.int .i64 ((evL e).length : Nat))), (29, .d (.int .i64 (i : Int)))]) (fun i => [(9, .row 1 ((((evL e).take i).map sgnB).map tD)), (2016, .row 98 ((evL e).map sD))]) (fun i => (evL e).length - i) (fun i => i ≤ (evL e).length) 0 [] ?_ ?_ ?_ ?_ ?_ (fun i hI => ?_)
              | refine vc_nextI (i + 1) [(9, 9016)] ?_ ?_ ?_ ?_ ?_ ?_ | refine vc_weakf [] ?_ ?_ ?_ | refine vc_and ?_ ?_ | refine vc_ret [] [] ?_)
      | ((with_reducible first | refine vc_caseD (fun h => ?_) (fun h => ?_) | refine vc_caseN (fun h => ?_) (fun h => ?_)) <;> try (exfalso; omega))
      | ((with_reducible refine vc_case (fun h => ?_) (fun h => ?_)) <;> (try simp only [Go.Sym.vs1, reduceCtorEq] at h) <;> try (exfalso; first | omega | (simp at h; done)))
      | (conv in Vc _ => arg 1; whnf
         first
          | (with_reducible refine vc_side0 ?_; rfl)
          | (with_reducible first
              | refine vc_true ?_ | refine vc_true2 ?_ | refine vc_side ?_ ?_ | refine vc_triv | refine vc_later ?_ | refine vc_caseT ?_ | refine vc_caseF ?_ | refine vc_cons ?_ | refine vc_nil ?_ ?_ | refine vc_seq ?_
                 | refine vc_region ?_ | refine vc_cond ?_ | refine vc_block ?_ | refine vc_retc ?_ | refine vc_exit ?_ | refine vc_skip ?_ | refine vc_scope ?_ | refine vc_label ?_ | refine vc_goto ?_ | refine vc_wkSl0
                 | refine vc_wkHp0 | refine vc_eqAVs0 | refine vc_preG0 | refine vc_wkSl ?_ ?_ | refine vc_wkHp ?_ ?_ | refine vc_eqAVs ?_ ?_ | refine vc_preG ?_ ?_ | refine vc_side0 ?_ | refine vc_call [] (c1 i (by omega)) ?_
                 | refine vc_call [true] c2 ?_
                 | refine vc_loopI 41 (fun (i : Nat) => [(4, .sl 9 [] 1 0 (((evL e).take i).map sgnB).length), (27, .sl 2016 [] 98 0 (evL e).length), (28, .d (.int .i64 ((evL e).length : Nat))), (29, .d (.int .i64 (i : Int)))]) (fun i => [(9, .row 1 ((((evL e).take i).map sgnB).map tD)), (2016, .row 98 ((evL e).map sD))]) (fun i => (evL e).length - i) (fun i => i ≤ (evL e).length) 0 [] ?_ ?_ ?_ ?_ ?_ (fun i hI => ?_)
                 | refine vc_nextI (i + 1) [(9, 9016)] ?_ ?_ ?_ ?_ ?_ ?_ | refine vc_weakf [] ?_ ?_ ?_ | refine vc_and ?_ ?_ | refine vc_ret [] [] ?_)
          | ((with_reducible first | refine vc_caseD (fun h => ?_) (fun h => ?_) | refine vc_caseN (fun h => ?_) (fun h => ?_)) <;> try (exfalso; omega))
          | ((with_reducible refine vc_case (fun h => ?_) (fun h => ?_)) <;> (try simp only [Go.Sym.vs1, reduceCtorEq] at h) <;> try (exfalso; first | omega | (simp at h; done)))))
  all_goals (try simp only [List.length_replicate, List.length_map, w2, Nat.zero_add, Int.toNat_natCast, List.nil_append, List.drop_zero, List.take_length, Nat.sub_zero])
  all_goals first
    | with_reducible rfl
    | omega
    | exact ⟨by omega, by omega, bytes_ok (by omega), by omega⟩
    | exact ⟨⟨trivial, Nat.le_refl _⟩, sgn_size _⟩
    | exact ⟨by omega, by omega, Nat.le_refl _⟩
    | exact ⟨by omega, by omega⟩
    | exact ⟨⟨Nat.le_refl _, by rw [overD_length (by rw [List.length_replicate]; omega) (by rw [List.length_map]; omega), List.length_replicate]; omega⟩, sgn_size [e.a, e.b]⟩
    | exact congrArg (D.int .i64) (by omega)
    | exact copied e
    | exact ⟨⟨by omega, trivial⟩, by rw [sgn_at (by omega)]; rfl⟩
    | exact ⟨⟨by omega, by omega⟩, by rw [sgn_at (by omega)]; rfl⟩
    | (show D.st _ = sD _; rw [sgn_at (by omega)]; rfl)
    | exact ⟨⟨Nat.le_refl _, by first | trivial | rfl, room24' (by simp only [List.length_append, List.length_map, List.length_take, List.length_cons, List.length_nil]; omega)⟩, fun y hy => (by rw [List.mem_singleton.1 hy]; rfl)⟩
    | exact sgB_app _ (by omega)
    | (rw [List.length_append, List.length_map, List.length_map, List.length_take, List.length_take]; show _ + 1 = _; omega)
    | (rw [wrap64_id (by omega) (by omega)]; rfl)
    | exact ⟨Nat.le_refl _, trivial⟩
    | (rw [show List.take i (evL e) = evL e from List.take_of_length_le (by omega)]; first | done | (rw [← List.length_map (f := sgnB), ← List.length_map (f := tD), List.take_length]; done) | rfl)
    | exact told e (by omega)
    | rfl
    | trace_state

end

end Go.Proofs.Ytcdjheiccefcdaa

/-
record.ReadSigned, record.ReadProof.
-/
set_option linter.unusedSimpArgs false
set_option linter.unusedVariables false
namespace Go.Proofs.Ytcdjheiccefcdaa
open Go.Sym
set_option maxRecDepth 10000
set_option maxHeartbeats 4000000

theorem sgn_cl (B : List D) (bs : List UInt8) (hB : B = bs.map byteD) (hl : bs.length < 2 ^ 63) :
    LocalE (rdSgn bs) Try.prog 83 [.ptr 9 [], .ptr 8 [], .ptr 7 []] [(9, rd B 0), (8, .var (.fn (.func 63) [])), (7, .var (.d (.st [.st [.int .u64 0, digD zero32, digD zero32, digD zero32], .nils])))] [] (fun _ => []) (fun a => [(9, rd B a.2), (7, .var (.d (sD a.1)))]) [] fault [(9, .dead), (7, .dead)] := by
  refine vc_fnE mixed Try.func83 rfl rfl [] (rdSgn bs) (vc_chk rfl) ?_
  repeat' (first
      | ((with_reducible refine vc_chk ?_); first | decide +kernel | rfl)
      | (with_reducible refine vc_side0 ?_; rfl)
      | (with_reducible first
           | refine vc_true ?_ | refine vc_true2 ?_ | refine vc_side ?_ ?_ | refine vc_triv | refine vc_later ?_ | refine vc_caseT ?_ | refine vc_caseF ?_ | refine vc_cons ?_ | refine vc_nil ?_ ?_ | refine vc_seq ?_
              | refine vc_region ?_ | refine vc_cond ?_ | refine vc_block ?_ | refine vc_retc ?_ | refine vc_exit ?_ | refine vc_skip ?_ | refine vc_scope ?_ | refine vc_label ?_ | refine vc_goto ?_ | refine vc_wkSl0
              | refine vc_wkHp0 | refine vc_eqAVs0 | refine vc_preG0 | refine vc_wkSl ?_ ?_ | refine vc_wkHp ?_ ?_ | refine vc_eqAVs ?_ ?_ | refine vc_preG ?_ ?_ | refine vc_side0 ?_
              | refine vc_eAt [] 9 (by with_unfolding_all rfl) (sgn_in B bs hB hl) (fun a h => ?_) (fun h => ?_) | refine vc_ek a h ?_ | refine vc_ep h ?_ | refine vc_panc [] [7] ?_ ?_ | refine vc_weakf [] ?_ ?_ ?_
              | refine vc_and ?_ ?_ | refine vc_ret [] [] ?_)
      | ((with_reducible first | refine vc_caseD (fun h => ?_) (fun h => ?_) | refine vc_caseN (fun h => ?_) (fun h => ?_)) <;> try (exfalso; omega))
      | ((with_reducible refine vc_case (fun h => ?_) (fun h => ?_)) <;> (try simp only [Go.Sym.vs1, reduceCtorEq] at h) <;> try (exfalso; first | omega | (simp at h; done)))
      | (conv in Vc _ => arg 1; whnf
         first
          | (with_reducible refine vc_side0 ?_; rfl)
          | (with_reducible first
              | refine vc_true ?_ | refine vc_true2 ?_ | refine vc_side ?_ ?_ | refine vc_triv | refine vc_later ?_ | refine vc_caseT ?_ | refine vc_caseF ?_ | refine vc_cons ?_ | refine vc_nil ?_ ?_ | refine vc_seq ?_
                 | refine vc_region ?_ | refine vc_cond ?_ | refine vc_block ?_ | refine vc_retc ?_ | refine vc_exit ?_ | refine vc_skip ?_ | refine vc_scope ?_ | refine vc_label ?_ | refine vc_goto ?_ | refine vc_wkSl0
                 | refine vc_wkHp0 | refine vc_eqAVs0 | refine vc_preG0 | refine vc_wkSl ?_ ?_ | refine vc_wkHp ?_ ?_ | refine vc_eqAVs ?_ ?_ | refine vc_preG ?_ ?_ | refine vc_side0 ?_
                 | refine vc_eAt [] 9 (by with_unfolding_all rfl) (sgn_in B bs hB hl) (fun a h => ?_) (fun h => ?_) | refine vc_ek a h ?_ | refine vc_ep h ?_ | refine vc_panc [] [7] ?_ ?_ | refine vc_weakf [] ?_ ?_ ?_
                 | refine vc_and ?_ ?_ | refine vc_ret [] [] ?_)
          | ((with_reducible first | refine vc_caseD (fun h => ?_) (fun h => ?_) | refine vc_caseN (fun h => ?_) (fun h => ?_)) <;> try (exfalso; omega))
          | ((with_reducible refine vc_case (fun h => ?_) (fun h => ?_)) <;> (try simp only [Go.Sym.vs1, reduceCtorEq] at h) <;> try (exfalso; first | omega | (simp at h; done)))))
  all_goals rfl

theorem sgn_yes (B : List D) (bs : List UInt8) (hB : B = bs.map byteD) (hl : bs.length < 2 ^ 63) (a : Sgn × Nat) (h : rdSgn bs = some a) (he : a.2 = bs.length) :
    LocalCall Try.prog 58 [.d (.sl B), .fn (.func 83) [.ptr 8 [], .ptr 7 []]] [(8, .var (.fn (.func 63) [])), (7, .var (.d (.st [.st [.int .u64 0, digD zero32, digD zero32, digD zero32], .nils])))] [] (one [.d (.int .i64 0)]) [(7, .var (.d (sD a.1)))] := by
  have hlen : B.length = bs.length := by rw [hB]; simp
  refine local_recovers mixed (sl2 := [(0, .d (.sl B)), (1, .fn (.func 83) [.ptr 8 [], .ptr 7 []]), (4, .ptr 1000 [])]) (hp2 := [(8, .var (.fn (.func 63) [])), (7, .var (.d (.st [.st [.int .u64 0, digD zero32, digD zero32, digD zero32], .nils]))), (1000, .var (.d (.int .i64 0)))]) (N := 1000) Try.func58 rfl rfl rfl rfl rfl rfl rfl rfl rfl rfl [] catch_idle catch_pan rfl (vc_chk rfl) rfl (by decide) (by decide) rfl ?_ ?_
  · skip
    repeat' (first
        | ((with_reducible refine vc_chk ?_); first | decide +kernel | rfl)
        | (with_reducible refine vc_side0 ?_; rfl)
        | (with_reducible first
             | refine vc_true ?_ | refine vc_true2 ?_ | refine vc_side ?_ ?_ | refine vc_triv | refine vc_later ?_ | refine vc_caseT ?_ | refine vc_caseF ?_ | refine vc_cons ?_ | refine vc_nil ?_ ?_ | refine vc_seq ?_
                | refine vc_region ?_ | refine vc_cond ?_ | refine vc_block ?_ | refine vc_retc ?_ | refine vc_exit ?_ | refine vc_skip ?_ | refine vc_scope ?_ | refine vc_label ?_ | refine vc_goto ?_ | refine vc_wkSl0
                | refine vc_wkHp0 | refine vc_eqAVs0 | refine vc_preG0 | refine vc_wkSl ?_ ?_ | refine vc_wkHp ?_ ?_ | refine vc_eqAVs ?_ ?_ | refine vc_preG ?_ ?_ | refine vc_side0 ?_ | refine vc_mid [] ?_ ?_ ?_ ?_
                | refine vc_weakf [] ?_ ?_ ?_ | refine vc_and ?_ ?_ | refine vc_ret [] [] ?_)
        | ((with_reducible first | refine vc_caseD (fun h => ?_) (fun h => ?_) | refine vc_caseN (fun h => ?_) (fun h => ?_)) <;> try (exfalso; omega))
        | ((with_reducible refine vc_case (fun h => ?_) (fun h => ?_)) <;> (try simp at h) <;> try (exfalso; omega))
        | (conv in Vc _ => arg 1; whnf
           first
            | (with_reducible refine vc_side0 ?_; rfl)
            | (with_reducible first
                | refine vc_true ?_ | refine vc_true2 ?_ | refine vc_side ?_ ?_ | refine vc_triv | refine vc_later ?_ | refine vc_caseT ?_ | refine vc_caseF ?_ | refine vc_cons ?_ | refine vc_nil ?_ ?_ | refine vc_seq ?_
                   | refine vc_region ?_ | refine vc_cond ?_ | refine vc_block ?_ | refine vc_retc ?_ | refine vc_exit ?_ | refine vc_skip ?_ | refine vc_scope ?_ | refine vc_label ?_ | refine vc_goto ?_ | refine vc_wkSl0
                   | refine vc_wkHp0 | refine vc_eqAVs0 | refine vc_preG0 | refine vc_wkSl ?_ ?_ | refine vc_wkHp ?_ ?_ | refine vc_eqAVs ?_ ?_ | refine vc_preG ?_ ?_ | refine vc_side0 ?_ | refine vc_mid [] ?_ ?_ ?_ ?_
                   | refine vc_weakf [] ?_ ?_ ?_ | refine vc_and ?_ ?_ | refine vc_ret [] [] ?_)
            | ((with_reducible first | refine vc_caseD (fun h => ?_) (fun h => ?_) | refine vc_caseN (fun h => ?_) (fun h => ?_)) <;> try (exfalso; omega))
            | ((with_reducible refine vc_case (fun h => ?_) (fun h => ?_)) <;> (try simp at h) <;> try (exfalso; omega))))
    all_goals rfl
  · have hcl := local_ren [(9, 3008)] [(3008, 9)] ((sgn_cl B bs hB hl).ok a h) rfl
    repeat' (first
        | ((with_reducible refine vc_chk ?_); first | decide +kernel | rfl)
        | (with_reducible refine vc_side0 ?_; rfl)
        | (with_reducible first
             | refine vc_true ?_ | refine vc_true2 ?_ | refine vc_side ?_ ?_ | refine vc_triv | refine vc_later ?_ | refine vc_caseT ?_ | refine vc_caseF ?_ | refine vc_cons ?_ | refine vc_nil ?_ ?_ | refine vc_seq ?_
                | refine vc_region ?_ | refine vc_cond ?_ | refine vc_block ?_ | refine vc_retc ?_ | refine vc_exit ?_ | refine vc_skip ?_ | refine vc_scope ?_ | refine vc_label ?_ | refine vc_goto ?_ | refine vc_wkSl0
                | refine vc_wkHp0 | refine vc_eqAVs0 | refine vc_preG0 | refine vc_wkSl ?_ ?_ | refine vc_wkHp ?_ ?_ | refine vc_eqAVs ?_ ?_ | refine vc_preG ?_ ?_ | refine vc_side0 ?_ | refine vc_call [] hcl ?_
                | refine vc_weakf [] ?_ ?_ ?_ | refine vc_and ?_ ?_ | refine vc_ret [] [] ?_)
        | ((with_reducible first | refine vc_caseD (fun h => ?_) (fun h => ?_) | refine vc_caseN (fun h => ?_) (fun h => ?_)) <;> try (exfalso; omega))
        | ((with_reducible refine vc_case (fun h => ?_) (fun h => ?_)) <;> (try simp at h) <;> try (exfalso; omega))
        | (conv in Vc _ => arg 1; whnf
           first
            | (with_reducible refine vc_side0 ?_; rfl)
            | (with_reducible first
                | refine vc_true ?_ | refine vc_true2 ?_ | refine vc_side ?_ ?_ | refine vc_triv | refine vc_later ?_ | refine vc_caseT ?_ | refine vc_caseF ?_ | refine vc_cons ?_ | refine vc_nil ?_ ?_ | refine vc_seq ?_
                   | refine vc_region ?_ | refine vc_cond ?_ | refine vc_block ?_ | refine vc_retc ?_ | refine vc_exit ?_ | refine vc_skip ?_ | refine vc_scope ?_ | refine vc_label ?_ | refine vc_goto ?_ | refine vc_wkSl0
                   | refine vc_wkHp0 | refine vc_eqAVs0 | refine vc_preG0 | refine vc_wkSl ?_ ?_ | refine vc_wkHp ?_ ?_ | refine vc_eqAVs ?_ ?_ | refine vc_preG ?_ ?_ | refine vc_side0 ?_ | refine vc_call [] hcl ?_
                   | refine vc_weakf [] ?_ ?_ ?_ | refine vc_and ?_ ?_ | refine vc_ret [] [] ?_)
            | ((with_reducible first | refine vc_caseD (fun h => ?_) (fun h => ?_) | refine vc_caseN (fun h => ?_) (fun h => ?_)) <;> try (exfalso; omega))
            | ((with_reducible refine vc_case (fun h => ?_) (fun h => ?_)) <;> (try simp at h) <;> try (exfalso; omega))))
    all_goals rfl

theorem sgn_more (B : List D) (bs : List UInt8) (hB : B = bs.map byteD) (hl : bs.length < 2 ^ 63) (a : Sgn × Nat) (h : rdSgn bs = some a) (he : ¬ a.2 = bs.length) :
    LocalCall Try.prog 58 [.d (.sl B), .fn (.func 83) [.ptr 8 [], .ptr 7 []]] [(8, .var (.fn (.func 63) [])), (7, .var (.d (.st [.st [.int .u64 0, digD zero32, digD zero32, digD zero32], .nils])))] [] (one [.d (.int .i64 3)]) [(7, .dead)] := by
  have hlen : B.length = bs.length := by rw [hB]; simp
  refine local_recovers mixed (sl2 := [(0, .d (.sl B)), (1, .fn (.func 83) [.ptr 8 [], .ptr 7 []]), (4, .ptr 1000 [])]) (hp2 := [(8, .var (.fn (.func 63) [])), (7, .var (.d (.st [.st [.int .u64 0, digD zero32, digD zero32, digD zero32], .nils]))), (1000, .var (.d (.int .i64 0)))]) (N := 1000) Try.func58 rfl rfl rfl rfl rfl rfl rfl rfl rfl rfl [] catch_idle catch_pan rfl (vc_chk rfl) rfl (by decide) (by decide) rfl ?_ ?_
  · skip
    repeat' (first
        | ((with_reducible refine vc_chk ?_); first | decide +kernel | rfl)
        | (with_reducible refine vc_side0 ?_; rfl)
        | (with_reducible first
             | refine vc_true ?_ | refine vc_true2 ?_ | refine vc_side ?_ ?_ | refine vc_triv | refine vc_later ?_ | refine vc_caseT ?_ | refine vc_caseF ?_ | refine vc_cons ?_ | refine vc_nil ?_ ?_ | refine vc_seq ?_
                | refine vc_region ?_ | refine vc_cond ?_ | refine vc_block ?_ | refine vc_retc ?_ | refine vc_exit ?_ | refine vc_skip ?_ | refine vc_scope ?_ | refine vc_label ?_ | refine vc_goto ?_ | refine vc_wkSl0
                | refine vc_wkHp0 | refine vc_eqAVs0 | refine vc_preG0 | refine vc_wkSl ?_ ?_ | refine vc_wkHp ?_ ?_ | refine vc_eqAVs ?_ ?_ | refine vc_preG ?_ ?_ | refine vc_side0 ?_ | refine vc_mid [] ?_ ?_ ?_ ?_
                | refine vc_weakf [] ?_ ?_ ?_ | refine vc_and ?_ ?_ | refine vc_ret [] [] ?_)
        | ((with_reducible first | refine vc_caseD (fun h => ?_) (fun h => ?_) | refine vc_caseN (fun h => ?_) (fun h => ?_)) <;> try (exfalso; omega))
        | ((with_reducible refine vc_case (fun h => ?_) (fun h => ?_)) <;> (try simp at h) <;> try (exfalso; omega))
        | (conv in Vc _ => arg 1; whnf
           first
            | (with_reducible refine vc_side0 ?_; rfl)
            | (with_reducible first
                | refine vc_true ?_ | refine vc_true2 ?_ | refine vc_side ?_ ?_ | refine vc_triv | refine vc_later ?_ | refine vc_caseT ?_ | refine vc_caseF ?_ | refine vc_cons ?_ | refine vc_nil ?_ ?_ | refine vc_seq ?_
                   | refine vc_region ?_ | refine vc_cond ?_ | refine vc_block ?_ | refine vc_retc ?_ | refine vc_exit ?_ | refine vc_skip ?_ | refine vc_scope ?_ | refine vc_label ?_ | refine vc_goto ?_ | refine vc_wkSl0
                   | refine vc_wkHp0 | refine vc_eqAVs0 | refine vc_preG0 | refine vc_wkSl ?_ ?_ | refine vc_wkHp ?_ ?_ | refine vc_eqAVs ?_ ?_ | refine vc_preG ?_ ?_ | refine vc_side0 ?_ | refine vc_mid [] ?_ ?_ ?_ ?_
                   | refine vc_weakf [] ?_ ?_ ?_ | refine vc_and ?_ ?_ | refine vc_ret [] [] ?_)
            | ((with_reducible first | refine vc_caseD (fun h => ?_) (fun h => ?_) | refine vc_caseN (fun h => ?_) (fun h => ?_)) <;> try (exfalso; omega))
            | ((with_reducible refine vc_case (fun h => ?_) (fun h => ?_)) <;> (try simp at h) <;> try (exfalso; omega))))
    all_goals rfl
  · have hcl := local_ren [(9, 3008)] [(3008, 9)] ((sgn_cl B bs hB hl).ok a h) rfl
    repeat' (first
        | ((with_reducible refine vc_chk ?_); first | decide +kernel | rfl)
        | (with_reducible refine vc_side0 ?_; rfl)
        | (with_reducible first
             | refine vc_true ?_ | refine vc_true2 ?_ | refine vc_side ?_ ?_ | refine vc_triv | refine vc_later ?_ | refine vc_caseT ?_ | refine vc_caseF ?_ | refine vc_cons ?_ | refine vc_nil ?_ ?_ | refine vc_seq ?_
                | refine vc_region ?_ | refine vc_cond ?_ | refine vc_block ?_ | refine vc_retc ?_ | refine vc_exit ?_ | refine vc_skip ?_ | refine vc_scope ?_ | refine vc_label ?_ | refine vc_goto ?_ | refine vc_wkSl0
                | refine vc_wkHp0 | refine vc_eqAVs0 | refine vc_preG0 | refine vc_wkSl ?_ ?_ | refine vc_wkHp ?_ ?_ | refine vc_eqAVs ?_ ?_ | refine vc_preG ?_ ?_ | refine vc_side0 ?_ | refine vc_call [] hcl ?_
                | refine vc_retK [] [] [7] ?_ | refine vc_weakf [] ?_ ?_ ?_ | refine vc_and ?_ ?_ | refine vc_ret [] [] ?_)
        | ((with_reducible first | refine vc_caseD (fun h => ?_) (fun h => ?_) | refine vc_caseN (fun h => ?_) (fun h => ?_)) <;> try (exfalso; omega))
        | ((with_reducible refine vc_case (fun h => ?_) (fun h => ?_)) <;> (try simp at h) <;> try (exfalso; omega))
        | (conv in Vc _ => arg 1; whnf
           first
            | (with_reducible refine vc_side0 ?_; rfl)
            | (with_reducible first
                | refine vc_true ?_ | refine vc_true2 ?_ | refine vc_side ?_ ?_ | refine vc_triv | refine vc_later ?_ | refine vc_caseT ?_ | refine vc_caseF ?_ | refine vc_cons ?_ | refine vc_nil ?_ ?_ | refine vc_seq ?_
                   | refine vc_region ?_ | refine vc_cond ?_ | refine vc_block ?_ | refine vc_retc ?_ | refine vc_exit ?_ | refine vc_skip ?_ | refine vc_scope ?_ | refine vc_label ?_ | refine vc_goto ?_ | refine vc_wkSl0
                   | refine vc_wkHp0 | refine vc_eqAVs0 | refine vc_preG0 | refine vc_wkSl ?_ ?_ | refine vc_wkHp ?_ ?_ | refine vc_eqAVs ?_ ?_ | refine vc_preG ?_ ?_ | refine vc_side0 ?_ | refine vc_call [] hcl ?_
                   | refine vc_retK [] [] [7] ?_ | refine vc_weakf [] ?_ ?_ ?_ | refine vc_and ?_ ?_ | refine vc_ret [] [] ?_)
            | ((with_reducible first | refine vc_caseD (fun h => ?_) (fun h => ?_) | refine vc_caseN (fun h => ?_) (fun h => ?_)) <;> try (exfalso; omega))
            | ((with_reducible refine vc_case (fun h => ?_) (fun h => ?_)) <;> (try simp at h) <;> try (exfalso; omega))))
    all_goals rfl

theorem sgn_not (B : List D) (bs : List UInt8) (hB : B = bs.map byteD) (hl : bs.length < 2 ^ 63) (h : rdSgn bs = none) :
    LocalCall Try.prog 58 [.d (.sl B), .fn (.func 83) [.ptr 8 [], .ptr 7 []]] [(8, .var (.fn (.func 63) [])), (7, .var (.d (.st [.st [.int .u64 0, digD zero32, digD zero32, digD zero32], .nils])))] [] (one [.d (.int .i64 3)]) [(7, .dead)] := by
  have hlen : B.length = bs.length := by rw [hB]; simp
  refine local_recovers mixed (sl2 := [(0, .d (.sl B)), (1, .fn (.func 83) [.ptr 8 [], .ptr 7 []]), (4, .ptr 1000 [])]) (hp2 := [(8, .var (.fn (.func 63) [])), (7, .var (.d (.st [.st [.int .u64 0, digD zero32, digD zero32, digD zero32], .nils]))), (1000, .var (.d (.int .i64 0)))]) (N := 1000) Try.func58 rfl rfl rfl rfl rfl rfl rfl rfl rfl rfl [] catch_idle catch_pan rfl (vc_chk rfl) rfl (by decide) (by decide) rfl ?_ ?_
  · skip
    repeat' (first
        | ((with_reducible refine vc_chk ?_); first | decide +kernel | rfl)
        | (with_reducible refine vc_side0 ?_; rfl)
        | (with_reducible first
             | refine vc_true ?_ | refine vc_true2 ?_ | refine vc_side ?_ ?_ | refine vc_triv | refine vc_later ?_ | refine vc_caseT ?_ | refine vc_caseF ?_ | refine vc_cons ?_ | refine vc_nil ?_ ?_ | refine vc_seq ?_
                | refine vc_region ?_ | refine vc_cond ?_ | refine vc_block ?_ | refine vc_retc ?_ | refine vc_exit ?_ | refine vc_skip ?_ | refine vc_scope ?_ | refine vc_label ?_ | refine vc_goto ?_ | refine vc_wkSl0
                | refine vc_wkHp0 | refine vc_eqAVs0 | refine vc_preG0 | refine vc_wkSl ?_ ?_ | refine vc_wkHp ?_ ?_ | refine vc_eqAVs ?_ ?_ | refine vc_preG ?_ ?_ | refine vc_side0 ?_ | refine vc_mid [] ?_ ?_ ?_ ?_
                | refine vc_weakf [] ?_ ?_ ?_ | refine vc_and ?_ ?_ | refine vc_ret [] [] ?_)
        | ((with_reducible first | refine vc_caseD (fun h => ?_) (fun h => ?_) | refine vc_caseN (fun h => ?_) (fun h => ?_)) <;> try (exfalso; omega))
        | ((with_reducible refine vc_case (fun h => ?_) (fun h => ?_)) <;> (try simp at h) <;> try (exfalso; omega))
        | (conv in Vc _ => arg 1; whnf
           first
            | (with_reducible refine vc_side0 ?_; rfl)
            | (with_reducible first
                | refine vc_true ?_ | refine vc_true2 ?_ | refine vc_side ?_ ?_ | refine vc_triv | refine vc_later ?_ | refine vc_caseT ?_ | refine vc_caseF ?_ | refine vc_cons ?_ | refine vc_nil ?_ ?_ | refine vc_seq ?_
                   | refine vc_region ?_ | refine vc_cond ?_ | refine vc_block ?_ | refine vc_retc ?_ | refine vc_exit ?_ | refine vc_skip ?_ | refine vc_scope ?_ | refine vc_label ?_ | refine vc_goto ?_ | refine vc_wkSl0
                   | refine vc_wkHp0 | refine vc_eqAVs0 | refine vc_preG0 | refine vc_wkSl ?_ ?_ | refine vc_wkHp ?_ ?_ | refine vc_eqAVs ?_ ?_ | refine vc_preG ?_ ?_ | refine vc_side0 ?_ | refine vc_mid [] ?_ ?_ ?_ ?_
                   | refine vc_weakf [] ?_ ?_ ?_ | refine vc_and ?_ ?_ | refine vc_ret [] [] ?_)
            | ((with_reducible first | refine vc_caseD (fun h => ?_) (fun h => ?_) | refine vc_caseN (fun h => ?_) (fun h => ?_)) <;> try (exfalso; omega))
            | ((with_reducible refine vc_case (fun h => ?_) (fun h => ?_)) <;> (try simp at h) <;> try (exfalso; omega))))
    all_goals rfl
  · have hcl := localPan_ren [(9, 3008)] [(3008, 9)] ((sgn_cl B bs hB hl).pan h) rfl
    repeat' (first
        | ((with_reducible refine vc_chk ?_); first | decide +kernel | rfl)
        | (with_reducible refine vc_side0 ?_; rfl)
        | (with_reducible first
             | refine vc_true ?_ | refine vc_true2 ?_ | refine vc_side ?_ ?_ | refine vc_triv | refine vc_later ?_ | refine vc_caseT ?_ | refine vc_caseF ?_ | refine vc_cons ?_ | refine vc_nil ?_ ?_ | refine vc_seq ?_
                | refine vc_region ?_ | refine vc_cond ?_ | refine vc_block ?_ | refine vc_retc ?_ | refine vc_exit ?_ | refine vc_skip ?_ | refine vc_scope ?_ | refine vc_label ?_ | refine vc_goto ?_ | refine vc_wkSl0
                | refine vc_wkHp0 | refine vc_eqAVs0 | refine vc_preG0 | refine vc_wkSl ?_ ?_ | refine vc_wkHp ?_ ?_ | refine vc_eqAVs ?_ ?_ | refine vc_preG ?_ ?_ | refine vc_side0 ?_ | refine vc_pan [] hcl ?_
                | refine vc_retK [] [] [7] ?_ | refine vc_weakf [] ?_ ?_ ?_ | refine vc_and ?_ ?_ | refine vc_ret [] [] ?_)
        | ((with_reducible first | refine vc_caseD (fun h => ?_) (fun h => ?_) | refine vc_caseN (fun h => ?_) (fun h => ?_)) <;> try (exfalso; omega))
        | ((with_reducible refine vc_case (fun h => ?_) (fun h => ?_)) <;> (try simp at h) <;> try (exfalso; omega))
        | (conv in Vc _ => arg 1; whnf
           first
            | (with_reducible refine vc_side0 ?_; rfl)
            | (with_reducible first
                | refine vc_true ?_ | refine vc_true2 ?_ | refine vc_side ?_ ?_ | refine vc_triv | refine vc_later ?_ | refine vc_caseT ?_ | refine vc_caseF ?_ | refine vc_cons ?_ | refine vc_nil ?_ ?_ | refine vc_seq ?_
                   | refine vc_region ?_ | refine vc_cond ?_ | refine vc_block ?_ | refine vc_retc ?_ | refine vc_exit ?_ | refine vc_skip ?_ | refine vc_scope ?_ | refine vc_label ?_ | refine vc_goto ?_ | refine vc_wkSl0
                   | refine vc_wkHp0 | refine vc_eqAVs0 | refine vc_preG0 | refine vc_wkSl ?_ ?_ | refine vc_wkHp ?_ ?_ | refine vc_eqAVs ?_ ?_ | refine vc_preG ?_ ?_ | refine vc_side0 ?_ | refine vc_pan [] hcl ?_
                   | refine vc_retK [] [] [7] ?_ | refine vc_weakf [] ?_ ?_ ?_ | refine vc_and ?_ ?_ | refine vc_ret [] [] ?_)
            | ((with_reducible first | refine vc_caseD (fun h => ?_) (fun h => ?_) | refine vc_caseN (fun h => ?_) (fun h => ?_)) <;> try (exfalso; omega))
            | ((with_reducible refine vc_case (fun h => ?_) (fun h => ?_)) <;> (try simp at h) <;> try (exfalso; omega))))
    all_goals rfl

theorem sgn_T (B : List D) (bs : List UInt8) (hB : B = bs.map byteD) (hl : bs.length < 2 ^ 63) (O : Option Sgn) (hO : toFin bs.length (rdSgn bs) = O) :
    LocalCall Try.prog 62 [.d (.sl B), .fn (.func 63) []] [] [] (one [.d (sD (O.getD s0)), .d (.int .i64 (errI O))]) [] := by
  subst hO
  rcases toFin_cases bs.length (rdSgn bs) with ⟨a, h, he, hq⟩ | ⟨hn, hq⟩
  · rw [hq]
    have hr := local_ren [(8, 1000), (7, 2000)] [(1000, 8), (2000, 7)] (sgn_yes B bs hB hl a h he) rfl
    refine vc_fn mixed Try.func62 rfl rfl [] (vc_chk rfl) ?_
    repeat' (first
        | ((with_reducible refine vc_chk ?_); first | decide +kernel | rfl)
        | (with_reducible refine vc_side0 ?_; rfl)
        | (with_reducible first
             | refine vc_true ?_ | refine vc_true2 ?_ | refine vc_side ?_ ?_ | refine vc_triv | refine vc_later ?_ | refine vc_caseT ?_ | refine vc_caseF ?_ | refine vc_cons ?_ | refine vc_nil ?_ ?_ | refine vc_seq ?_
                | refine vc_region ?_ | refine vc_cond ?_ | refine vc_block ?_ | refine vc_retc ?_ | refine vc_exit ?_ | refine vc_skip ?_ | refine vc_scope ?_ | refine vc_label ?_ | refine vc_goto ?_ | refine vc_wkSl0
                | refine vc_wkHp0 | refine vc_eqAVs0 | refine vc_preG0 | refine vc_wkSl ?_ ?_ | refine vc_wkHp ?_ ?_ | refine vc_eqAVs ?_ ?_ | refine vc_preG ?_ ?_ | refine vc_side0 ?_ | refine vc_call [] hr ?_
                | refine vc_weakf [] ?_ ?_ ?_ | refine vc_and ?_ ?_ | refine vc_ret [] [] ?_)
        | ((with_reducible first | refine vc_caseD (fun h => ?_) (fun h => ?_) | refine vc_caseN (fun h => ?_) (fun h => ?_)) <;> try (exfalso; omega))
        | ((with_reducible refine vc_case (fun h => ?_) (fun h => ?_)) <;> (try simp only [Go.Sym.vs1, reduceCtorEq] at h) <;> try (exfalso; first | omega | (simp at h; done)))
        | (conv in Vc _ => arg 1; whnf
           first
            | (with_reducible refine vc_side0 ?_; rfl)
            | (with_reducible first
                | refine vc_true ?_ | refine vc_true2 ?_ | refine vc_side ?_ ?_ | refine vc_triv | refine vc_later ?_ | refine vc_caseT ?_ | refine vc_caseF ?_ | refine vc_cons ?_ | refine vc_nil ?_ ?_ | refine vc_seq ?_
                   | refine vc_region ?_ | refine vc_cond ?_ | refine vc_block ?_ | refine vc_retc ?_ | refine vc_exit ?_ | refine vc_skip ?_ | refine vc_scope ?_ | refine vc_label ?_ | refine vc_goto ?_ | refine vc_wkSl0
                   | refine vc_wkHp0 | refine vc_eqAVs0 | refine vc_preG0 | refine vc_wkSl ?_ ?_ | refine vc_wkHp ?_ ?_ | refine vc_eqAVs ?_ ?_ | refine vc_preG ?_ ?_ | refine vc_side0 ?_ | refine vc_call [] hr ?_
                   | refine vc_weakf [] ?_ ?_ ?_ | refine vc_and ?_ ?_ | refine vc_ret [] [] ?_)
            | ((with_reducible first | refine vc_caseD (fun h => ?_) (fun h => ?_) | refine vc_caseN (fun h => ?_) (fun h => ?_)) <;> try (exfalso; omega))
            | ((with_reducible refine vc_case (fun h => ?_) (fun h => ?_)) <;> (try simp only [Go.Sym.vs1, reduceCtorEq] at h) <;> try (exfalso; first | omega | (simp at h; done)))))
    all_goals first | rfl | exact ⟨trivial, trivial, trivial⟩
  · rw [hq]
    have hr0 : LocalCall Try.prog 58 [.d (.sl B), .fn (.func 83) [.ptr 8 [], .ptr 7 []]] [(8, .var (.fn (.func 63) [])), (7, .var (.d (.st [.st [.int .u64 0, digD zero32, digD zero32, digD zero32], .nils])))] [] (one [.d (.int .i64 3)]) [(7, .dead)] := by
      rcases hn with h | ⟨a, h, he⟩
      · exact sgn_not B bs hB hl h
      · exact sgn_more B bs hB hl a h he
    have hr := local_ren [(8, 1000), (7, 2000)] [(1000, 8), (2000, 7)] hr0 rfl
    have key : LocalCall Try.prog 62 [.d (.sl B), .fn (.func 63) []] [] [] (one [.d (.st [.st [.int .u64 0, digD zero32, digD zero32, digD zero32], .nils]), .d (.int .i64 3)]) [] := by
      refine vc_fn mixed Try.func62 rfl rfl [] (vc_chk rfl) ?_
      repeat' (first
          | ((with_reducible refine vc_chk ?_); first | decide +kernel | rfl)
          | (with_reducible refine vc_side0 ?_; rfl)
          | (with_reducible first
               | refine vc_true ?_ | refine vc_true2 ?_ | refine vc_side ?_ ?_ | refine vc_triv | refine vc_later ?_ | refine vc_caseT ?_ | refine vc_caseF ?_ | refine vc_cons ?_ | refine vc_nil ?_ ?_ | refine vc_seq ?_
                  | refine vc_region ?_ | refine vc_cond ?_ | refine vc_block ?_ | refine vc_retc ?_ | refine vc_exit ?_ | refine vc_skip ?_ | refine vc_scope ?_ | refine vc_label ?_ | refine vc_goto ?_ | refine vc_wkSl0
                  | refine vc_wkHp0 | refine vc_eqAVs0 | refine vc_preG0 | refine vc_wkSl ?_ ?_ | refine vc_wkHp ?_ ?_ | refine vc_eqAVs ?_ ?_ | refine vc_preG ?_ ?_ | refine vc_side0 ?_ | refine vc_call [] hr ?_
                  | refine vc_weakf [] ?_ ?_ ?_ | refine vc_and ?_ ?_ | refine vc_ret [] [] ?_)
          | ((with_reducible first | refine vc_caseD (fun h => ?_) (fun h => ?_) | refine vc_caseN (fun h => ?_) (fun h => ?_)) <;> try (exfalso; omega))
          | ((with_reducible refine vc_case (fun h => ?_) (fun h => ?_)) <;> (try simp only [Go.Sym.vs1, reduceCtorEq] at h) <;> try (exfalso; first | omega | (simp at h; done)))
          | (conv in Vc _ => arg 1; whnf
             first
              | (with_reducible refine vc_side0 ?_; rfl)
              | (with_reducible first
                  | refine vc_true ?_ | refine vc_true2 ?_ | refine vc_side ?_ ?_ | refine vc_triv | refine vc_later ?_ | refine vc_caseT ?_ | refine vc_caseF ?_ | refine vc_cons ?_ | refine vc_nil ?_ ?_ | refine vc_seq ?_
                     | refine vc_region ?_ | refine vc_cond ?_ | refine vc_block ?_ | refine vc_retc ?_ | refine vc_exit ?_ | refine vc_skip ?_ | refine vc_scope ?_ | refine vc_label ?_ | refine vc_goto ?_ | refine vc_wkSl0
                     | refine vc_wkHp0 | refine vc_eqAVs0 | refine vc_preG0 | refine vc_wkSl ?_ ?_ | refine vc_wkHp ?_ ?_ | refine vc_eqAVs ?_ ?_ | refine vc_preG ?_ ?_ | refine vc_side0 ?_ | refine vc_call [] hr ?_
                     | refine vc_weakf [] ?_ ?_ ?_ | refine vc_and ?_ ?_ | refine vc_ret [] [] ?_)
              | ((with_reducible first | refine vc_caseD (fun h => ?_) (fun h => ?_) | refine vc_caseN (fun h => ?_) (fun h => ?_)) <;> try (exfalso; omega))
              | ((with_reducible refine vc_case (fun h => ?_) (fun h => ?_)) <;> (try simp only [Go.Sym.vs1, reduceCtorEq] at h) <;> try (exfalso; first | omega | (simp at h; done)))))
      all_goals first | rfl | exact ⟨trivial, trivial, trivial⟩
    exact local_dn key

theorem sgn_ok (B : List D) (bs : List UInt8) (hB : B = bs.map byteD) (hl : bs.length < 2 ^ 63) (O : Option Sgn) (hO : toFin bs.length (rdSgn bs) = O) :
    LocalCall Try.prog 35 [.d (.sl B)] [] [] (one [.d (sD (O.getD s0)), .d (.int .i64 (errI O))]) [] := by
  refine vc_fn mixed Try.func35 rfl rfl [] (vc_chk rfl) ?_
  repeat' (first
      | ((with_reducible refine vc_chk ?_); first | decide +kernel | rfl)
      | (with_reducible refine vc_side0 ?_; rfl)
      | (with_reducible first
           | refine vc_true ?_ | refine vc_true2 ?_ | refine vc_side ?_ ?_ | refine vc_triv | refine vc_later ?_ | refine vc_caseT ?_ | refine vc_caseF ?_ | refine vc_cons ?_ | refine vc_nil ?_ ?_ | refine vc_seq ?_
              | refine vc_region ?_ | refine vc_cond ?_ | refine vc_block ?_ | refine vc_retc ?_ | refine vc_exit ?_ | refine vc_skip ?_ | refine vc_scope ?_ | refine vc_label ?_ | refine vc_goto ?_ | refine vc_wkSl0
              | refine vc_wkHp0 | refine vc_eqAVs0 | refine vc_preG0 | refine vc_wkSl ?_ ?_ | refine vc_wkHp ?_ ?_ | refine vc_eqAVs ?_ ?_ | refine vc_preG ?_ ?_ | refine vc_side0 ?_ | refine vc_call [] (sgn_T B bs hB hl O hO) ?_
              | refine vc_weakf [] ?_ ?_ ?_ | refine vc_and ?_ ?_ | refine vc_ret [] [] ?_)
      | ((with_reducible first | refine vc_caseD (fun h => ?_) (fun h => ?_) | refine vc_caseN (fun h => ?_) (fun h => ?_)) <;> try (exfalso; omega))
      | ((with_reducible refine vc_case (fun h => ?_) (fun h => ?_)) <;> (try simp only [Go.Sym.vs1, reduceCtorEq] at h) <;> try (exfalso; first | omega | (simp at h; done)))
      | (conv in Vc _ => arg 1; whnf
         first
          | (with_reducible refine vc_side0 ?_; rfl)
          | (with_reducible first
              | refine vc_true ?_ | refine vc_true2 ?_ | refine vc_side ?_ ?_ | refine vc_triv | refine vc_later ?_ | refine vc_caseT ?_ | refine vc_caseF ?_ | refine vc_cons ?_ | refine vc_nil ?_ ?_ | refine vc_seq ?_
                 | refine vc_region ?_ | refine vc_cond ?_ | refine vc_block ?_ | refine vc_retc ?_ | refine vc_exit ?_ | refine vc_skip ?_ | refine vc_scope ?_ | refine vc_label ?_ | refine vc_goto ?_ | refine vc_wkSl0
                 | refine vc_wkHp0 | refine vc_eqAVs0 | refine vc_preG0 | refine vc_wkSl ?_ ?_ | refine vc_wkHp ?_ ?_ | refine vc_eqAVs ?_ ?_ | refine vc_preG ?_ ?_ | refine vc_side0 ?_
                 | refine vc_call [] (sgn_T B bs hB hl O hO) ?_ | refine vc_weakf [] ?_ ?_ ?_ | refine vc_and ?_ ?_ | refine vc_ret [] [] ?_)
          | ((with_reducible first | refine vc_caseD (fun h => ?_) (fun h => ?_) | refine vc_caseN (fun h => ?_) (fun h => ?_)) <;> try (exfalso; omega))
          | ((with_reducible refine vc_case (fun h => ?_) (fun h => ?_)) <;> (try simp only [Go.Sym.vs1, reduceCtorEq] at h) <;> try (exfalso; first | omega | (simp at h; done)))))
  all_goals first | rfl | exact ⟨trivial, trivial, trivial⟩

end Go.Proofs.Ytcdjheiccefcdaa

/-
What the references of the record layer read: bindings, requests, signed roots.
-/
set_option linter.unusedSimpArgs false
set_option linter.unusedVariables false
namespace Go.Proofs.Ytcdjheiccefcdaa
open Go.Sym
set_option maxRecDepth 10000
set_option maxHeartbeats 4000000

def optR {α : Type} (r : α × Nat × Bool) : Option (α × Nat) := bif r.2.2 then none else some (r.1, r.2.1)

def inGs (bs : List UInt8) (b : Bool) (k : Nat) : List UInt8 × Nat × Bool := bif b then (zero32, k, true) else (padB (inK bs 32 k).1 (inK bs 32 k).1.length, (inK bs 32 k).2)

end Go.Proofs.Ytcdjheiccefcdaa

/-
What the references of the record layer read: requests, signed roots.
-/
set_option linter.unusedSimpArgs false
set_option linter.unusedVariables false
namespace Go.Proofs.Ytcdjheiccefcdaa
open Go.Sym
set_option maxRecDepth 10000
set_option maxHeartbeats 8000000

end Go.Proofs.Ytcdjheiccefcdaa

/-
Evidence read, by the program and by the document; bytes taken.
-/
set_option linter.unusedSimpArgs false
set_option linter.unusedVariables false
namespace Go.Proofs.Ytcdjheiccefcdaa
open Go.Sym
set_option maxRecDepth 10000
set_option maxHeartbeats 4000000

theorem frdT_len {bs : List UInt8} {ts : List (List UInt8)} (h : rdTexts bs = some ts) {i : Nat} (hi : i < ts.length) : (ts.getD i []).length < 2 ^ 63 :=
  Nat.lt_of_le_of_lt ((rdTexts_iff.1 h).2.2 _ (by rw [List.getD_eq_getElem?_getD, List.getElem?_eq_getElem hi]; simp)) (by decide)
theorem ftext_at {ts : List (List UInt8)} {i : Nat} (hi : i < ts.length) : (ts.map tD).getD i .nilp = tD (ts.getD i []) := (map_at (f := tD) (d := []) hi).1
theorem rd_cases {bs : List UInt8} : (rdTexts bs = none ∧ rdE bs = none) ∨ (∃ ts, rdTexts bs = some ts ∧ ¬ (2 ≤ ts.length ∧ ts.length ≤ 65) ∧ rdE bs = none) ∨ ∃ ts, rdTexts bs = some ts ∧ (2 ≤ ts.length ∧ ts.length ≤ 65) ∧ rdE bs = (rdSs ts).map mkE := by
  unfold rdE
  cases h : rdTexts bs with
  | none => exact .inl ⟨rfl, rfl⟩
  | some ts =>
    refine .inr ?_
    by_cases hn : 2 ≤ ts.length ∧ ts.length ≤ 65
    · exact .inr ⟨ts, rfl, hn, by rw [Option.bind_some, decide_eq_true hn]; rfl⟩
    · exact .inl ⟨ts, rfl, hn, by rw [Option.bind_some, decide_eq_false hn]; rfl⟩
theorem errI_ne {α : Type} {o : Option α} (h : ¬ errI o = 0) : o = none := by
  cases o with
  | none => rfl
  | some x => exact absurd (errI_some x) h
theorem errI_eq {α : Type} {o : Option α} (h : errI o = 0) : o.isSome = true := by
  cases o with
  | none => rw [errI_none] at h; cases h
  | some x => rfl

abbrev sgZ : D := .st [.st [.int .u64 0, digD zero32, digD zero32, digD zero32], .nils]
abbrev evZ : D := .st [.nils, sgZ, sgZ]

theorem got_all {ts : List (List UInt8)} {l : List Sgn} {i : Nat} (hs : rdSs ts = some l) (h : ∀ j, j < i → (rdS (ts.getD j [])).isSome = true) (h1 : ts.length ≤ i) (h2 : i ≤ ts.length) : gotL ts i = l := by
  obtain rfl : i = ts.length := by omega
  exact Option.some.inj ((rdSs_all h).symm.trans hs)
theorem got_none {ts : List (List UInt8)} {i : Nat} (hs : rdSs ts = none) (h : ∀ j, j < i → (rdS (ts.getD j [])).isSome = true) (h1 : ts.length ≤ i) (h2 : i ≤ ts.length) : False := by
  obtain rfl : i = ts.length := by omega
  have := (rdSs_all h).symm.trans hs
  cases this
theorem some_more {ts : List (List UInt8)} {i : Nat} (h : ∀ j, j < i → (rdS (ts.getD j [])).isSome = true) (hp : (rdS (ts.getD i [])).isSome = true) : ∀ j, j < i + 1 → (rdS (ts.getD j [])).isSome = true := fun j hj => by
  by_cases e : j = i
  · subst e; exact hp
  · exact h j (by omega)
theorem got_app {ts : List (List UInt8)} {i : Nat} (h : i < ts.length) : (gotL ts i).map sD ++ [sD ((rdS (ts.getD i [])).getD s0)] = (gotL ts (i + 1)).map sD := by
  rw [gotL_succ h, List.map_append]; rfl

/-- Texts of the right number of which each is a signed root, or not. -/
theorem eread_in (bs : List UInt8) (hl : bs.length < 2 ^ 63) (ts : List (List UInt8)) (ht : rdTexts bs = some ts) (hn : 2 ≤ ts.length ∧ ts.length ≤ 65) (l : List Sgn) (hs : rdSs ts = some l) :
    LocalCall Try.prog 14 [.d (.sl (bs.map byteD))] [] [] (one [.d (eD (mkE l)), .d (.int .i64 0)]) [] := by
  have lt : (ts.map tD).length = ts.length := List.length_map _
  have c1 := rTexts_any bs hl
  rw [ht] at c1
  replace c1 : LocalCall Try.prog 34 [.d (.sl (bs.map byteD))] [] [] (one [.d (.sl (ts.map tD)), .d (.int .i64 0)]) [] := c1
  have c2 : ∀ i, i < ts.length → _ := fun i hi => sgn_ok ((ts.getD i []).map byteD) (ts.getD i []) rfl (frdT_len ht hi) (rdS (ts.getD i [])) rfl
  have ln : l.length = ts.length := by rw [(rdSs_some hs).1, List.length_map]
  have tk : List.take l.length (l.map sD) = l.map sD := List.take_of_length_le (by rw [List.length_map]; exact Nat.le_refl _)
  have w1 : IntKind.i64.wrap ((l.length : Int) - 2) = ((l.length - 2 : Nat) : Int) := by rw [wrap64_id (by omega) (by omega)]; omega
  have w2 : IntKind.i64.wrap (((l.length - 2 : Nat) : Int) + 1) = ((l.length - 1 : Nat) : Int) := by rw [wrap64_id (by omega) (by omega)]; omega
  have bad : ∀ i, i < ts.length → ¬ errI (rdS (ts.getD i [])) = 0 → False := fun i hi h => by
    have := rdSs_bad hi (errI_ne h)
    rw [hs] at this; cases this
  refine vc_fn mixed Try.func14 rfl rfl [(500004, [9098006]), (13, [6])] (vc_chk rfl) ?_
  repeat' (first
      | ((with_reducible refine vc_chk ?_); first | decide +kernel | rfl)
      | (with_reducible refine vc_side0 ?_; rfl)
      | (with_reducible first
           | refine vc_true ?_ | refine vc_true2 ?_ | refine vc_side ?_ ?_ | refine vc_triv | refine vc_later ?_ | refine vc_caseT ?_ | refine vc_caseF ?_ | refine vc_cons ?_ | refine vc_nil ?_ ?_ | refine vc_seq ?_
              | refine vc_region ?_ | refine vc_cond ?_ | refine vc_block ?_ | refine vc_retc ?_ | refine vc_exit ?_ | refine vc_skip ?_ | refine vc_scope ?_ | refine vc_label ?_ | refine vc_goto ?_ | refine vc_wkSl0
              | refine vc_wkHp0 | refine vc_eqAVs0 | refine vc_preG0 | refine vc_wkSl ?_ ?_ | refine vc_wkHp ?_ ?_ | refine vc_eqAVs ?_ ?_ | refine vc_preG ?_ ?_ | refine vc_side0 ?_ | refine vc_pure c1 ?_ ?_ ?_
              | refine vc_call [] (c2 i (by omega)) ?_
              | refine vc_loopI 67 (fun (i : Nat) => [(2, .ptr 1000 []), (6, .sl 9 [] 98 0 (gotL ts i).length), (30, .d (.sl (ts.map tD))), (31, .d (.int .i64 ((ts.map tD).length : Nat))), (32, .d (.int .i64 (i : Int)))]) (fun i => [(1000, .var (.d evZ)), (9, .row 98 ((gotL ts i).map sD))]) (fun i => ts.length - i) (fun i => i ≤ ts.length ∧ ∀ j, j < i → (rdS (ts.getD j [])).isSome = true) 0 [] ?_ ?_ ?_ ?_ ?_ (fun i hI => ?_)
              | refine vc_nextI (i + 1) [(9, 12012)] ?_ ?_ ?_ ?_ ?_ ?_ | refine vc_weakf [] ?_ ?_ ?_ | refine vc_and ?_ ?_ | refine vc_ret [] [] ?_)
      | ((with_reducible first | refine vc_caseD (fun h => ?_) (fun h => ?_) | refine vc_caseN (fun h => ?_) (fun h => ?_)) <;> try (exfalso; omega))
      | ((with_reducible refine vc_case (fun h => ?_) (fun h => ?_)) <;> (try simp only [Go.Sym.vs1, reduceCtorEq] at h) <;> try (exfalso; first | omega | (simp at h; done)))
      | (conv in Vc _ => arg 1; whnf
         first
          | (with_reducible refine vc_side0 ?_; rfl)
          | (with_reducible first
              | refine vc_true ?_ | refine vc_true2 ?_ | refine vc_side ?_ ?_ | refine vc_triv | refine vc_later ?_ | refine vc_caseT ?_ | refine vc_caseF ?_ | refine vc_cons ?_ | refine vc_nil ?_ ?_ | refine vc_seq ?_
                 | refine vc_region ?_ | refine vc_cond ?_ | refine vc_block ?_ | refine vc_retc ?_ | refine vc_exit ?_ | refine vc_skip ?_ | refine vc_scope ?_ | refine vc_label ?_ | refine vc_goto ?_ | refine vc_wkSl0
                 | refine vc_wkHp0 | refine vc_eqAVs0 | refine vc_preG0 | refine vc_wkSl ?_ ?_ | refine vc_wkHp ?_ ?_ | refine vc_eqAVs ?_ ?_ | refine vc_preG ?_ ?_ | refine vc_side0 ?_ | refine vc_pure c1 ?_ ?_ ?_
                 | refine vc_call [] (c2 i (by omega)) ?_
                 | refine vc_loopI 67 (fun (i : Nat) => [(2, .ptr 1000 []), (6, .sl 9 [] 98 0 (gotL ts i).length), (30, .d (.sl (ts.map tD))), (31, .d (.int .i64 ((ts.map tD).length : Nat))), (32, .d (.int .i64 (i : Int)))]) (fun i => [(1000, .var (.d evZ)), (9, .row 98 ((gotL ts i).map sD))]) (fun i => ts.length - i) (fun i => i ≤ ts.length ∧ ∀ j, j < i → (rdS (ts.getD j [])).isSome = true) 0 [] ?_ ?_ ?_ ?_ ?_ (fun i hI => ?_)
                 | refine vc_nextI (i + 1) [(9, 12012)] ?_ ?_ ?_ ?_ ?_ ?_ | refine vc_weakf [] ?_ ?_ ?_ | refine vc_and ?_ ?_ | refine vc_ret [] [] ?_)
          | ((with_reducible first | refine vc_caseD (fun h => ?_) (fun h => ?_) | refine vc_caseN (fun h => ?_) (fun h => ?_)) <;> try (exfalso; omega))
          | ((with_reducible refine vc_case (fun h => ?_) (fun h => ?_)) <;> (try simp only [Go.Sym.vs1, reduceCtorEq] at h) <;> try (exfalso; first | omega | (simp at h; done)))))
  all_goals (try (exfalso; exact bad i (by omega) h))
  all_goals (try simp only [Nat.zero_add, Int.toNat_natCast, List.nil_append, List.drop_zero, List.take_length, Nat.sub_zero])
  all_goals (try have gl : gotL ts i = l := got_all hs hI.2 (by omega) hI.1)
  all_goals (try simp only [gl, tk, List.length_map, w1])
  all_goals (try simp only [w2, Int.toNat_natCast])
  all_goals first
    | with_reducible rfl
    | omega
    | exact ⟨trivial, trivial, trivial⟩
    | exact ⟨trivial, trivial, trivial, trivial⟩
    | exact ⟨⟨by omega, by omega, by omega, by omega⟩, sgn_size l⟩
    | exact ⟨⟨by omega, by omega⟩, by rw [sgn_at (by omega)]; rfl⟩
    | (simp only [cutS, sgn_at (show l.length - 2 < l.length by omega), sgn_at (show l.length - 1 < l.length by omega)]; rfl)
    | exact ⟨Nat.zero_le _, fun j hj => absurd hj (Nat.not_lt_zero j)⟩
    | exact ⟨⟨by omega, by omega⟩, by rw [ftext_at (by omega)]; rfl⟩
    | (rw [ftext_at (by omega)]; rfl)
    | exact ⟨by omega, some_more hI.2 (errI_eq h)⟩
    | exact ⟨⟨Nat.le_refl _, by first | trivial | rw [List.length_map], room128 (by rw [List.length_append, List.length_map, gotL_length (by omega)]; show _ + 1 ≤ _; omega)⟩, fun y hy => (by rw [List.mem_singleton.1 hy]; rfl)⟩
    | exact got_app (by omega)
    | (rw [List.length_append, List.length_map, gotL_length (by omega), gotL_length (by omega)]; rfl)
    | (rw [wrap64_id (by omega) (by omega)]; rfl)
    | (rw [List.length_map]; done)
    | rfl
    | trace_state

theorem eread_some (bs : List UInt8) (hl : bs.length < 2 ^ 63) (e : Evd) (h : rdE bs = some e) : LocalCall Try.prog 14 [.d (.sl (bs.map byteD))] [] [] (one [.d (eD e), .d (.int .i64 0)]) [] := by
  rcases rd_cases (bs := bs) with ⟨_, he⟩ | ⟨ts, _, _, he⟩ | ⟨ts, ht, hn, he⟩
  · rw [he] at h; cases h
  · rw [he] at h; cases h
  · rw [he] at h
    cases hs : rdSs ts with
    | none => rw [hs] at h; cases h
    | some l => rw [hs] at h; cases h; exact eread_in bs hl ts ht hn l hs
theorem evB_len {e : Evd} (h : fitL (evL e)) (hl : e.trunk.length ≤ 1000) : (evB e).length < 2 ^ 63 := by
  have h1 : ∀ v, v ∈ (evL e).map sgnB → v.length ≤ 2 ^ 22 := fun v hv => by
    obtain ⟨s, hs, rfl⟩ := List.mem_map.1 hv
    exact fit_len (h s hs)
  have h2 := flat_le h1
  have lv : (evL e).length = e.trunk.length + 2 := by simp [evL]
  have h3 := encT_len (fun v hv => Nat.lt_of_le_of_lt (h1 v hv) (by decide)) (show ((evL e).map sgnB).length < 2 ^ 64 by rw [List.length_map]; omega)
  rw [List.length_map] at h2 h3
  unfold evB
  omega

theorem eread_out (bs : List UInt8) (hl : bs.length < 2 ^ 63) (h : rdE bs = none) :
    LocalCall Try.prog 14 [.d (.sl (bs.map byteD))] [] [] (one [.d (eD e0), .d (.int .i64 3)]) [] := by
  have c1 := rTexts_any bs hl
  have key : LocalCall Try.prog 14 [.d (.sl (bs.map byteD))] [] [] (one [.d evZ, .d (.int .i64 3)]) [] := by
    rcases rd_cases (bs := bs) with ⟨ht, _⟩ | ⟨ts, ht, hn, _⟩ | ⟨ts, ht, hn, he⟩
    · rw [ht] at c1
      replace c1 : LocalCall Try.prog 34 [.d (.sl (bs.map byteD))] [] [] (one [.d (.sl []), .d (.int .i64 3)]) [] := c1
      refine vc_fn mixed Try.func14 rfl rfl [] (vc_chk rfl) ?_
      repeat' (first
          | ((with_reducible refine vc_chk ?_); first | decide +kernel | rfl)
          | (with_reducible refine vc_side0 ?_; rfl)
          | (with_reducible first
               | refine vc_true ?_ | refine vc_true2 ?_ | refine vc_side ?_ ?_ | refine vc_triv | refine vc_later ?_ | refine vc_caseT ?_ | refine vc_caseF ?_ | refine vc_cons ?_ | refine vc_nil ?_ ?_ | refine vc_seq ?_
                  | refine vc_region ?_ | refine vc_cond ?_ | refine vc_block ?_ | refine vc_retc ?_ | refine vc_exit ?_ | refine vc_skip ?_ | refine vc_scope ?_ | refine vc_label ?_ | refine vc_goto ?_ | refine vc_wkSl0
                  | refine vc_wkHp0 | refine vc_eqAVs0 | refine vc_preG0 | refine vc_wkSl ?_ ?_ | refine vc_wkHp ?_ ?_ | refine vc_eqAVs ?_ ?_ | refine vc_preG ?_ ?_ | refine vc_side0 ?_ | refine vc_pure c1 ?_ ?_ ?_
                  | refine vc_weakf [] ?_ ?_ ?_ | refine vc_and ?_ ?_ | refine vc_ret [] [] ?_)
          | ((with_reducible first | refine vc_caseD (fun h => ?_) (fun h => ?_) | refine vc_caseN (fun h => ?_) (fun h => ?_)) <;> try (exfalso; omega))
          | ((with_reducible refine vc_case (fun h => ?_) (fun h => ?_)) <;> (try simp only [Go.Sym.vs1, reduceCtorEq] at h) <;> try (exfalso; first | omega | (simp at h; done)))
          | (conv in Vc _ => arg 1; whnf
             first
              | (with_reducible refine vc_side0 ?_; rfl)
              | (with_reducible first
                  | refine vc_true ?_ | refine vc_true2 ?_ | refine vc_side ?_ ?_ | refine vc_triv | refine vc_later ?_ | refine vc_caseT ?_ | refine vc_caseF ?_ | refine vc_cons ?_ | refine vc_nil ?_ ?_ | refine vc_seq ?_
                     | refine vc_region ?_ | refine vc_cond ?_ | refine vc_block ?_ | refine vc_retc ?_ | refine vc_exit ?_ | refine vc_skip ?_ | refine vc_scope ?_ | refine vc_label ?_ | refine vc_goto ?_ | refine vc_wkSl0
                     | refine vc_wkHp0 | refine vc_eqAVs0 | refine vc_preG0 | refine vc_wkSl ?_ ?_ | refine vc_wkHp ?_ ?_ | refine vc_eqAVs ?_ ?_ | refine vc_preG ?_ ?_ | refine vc_side0 ?_ | refine vc_pure c1 ?_ ?_ ?_
                     | refine vc_weakf [] ?_ ?_ ?_ | refine vc_and ?_ ?_ | refine vc_ret [] [] ?_)
              | ((with_reducible first | refine vc_caseD (fun h => ?_) (fun h => ?_) | refine vc_caseN (fun h => ?_) (fun h => ?_)) <;> try (exfalso; omega))
              | ((with_reducible refine vc_case (fun h => ?_) (fun h => ?_)) <;> (try simp only [Go.Sym.vs1, reduceCtorEq] at h) <;> try (exfalso; first | omega | (simp at h; done)))))
      all_goals first
        | with_reducible rfl
        | exact ⟨trivial, trivial, trivial⟩
        | (exfalso; exact absurd rfl h)
        | rfl
        | trace_state
    · rw [ht] at c1
      replace c1 : LocalCall Try.prog 34 [.d (.sl (bs.map byteD))] [] [] (one [.d (.sl (ts.map tD)), .d (.int .i64 0)]) [] := c1
      have lt : (ts.map tD).length = ts.length := List.length_map _
      refine vc_fn mixed Try.func14 rfl rfl [] (vc_chk rfl) ?_
      repeat' (first
          | ((with_reducible refine vc_chk ?_); first | decide +kernel | rfl)
          | (with_reducible refine vc_side0 ?_; rfl)
          | (with_reducible first
               | refine vc_true ?_ | refine vc_true2 ?_ | refine vc_side ?_ ?_ | refine vc_triv | refine vc_later ?_ | refine vc_caseT ?_ | refine vc_caseF ?_ | refine vc_cons ?_ | refine vc_nil ?_ ?_ | refine vc_seq ?_
                  | refine vc_region ?_ | refine vc_cond ?_ | refine vc_block ?_ | refine vc_retc ?_ | refine vc_exit ?_ | refine vc_skip ?_ | refine vc_scope ?_ | refine vc_label ?_ | refine vc_goto ?_ | refine vc_wkSl0
                  | refine vc_wkHp0 | refine vc_eqAVs0 | refine vc_preG0 | refine vc_wkSl ?_ ?_ | refine vc_wkHp ?_ ?_ | refine vc_eqAVs ?_ ?_ | refine vc_preG ?_ ?_ | refine vc_side0 ?_ | refine vc_pure c1 ?_ ?_ ?_
                  | refine vc_weakf [] ?_ ?_ ?_ | refine vc_and ?_ ?_ | refine vc_ret [] [] ?_)
          | ((with_reducible first | refine vc_caseD (fun h => ?_) (fun h => ?_) | refine vc_caseN (fun h => ?_) (fun h => ?_)) <;> try (exfalso; omega))
          | ((with_reducible refine vc_case (fun h => ?_) (fun h => ?_)) <;> (try simp only [Go.Sym.vs1, reduceCtorEq] at h) <;> try (exfalso; first | omega | (simp at h; done)))
          | (conv in Vc _ => arg 1; whnf
             first
              | (with_reducible refine vc_side0 ?_; rfl)
              | (with_reducible first
                  | refine vc_true ?_ | refine vc_true2 ?_ | refine vc_side ?_ ?_ | refine vc_triv | refine vc_later ?_ | refine vc_caseT ?_ | refine vc_caseF ?_ | refine vc_cons ?_ | refine vc_nil ?_ ?_ | refine vc_seq ?_
                     | refine vc_region ?_ | refine vc_cond ?_ | refine vc_block ?_ | refine vc_retc ?_ | refine vc_exit ?_ | refine vc_skip ?_ | refine vc_scope ?_ | refine vc_label ?_ | refine vc_goto ?_ | refine vc_wkSl0
                     | refine vc_wkHp0 | refine vc_eqAVs0 | refine vc_preG0 | refine vc_wkSl ?_ ?_ | refine vc_wkHp ?_ ?_ | refine vc_eqAVs ?_ ?_ | refine vc_preG ?_ ?_ | refine vc_side0 ?_ | refine vc_pure c1 ?_ ?_ ?_
                     | refine vc_weakf [] ?_ ?_ ?_ | refine vc_and ?_ ?_ | refine vc_ret [] [] ?_)
              | ((with_reducible first | refine vc_caseD (fun h => ?_) (fun h => ?_) | refine vc_caseN (fun h => ?_) (fun h => ?_)) <;> try (exfalso; omega))
              | ((with_reducible refine vc_case (fun h => ?_) (fun h => ?_)) <;> (try simp only [Go.Sym.vs1, reduceCtorEq] at h) <;> try (exfalso; first | omega | (simp at h; done)))))
      all_goals first
        | with_reducible rfl
        | exact ⟨trivial, trivial, trivial⟩
        | (exfalso; omega)
        | rfl
        | trace_state
    · have lt : (ts.map tD).length = ts.length := List.length_map _
      rw [ht] at c1
      replace c1 : LocalCall Try.prog 34 [.d (.sl (bs.map byteD))] [] [] (one [.d (.sl (ts.map tD)), .d (.int .i64 0)]) [] := c1
      have c2 : ∀ i, i < ts.length → _ := fun i hi => sgn_ok ((ts.getD i []).map byteD) (ts.getD i []) rfl (frdT_len ht hi) (rdS (ts.getD i [])) rfl
      have hs : rdSs ts = none := by
        rw [he] at h
        cases hr : rdSs ts with
        | none => rfl
        | some l => rw [hr] at h; cases h
      refine vc_fn mixed Try.func14 rfl rfl [(500004, [9098006]), (13, [6])] (vc_chk rfl) ?_
      repeat' (first
          | ((with_reducible refine vc_chk ?_); first | decide +kernel | rfl)
          | (with_reducible refine vc_side0 ?_; rfl)
          | (with_reducible first
               | refine vc_true ?_ | refine vc_true2 ?_ | refine vc_side ?_ ?_ | refine vc_triv | refine vc_later ?_ | refine vc_caseT ?_ | refine vc_caseF ?_ | refine vc_cons ?_ | refine vc_nil ?_ ?_ | refine vc_seq ?_
                  | refine vc_region ?_ | refine vc_cond ?_ | refine vc_block ?_ | refine vc_retc ?_ | refine vc_exit ?_ | refine vc_skip ?_ | refine vc_scope ?_ | refine vc_label ?_ | refine vc_goto ?_ | refine vc_wkSl0
                  | refine vc_wkHp0 | refine vc_eqAVs0 | refine vc_preG0 | refine vc_wkSl ?_ ?_ | refine vc_wkHp ?_ ?_ | refine vc_eqAVs ?_ ?_ | refine vc_preG ?_ ?_ | refine vc_side0 ?_ | refine vc_pure c1 ?_ ?_ ?_
                  | refine vc_call [] (c2 i (by omega)) ?_
                  | refine vc_loopI 67 (fun (i : Nat) => [(2, .ptr 1000 []), (6, .sl 9 [] 98 0 (gotL ts i).length), (30, .d (.sl (ts.map tD))), (31, .d (.int .i64 ((ts.map tD).length : Nat))), (32, .d (.int .i64 (i : Int)))]) (fun i => [(1000, .var (.d evZ)), (9, .row 98 ((gotL ts i).map sD))]) (fun i => ts.length - i) (fun i => i ≤ ts.length ∧ ∀ j, j < i → (rdS (ts.getD j [])).isSome = true) 0 [] ?_ ?_ ?_ ?_ ?_ (fun i hI => ?_)
                  | refine vc_nextI (i + 1) [(9, 12012)] ?_ ?_ ?_ ?_ ?_ ?_ | refine vc_weakf [] ?_ ?_ ?_ | refine vc_and ?_ ?_ | refine vc_ret [] [] ?_)
          | ((with_reducible first | refine vc_caseD (fun h => ?_) (fun h => ?_) | refine vc_caseN (fun h => ?_) (fun h => ?_)) <;> try (exfalso; omega))
          | ((with_reducible refine vc_case (fun h => ?_) (fun h => ?_)) <;> (try simp only [Go.Sym.vs1, reduceCtorEq] at h) <;> try (exfalso; first | omega | (simp at h; done)))
          | (conv in Vc _ => arg 1; whnf
             first
              | (with_reducible refine vc_side0 ?_; rfl)
              | (with_reducible first
                  | refine vc_true ?_ | refine vc_true2 ?_ | refine vc_side ?_ ?_ | refine vc_triv | refine vc_later ?_ | refine vc_caseT ?_ | refine vc_caseF ?_ | refine vc_cons ?_ | refine vc_nil ?_ ?_ | refine vc_seq ?_
                     | refine vc_region ?_ | refine vc_cond ?_ | refine vc_block ?_ | refine vc_retc ?_ | refine vc_exit ?_ | refine vc_skip ?_ | refine vc_scope ?_ | refine vc_label ?_ | refine vc_goto ?_ | refine vc_wkSl0
                     | refine vc_wkHp0 | refine vc_eqAVs0 | refine vc_preG0 | refine vc_wkSl ?_ ?_ | refine vc_wkHp ?_ ?_ | refine vc_eqAVs ?_ ?_ | refine vc_preG ?_ ?_ | refine vc_side0 ?_ | refine vc_pure c1 ?_ ?_ ?_
                     | refine vc_call [] (c2 i (by omega)) ?_
                     | refine vc_loopI 67 (fun (i : Nat) => [(2, .ptr 1000 []), (6, .sl 9 [] 98 0 (gotL ts i).length), (30, .d (.sl (ts.map tD))), (31, .d (.int .i64 ((ts.map tD).length : Nat))), (32, .d (.int .i64 (i : Int)))]) (fun i => [(1000, .var (.d evZ)), (9, .row 98 ((gotL ts i).map sD))]) (fun i => ts.length - i) (fun i => i ≤ ts.length ∧ ∀ j, j < i → (rdS (ts.getD j [])).isSome = true) 0 [] ?_ ?_ ?_ ?_ ?_ (fun i hI => ?_)
                     | refine vc_nextI (i + 1) [(9, 12012)] ?_ ?_ ?_ ?_ ?_ ?_ | refine vc_weakf [] ?_ ?_ ?_ | refine vc_and ?_ ?_ | refine vc_ret [] [] ?_)
              | ((with_reducible first | refine vc_caseD (fun h => ?_) (fun h => ?_) | refine vc_caseN (fun h => ?_) (fun h => ?_)) <;> try (exfalso; omega))
              | ((with_reducible refine vc_case (fun h => ?_) (fun h => ?_)) <;> (try simp only [Go.Sym.vs1, reduceCtorEq] at h) <;> try (exfalso; first | omega | (simp at h; done)))))
      all_goals (try (exfalso; exact got_none hs hI.2 (by omega) hI.1))
      all_goals (try simp only [Nat.zero_add, Int.toNat_natCast, List.nil_append, List.drop_zero, List.take_length, Nat.sub_zero])
      all_goals first
        | with_reducible rfl
        | omega
        | exact ⟨trivial, trivial, trivial⟩
        | exact ⟨Nat.zero_le _, fun j hj => absurd hj (Nat.not_lt_zero j)⟩
        | exact ⟨⟨by omega, by omega⟩, by rw [ftext_at (by omega)]; rfl⟩
        | (rw [ftext_at (by omega)]; rfl)
        | exact ⟨by omega, some_more hI.2 (errI_eq h)⟩
        | exact ⟨⟨Nat.le_refl _, by first | trivial | rw [List.length_map], room128 (by rw [List.length_append, List.length_map, gotL_length (by omega)]; show _ + 1 ≤ _; omega)⟩, fun y hy => (by rw [List.mem_singleton.1 hy]; rfl)⟩
        | exact got_app (by omega)
        | (rw [List.length_append, List.length_map, gotL_length (by omega), gotL_length (by omega)]; rfl)
        | (rw [wrap64_id (by omega) (by omega)]; rfl)
        | (rw [errI_ne h]; rfl)
        | (rw [List.length_map]; done)
        | rfl
        | trace_state
  exact local_dn key

end Go.Proofs.Ytcdjheiccefcdaa
