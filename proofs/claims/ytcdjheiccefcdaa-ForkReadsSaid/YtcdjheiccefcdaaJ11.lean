import Derived.Test.YtcdjheiccefcdaaJ5
import Derived.Test.YtcdjheiccefcdaaJ7
import Derived.Test.YtcdjheiccefcdaaJ9
import Derived.Test.YtcdjheiccefcdaaJ10
set_option linter.unusedSimpArgs false
set_option linter.unusedVariables false
/-
Numbers and texts, read: whatever the bytes are. The references' numbers and texts, written.
-/
set_option linter.unusedSimpArgs false
set_option linter.unusedVariables false
namespace Go.Proofs.Ytcdjheiccefcdaa
open Go.Sym
set_option maxRecDepth 10000
set_option maxHeartbeats 1000000

theorem rTexts_any (bs : List UInt8) (hl : bs.length < 2 ^ 63) :
    LocalCall Try.prog 34 [.d (.sl (bs.map byteD))] [] [] (one [.d (.sl (((rdTexts bs).getD []).map tD)), .d (.int .i64 (errI (rdTexts bs)))]) [] := by
  cases h : rdTexts bs with
  | none => exact rTexts_no _ bs rfl h hl
  | some vs => exact rTexts_yes _ bs rfl vs h hl

theorem refTexts_any (bs : List UInt8) (hl : bs.length < 2 ^ 63) :
    LocalCall Try.prog 49 [.d (.sl (bs.map byteD))] [] [] (one [.d (.sl (((rdTexts bs).getD []).map tD)), .d (.int .i64 (errI (rdTexts bs)))]) [] := refTexts_ok _ bs rfl hl _ rfl

theorem textsB_len (vs : List (List UInt8)) (h : ∀ v, v ∈ vs → v.length < 2 ^ 64) : (textsB vs).length ≤ 10 * vs.length + vs.flatten.length := by
  induction vs with
  | nil => simp [textsB]
  | cons v vs ih =>
    have := ih (fun w hw => h w (by simp [hw]))
    have h1 := numB_le10 (h v (by simp))
    simp only [textsB, textB, List.flatMap_cons, List.length_append, List.length_cons, List.flatten_cons] at this ⊢
    omega

theorem encT_len {vs : List (List UInt8)} (h : ∀ v, v ∈ vs → v.length < 2 ^ 64) (hl : vs.length < 2 ^ 64) : (encT vs).length ≤ 10 * vs.length + 10 + vs.flatten.length := by
  have := textsB_len vs h
  have h1 := numB_le10 hl
  unfold encT
  rw [List.length_append]; omega

theorem refTs_ok (vs : List (List UInt8)) (hl : vs.length < 2 ^ 63) (hroom : Room (encT vs).length 1) :
    LocalCall Try.prog 37 [.d (.sl (vs.map tD))] [] [] (one [.d (.sl ((encT vs).map byteD))]) [] := by
  have lx : (vs.map tD).length = vs.length := List.length_map _
  have hR : ∀ i, i < vs.length → Room ((numB vs.length ++ textsB (vs.take i)).map byteD ++ (textB (vs.getD i [])).map byteD).length 1 := fun i hi => by
    refine room_le hroom rfl ?_
    have h2 := congrArg List.length (textsB_take vs hi)
    have h3 := textsB_sub vs (i + 1)
    simp only [encT, List.length_append, List.length_map] at h2 ⊢
    omega
  have hnum : ∀ i, i < vs.length → LocalCall Try.prog 68 [.d ((vs.map tD).getD i .nilp)] [] [] (one [.d (.sl ((textB (vs.getD i [])).map byteD))]) [] := fun i hi => by
    rw [(map_at (f := tD) (d := []) hi).1]
    refine rText_b _ (room_le (hR i hi) rfl ?_)
    simp only [List.length_append, List.length_map]; omega
  refine vc_fn mixed Try.func37 rfl rfl [] (vc_chk rfl) ?_
  repeat' (first
      | ((with_reducible refine vc_chk ?_); first | decide +kernel | rfl)
      | (with_reducible refine vc_side0 ?_; rfl)
      | (with_reducible first
           | refine vc_true ?_ | refine vc_true2 ?_ | refine vc_side ?_ ?_ | refine vc_triv | refine vc_later ?_ | refine vc_caseT ?_ | refine vc_caseF ?_ | refine vc_cons ?_ | refine vc_nil ?_ ?_ | refine vc_seq ?_
              | refine vc_region ?_ | refine vc_cond ?_ | refine vc_block ?_ | refine vc_retc ?_ | refine vc_exit ?_ | refine vc_skip ?_ | refine vc_scope ?_ | refine vc_label ?_ | refine vc_goto ?_ | refine vc_wkSl0
              | refine vc_wkHp0 | refine vc_eqAVs0 | refine vc_preG0 | refine vc_wkSl ?_ ?_ | refine vc_wkHp ?_ ?_ | refine vc_eqAVs ?_ ?_ | refine vc_preG ?_ ?_ | refine vc_side0 ?_
              | refine vc_callU (rNum_own _ vs.length (by rw [lx, wrapU64_id (by omega) (by omega)]) (by omega)) ?_ ?_
              | refine vc_loopI 23 (fun (i : Nat) => [(0, .d (.sl (vs.map tD))), (3, .sl 2 [] 1 0 ((numB vs.length ++ textsB (vs.take i)).map byteD).length), (4, .d (.int .i64 (i : Int)))]) (fun i => [(2, .row 1 ((numB vs.length ++ textsB (vs.take i)).map byteD))]) (fun i => vs.length - i) (fun i => i ≤ vs.length) 0 [] ?_ ?_ ?_ ?_ ?_ (fun i hI => ?_)
              | refine vc_call [] (hnum i (by omega)) ?_ | refine vc_nextI (i + 1) [(2, 6024)] ?_ ?_ ?_ ?_ ?_ ?_ | refine vc_ret [true] [] ?_ | refine vc_weakf [] ?_ ?_ ?_ | refine vc_and ?_ ?_ | refine vc_ret [] [] ?_)
      | ((with_reducible first | refine vc_caseD (fun h => ?_) (fun h => ?_) | refine vc_caseN (fun h => ?_) (fun h => ?_)) <;> try (exfalso; omega))
      | ((with_reducible refine vc_case (fun h => ?_) (fun h => ?_)) <;> (try simp at h) <;> try (exfalso; omega))
      | (conv in Vc _ => arg 1; whnf
         first
          | (with_reducible refine vc_side0 ?_; rfl)
          | (with_reducible first
              | refine vc_true ?_ | refine vc_true2 ?_ | refine vc_side ?_ ?_ | refine vc_triv | refine vc_later ?_ | refine vc_caseT ?_ | refine vc_caseF ?_ | refine vc_cons ?_ | refine vc_nil ?_ ?_ | refine vc_seq ?_
                 | refine vc_region ?_ | refine vc_cond ?_ | refine vc_block ?_ | refine vc_retc ?_ | refine vc_exit ?_ | refine vc_skip ?_ | refine vc_scope ?_ | refine vc_label ?_ | refine vc_goto ?_ | refine vc_wkSl0
                 | refine vc_wkHp0 | refine vc_eqAVs0 | refine vc_preG0 | refine vc_wkSl ?_ ?_ | refine vc_wkHp ?_ ?_ | refine vc_eqAVs ?_ ?_ | refine vc_preG ?_ ?_ | refine vc_side0 ?_
                 | refine vc_callU (rNum_own _ vs.length (by rw [lx, wrapU64_id (by omega) (by omega)]) (by omega)) ?_ ?_
                 | refine vc_loopI 23 (fun (i : Nat) => [(0, .d (.sl (vs.map tD))), (3, .sl 2 [] 1 0 ((numB vs.length ++ textsB (vs.take i)).map byteD).length), (4, .d (.int .i64 (i : Int)))]) (fun i => [(2, .row 1 ((numB vs.length ++ textsB (vs.take i)).map byteD))]) (fun i => vs.length - i) (fun i => i ≤ vs.length) 0 [] ?_ ?_ ?_ ?_ ?_ (fun i hI => ?_)
                 | refine vc_call [] (hnum i (by omega)) ?_ | refine vc_nextI (i + 1) [(2, 6024)] ?_ ?_ ?_ ?_ ?_ ?_ | refine vc_ret [true] [] ?_ | refine vc_weakf [] ?_ ?_ ?_ | refine vc_and ?_ ?_ | refine vc_ret [] [] ?_)
          | ((with_reducible first | refine vc_caseD (fun h => ?_) (fun h => ?_) | refine vc_caseN (fun h => ?_) (fun h => ?_)) <;> try (exfalso; omega))
          | ((with_reducible refine vc_case (fun h => ?_) (fun h => ?_)) <;> (try simp at h) <;> try (exfalso; omega))))
  all_goals first
    | rfl
    | omega
    | (simp [textsB]; done)
    | (rw [Int.toNat_natCast, (map_at (f := tD) (d := []) (show i < vs.length by omega)).1]; first | rfl | exact ⟨⟨by omega, by omega⟩, rfl⟩)
    | exact ⟨⟨trivial, trivial, hR i (by omega)⟩, size_bytes _⟩
    | exact ⟨⟨trivial, rfl, hR i (by omega)⟩, size_bytes _⟩
    | (rw [← List.map_append, List.append_assoc, textsB_take vs (by omega)]; done)
    | (congr 1; rw [wrap64_id (by omega) (by omega)]; omega)
    | (obtain rfl : i = vs.length := by omega
       exact ⟨Nat.le_of_eq (Nat.zero_add _), trivial⟩)
    | (obtain rfl : i = vs.length := by omega
       rw [List.drop_zero, List.take_length, List.take_length]; rfl)

theorem texts_any (vs : List (List UInt8)) (hroom : Room (encT vs).length 1) :
    LocalCall Try.prog 33 [.d (.sl (vs.map tD))] [] [] (one [.d (.sl ((encT vs).map byteD))]) [] := texts_ok _ vs rfl hroom

end Go.Proofs.Ytcdjheiccefcdaa

/-
What the laws CodecBack, CodecApart, CodecCuts return.
-/
set_option linter.unusedSimpArgs false
set_option linter.unusedVariables false
namespace Go.Proofs.Ytcdjheiccefcdaa
open Go.Sym
set_option maxRecDepth 10000
set_option maxHeartbeats 8000000

end Go.Proofs.Ytcdjheiccefcdaa

/-
Evidence that two roots of one epoch were signed: plain words, and what they come to.
-/
set_option linter.unusedSimpArgs false
set_option linter.unusedVariables false
namespace Go.Proofs.Ytcdjheiccefcdaa
open Go.Sym
set_option maxRecDepth 10000
set_option maxHeartbeats 1000000

/-- Evidence. -/
structure Evd where
  trunk : List Sgn
  a : Sgn
  b : Sgn
instance : DecidableEq Evd := fun x y => if h : x.trunk = y.trunk ∧ x.a = y.a ∧ x.b = y.b then isTrue (by cases x; cases y; simp_all) else isFalse (by rintro rfl; exact h ⟨rfl, rfl, rfl⟩)
abbrev eD (e : Evd) : D := .st [.sl (e.trunk.map sD), sD e.a, sD e.b]
def e0 : Evd := ⟨[], s0, s0⟩
structure wfE (e : Evd) : Prop where
  trunk : ∀ s, s ∈ e.trunk → wfS s
  a : wfS e.a
  b : wfS e.b
theorem wfS_0 : wfS s0 := ⟨by decide, rfl, rfl, rfl⟩
theorem wf_e0 : wfE e0 := ⟨nofun, wfS_0, wfS_0⟩
theorem evd_ext (x y : Evd) : x = y ↔ x.trunk = y.trunk ∧ x.a = y.a ∧ x.b = y.b := ⟨fun h => by subst h; exact ⟨rfl, rfl, rfl⟩, fun h => by cases x; cases y; simp_all⟩
/-- The head ahead of all. -/
abbrev hdP (pin : List UInt8) : Hd := ⟨0, zero32, pin⟩
theorem wf_hdP {pin : List UInt8} (h : pin.length = 32) : wfH (hdP pin) := ⟨by show (0 : Nat) < _; decide, rfl, h⟩

/-- Does evidence hold? -/
def okE (pin : List UInt8) (e : Evd) : Bool :=
  decide ((walk (hdP pin) e.trunk).2.2 = 0) && (decide (folE (walk (hdP pin) e.trunk).1 e.a = 0) && (decide (folE (walk (hdP pin) e.trunk).1 e.b = 0) && !decide (e.a.root = e.b.root)))
def chkE (pin : List UInt8) (e : Evd) : Int := bif okE pin e then 0 else 15
theorem okE_iff {pin : List UInt8} {e : Evd} : okE pin e = true ↔ (walk (hdP pin) e.trunk).2.2 = 0 ∧ folE (walk (hdP pin) e.trunk).1 e.a = 0 ∧ folE (walk (hdP pin) e.trunk).1 e.b = 0 ∧ ¬ e.a.root = e.b.root := by
  unfold okE
  simp only [Bool.and_eq_true, Bool.not_eq_true', decide_eq_true_eq, decide_eq_false_iff_not]
theorem chkE_yes {pin : List UInt8} {e : Evd} (h : okE pin e = true) : chkE pin e = 0 := by unfold chkE; rw [h]; rfl
theorem chkE_no {pin : List UInt8} {e : Evd} (h : ¬ okE pin e = true) : chkE pin e = 15 := by unfold chkE; rw [Bool.eq_false_iff.2 h]; rfl
theorem chkE_ok {pin : List UInt8} {e : Evd} (h : chkE pin e = 0) : okE pin e = true := by
  by_cases hb : okE pin e = true
  · exact hb
  · rw [chkE_no hb] at h; cases h
/-- The bytes. -/
def evL (e : Evd) : List Sgn := e.trunk ++ [e.a, e.b]
def evB (e : Evd) : List UInt8 := encT ((evL e).map sgnB)
def mkE (l : List Sgn) : Evd := ⟨l.take (l.length - 2), l.getD (l.length - 2) s0, l.getD (l.length - 1) s0⟩
theorem mkE_evL (e : Evd) : mkE (evL e) = e := by
  have h : (evL e).length = e.trunk.length + 2 := by simp [evL]
  unfold mkE
  rw [h, show e.trunk.length + 2 - 2 = e.trunk.length by omega, show e.trunk.length + 2 - 1 = e.trunk.length + 1 by omega]
  rw [evd_ext]
  refine ⟨?_, ?_, ?_⟩
  · simp [evL]
  · simp [evL, List.getD_eq_getElem?_getD]
  · simp [evL, List.getD_eq_getElem?_getD]
theorem evL_mkE {l : List Sgn} (h : 2 ≤ l.length) : evL (mkE l) = l := by
  unfold evL mkE
  show l.take (l.length - 2) ++ [l.getD (l.length - 2) s0, l.getD (l.length - 1) s0] = l
  rw [List.getD_eq_getElem?_getD, List.getD_eq_getElem?_getD, List.getElem?_eq_getElem (show l.length - 2 < l.length by omega), List.getElem?_eq_getElem (show l.length - 1 < l.length by omega)]
  have h1 := List.drop_eq_getElem_cons (show l.length - 2 < l.length by omega)
  have h2 := List.drop_eq_getElem_cons (show l.length - 2 + 1 < l.length by omega)
  have h3 : l.drop (l.length - 2 + 1 + 1) = [] := List.drop_eq_nil_of_le (by omega)
  have e1 : l[l.length - 1]'(by omega) = l[l.length - 2 + 1]'(by omega) := by congr 1; omega
  show l.take (l.length - 2) ++ [l[l.length - 2]'(by omega), l[l.length - 1]'(by omega)] = l
  rw [e1]
  conv => rhs; rw [← List.take_append_drop (l.length - 2) l, h1, h2, h3]
theorem evL_wf {e : Evd} (h : wfE e) : ∀ s, s ∈ evL e → wfS s := fun s hs => by
  rcases List.mem_append.1 hs with hs | hs
  · exact h.1 s hs
  · simp only [List.mem_cons, List.not_mem_nil, or_false] at hs
    rcases hs with rfl | rfl
    · exact h.2
    · exact h.3
theorem mkE_wf {l : List Sgn} (hl : 2 ≤ l.length) (h : ∀ s, s ∈ l → wfS s) : wfE (mkE l) := by
  have key : ∀ i, i < l.length → wfS (l.getD i s0) := fun i hi => h _ (by rw [List.getD_eq_getElem?_getD, List.getElem?_eq_getElem hi]; simp)
  exact ⟨fun s hs => h s (List.mem_of_mem_take hs), key _ (by omega), key _ (by omega)⟩

/-- What texts are as signed roots. -/
def rdS (t : List UInt8) : Option Sgn := toFin t.length (rdSgn t)
def rdSs : List (List UInt8) → Option (List Sgn)
  | [] => some []
  | t :: ts => (rdS t).bind fun s => (rdSs ts).map fun l => s :: l
def gotL (ts : List (List UInt8)) (i : Nat) : List Sgn := (ts.take i).map fun t => (rdS t).getD s0
theorem gotL_length {ts : List (List UInt8)} {i : Nat} (h : i ≤ ts.length) : (gotL ts i).length = i := by
  unfold gotL
  rw [List.length_map, List.length_take]; omega
theorem gotL_succ {ts : List (List UInt8)} {i : Nat} (h : i < ts.length) : gotL ts (i + 1) = gotL ts i ++ [(rdS (ts.getD i [])).getD s0] := by
  unfold gotL
  rw [List.take_add_one, List.getElem?_eq_getElem h, List.map_append, List.getD_eq_getElem?_getD, List.getElem?_eq_getElem h]; rfl
theorem rdSs_all {ts : List (List UInt8)} (h : ∀ j, j < ts.length → (rdS (ts.getD j [])).isSome = true) : rdSs ts = some (gotL ts ts.length) := by
  induction ts with
  | nil => rfl
  | cons t ts ih =>
    have h0 := h 0 (by simp)
    have h1 := ih fun j hj => by simpa using h (j + 1) (by simpa using hj)
    obtain ⟨s, hs⟩ := Option.isSome_iff_exists.1 h0
    have hs : rdS t = some s := hs
    simp only [rdSs, hs, h1, Option.bind_some, Option.map_some, gotL, List.length_cons, List.take_succ_cons, List.map_cons, Option.getD_some]
theorem rdSs_bad {ts : List (List UInt8)} {j : Nat} (hj : j < ts.length) (h : rdS (ts.getD j []) = none) : rdSs ts = none := by
  induction ts generalizing j with
  | nil => simp at hj
  | cons t ts ih =>
    cases j with
    | zero =>
      have h : rdS t = none := h
      simp only [rdSs, h, Option.bind_none]
    | succ j =>
      have := ih (j := j) (by simpa using hj) (by simpa using h)
      simp only [rdSs, this, Option.map_none]
      cases rdS t <;> rfl
theorem rdSs_some {ts : List (List UInt8)} {l : List Sgn} (h : rdSs ts = some l) : ts = l.map sgnB ∧ ∀ s, s ∈ l → wfS s ∧ s.sig.length ≤ 1048576 := by
  induction ts generalizing l with
  | nil => cases h; exact ⟨rfl, nofun⟩
  | cons t ts ih =>
    unfold rdSs at h
    cases hs : rdS t with
    | none => rw [hs] at h; cases h
    | some s =>
      cases hl : rdSs ts with
      | none => rw [hs, hl] at h; cases h
      | some l' =>
        rw [hs, hl] at h
        cases h
        obtain ⟨h1, h2⟩ := ih hl
        obtain ⟨k1, k2, k3⟩ := sgn_one hs
        refine ⟨by rw [List.map_cons, ← h1, k1], fun x hx => ?_⟩
        rcases List.mem_cons.1 hx with rfl | hx
        · exact ⟨k2, k3⟩
        · exact h2 x hx
theorem rdSs_back {l : List Sgn} (h : ∀ s, s ∈ l → wfS s ∧ s.sig.length ≤ 1048576) : rdSs (l.map sgnB) = some l := by
  induction l with
  | nil => rfl
  | cons s l ih =>
    have hs := h s (by simp)
    have h1 : rdS (sgnB s) = some s := sgn_back hs.1 hs.2
    simp only [List.map_cons, rdSs, h1, ih (fun x hx => h x (by simp [hx])), Option.bind_some, Option.map_some]

theorem textB_le (t : List UInt8) (h : t.length < 2 ^ 64) : (textB t).length ≤ t.length + 10 := by
  have h1 := numB_len_le 10 t.length (Nat.lt_of_lt_of_le h (by decide)) (by decide)
  unfold textB
  rw [List.length_append]; omega
theorem sgnB_le {s : Sgn} (hw : wfS s) (h : s.sig.length < 2 ^ 64) : (sgnB s).length ≤ s.sig.length + 116 := by
  have h1 := numB_len_le 10 s.root.epoch (Nat.lt_of_lt_of_le hw.1 (by decide)) (by decide)
  have h2 := textB_le s.sig h
  unfold sgnB
  simp only [List.length_append, List.flatten_cons, List.flatten_nil, List.length_nil, hw.2, hw.3, hw.4]
  omega

def rdE (bs : List UInt8) : Option Evd := (rdTexts bs).bind fun ts => bif decide (2 ≤ ts.length ∧ ts.length ≤ 65) then (rdSs ts).map mkE else none
theorem rdE_some {bs : List UInt8} {e : Evd} (h : rdE bs = some e) : evB e = bs ∧ wfE e ∧ e.trunk.length ≤ 63 ∧ ∀ s, s ∈ evL e → s.sig.length ≤ 1048576 := by
  unfold rdE at h
  cases ht : rdTexts bs with
  | none => rw [ht] at h; cases h
  | some ts =>
    rw [ht] at h
    replace h : (bif decide (2 ≤ ts.length ∧ ts.length ≤ 65) then (rdSs ts).map mkE else none) = some e := h
    by_cases hn : 2 ≤ ts.length ∧ ts.length ≤ 65
    · rw [decide_eq_true hn, cond_true] at h
      cases hl : rdSs ts with
      | none => rw [hl] at h; cases h
      | some l =>
        rw [hl] at h
        cases h
        obtain ⟨h1, h2⟩ := rdSs_some hl
        have hlen : l.length = ts.length := by rw [h1, List.length_map]
        have h3 := (rdTexts_iff.1 ht).1
        refine ⟨?_, mkE_wf (by omega) fun s hs => (h2 s hs).1, ?_, fun s hs => ?_⟩
        · unfold evB
          rw [evL_mkE (by omega), ← h1, ← h3]
        · show (l.take (l.length - 2)).length ≤ 63
          rw [List.length_take]; omega
        · rw [evL_mkE (by omega)] at hs; exact (h2 s hs).2
    · rw [decide_eq_false hn, cond_false] at h; cases h
theorem rdE_back {e : Evd} (hw : wfE e) (hn : e.trunk.length ≤ 63) (hs : ∀ s, s ∈ evL e → s.sig.length ≤ 1048000) : rdE (evB e) = some e := by
  have h1 : rdTexts (evB e) = some ((evL e).map sgnB) := by
    rw [rdTexts_iff]
    refine ⟨rfl, by rw [List.length_map]; simp [evL]; omega, fun t ht => ?_⟩
    obtain ⟨s, hs2, rfl⟩ := List.mem_map.1 ht
    have := sgnB_le (evL_wf hw s hs2) (Nat.lt_of_le_of_lt (hs s hs2) (by decide))
    have := hs s hs2
    omega
  have h2 : ((evL e).map sgnB).length = e.trunk.length + 2 := by simp [evL]
  unfold rdE
  rw [h1, Option.bind_some, h2, decide_eq_true (by omega), cond_true, rdSs_back (fun s h => ⟨evL_wf hw s h, Nat.le_trans (hs s h) (by decide)⟩), Option.map_some, mkE_evL]

/-- What can be followed is short, and its signatures are whole. -/
theorem walk_epoch : ∀ (l : List Sgn) (g : Hd), (walk g l).2.2 = 0 → (walk g l).1.epoch = g.epoch + l.length
  | [], g, _ => rfl
  | s :: l, g, h => by
    by_cases he : folE g s = 0
    · simp only [walk, he, decide_true, cond_true] at h ⊢
      have h1 := walk_epoch l _ h
      have h2 := (folE_yes he).2.1
      show (walk (folY s) l).1.epoch = _
      rw [h1]
      show s.root.epoch + l.length = _
      rw [h2, List.length_cons]; omega
    · simp only [walk, decide_eq_false he, cond_false] at h
      exact absurd h he
theorem walk_sig : ∀ (l : List Sgn) (g : Hd), (walk g l).2.2 = 0 → ∀ s, s ∈ l → s.sig.length = 16384
  | [], g, _, s, hs => by cases hs
  | t :: l, g, h, s, hs => by
    by_cases he : folE g t = 0
    · simp only [walk, he, decide_true, cond_true] at h
      rcases List.mem_cons.1 hs with rfl | hs
      · exact fol_sig he
      · exact walk_sig l _ h s hs
    · simp only [walk, decide_eq_false he, cond_false] at h
      exact absurd h he
where
  fol_sig {g : Hd} {s : Sgn} (h : folE g s = 0) : s.sig.length = 16384 := by
    have h := (folE_yes h).2.2.2
    unfold checkE at h
    by_cases hs : s.sig.length = 16384
    · exact hs
    · rw [decide_eq_false hs, Bool.false_and, cond_false] at h; cases h
theorem okE_small {pin : List UInt8} {e : Evd} (h : okE pin e = true) : e.trunk.length ≤ 63 ∧ ∀ s, s ∈ evL e → s.sig.length ≤ 1048000 := by
  obtain ⟨h1, h2, h3, _⟩ := okE_iff.1 h
  have h4 := walk_epoch e.trunk (hdP pin) h1
  have h5 := (folE_yes h2).1
  have h6 : (hdP pin).epoch = 0 := rfl
  refine ⟨by omega, fun s hs => ?_⟩
  rcases List.mem_append.1 hs with hs | hs
  · rw [walk_sig _ _ h1 s hs]; decide
  · simp only [List.mem_cons, List.not_mem_nil, or_false] at hs
    rcases hs with rfl | rfl
    · rw [walk_sig.fol_sig h2]; decide
    · rw [walk_sig.fol_sig h3]; decide
/-- With a root ahead of them let go, two roots are no evidence. -/
theorem okE_less {pin : List UInt8} {s : Sgn} {l : List Sgn} {a b c d : Sgn} (h : okE pin ⟨s :: l, a, b⟩ = true) : ¬ okE pin ⟨l, a, d⟩ = true := fun k => by
  obtain ⟨h1, h2, _, _⟩ := okE_iff.1 h
  obtain ⟨k1, k2, _, _⟩ := okE_iff.1 k
  have h4 : (walk (hdP pin) (s :: l)).1.epoch = (hdP pin).epoch + (s :: l).length := walk_epoch _ _ h1
  have k4 : (walk (hdP pin) l).1.epoch = (hdP pin).epoch + l.length := walk_epoch _ _ k1
  have h5 : a.root.epoch = (walk (hdP pin) (s :: l)).1.epoch + 1 := (folE_yes h2).2.1
  have k5 : a.root.epoch = (walk (hdP pin) l).1.epoch + 1 := (folE_yes k2).2.1
  rw [List.length_cons] at h4
  omega
theorem okE_turn (pin : List UInt8) (l : List Sgn) (a b : Sgn) : okE pin ⟨l, b, a⟩ = okE pin ⟨l, a, b⟩ := by
  rw [Bool.eq_iff_iff, okE_iff, okE_iff]
  exact ⟨fun ⟨h1, h2, h3, h4⟩ => ⟨h1, h3, h2, fun h => h4 h.symm⟩, fun ⟨h1, h2, h3, h4⟩ => ⟨h1, h3, h2, fun h => h4 h.symm⟩⟩
theorem okE_twice (pin : List UInt8) (l : List Sgn) (a : Sgn) : ¬ okE pin ⟨l, a, a⟩ = true := fun h => (okE_iff.1 h).2.2.2 rfl

/-- The place at which two lists of roots part. -/
def partF (l m : List Sgn) : Option Nat := (List.range (min l.length m.length)).find? fun i => !decide ((l.getD i s0).root = (m.getD i s0).root)
theorem partF_none {l m : List Sgn} {i : Nat} (hi : l.length ≤ i ∨ m.length ≤ i) (h : ∀ j, j < i → (l.getD j s0).root = (m.getD j s0).root) : partF l m = none := by
  unfold partF
  rw [List.find?_range_eq_none]
  intro j hj
  rw [decide_eq_true (h j (by omega))]; rfl
theorem partF_some {l m : List Sgn} {i : Nat} (ha : i < l.length) (hb : i < m.length) (h : ∀ j, j < i → (l.getD j s0).root = (m.getD j s0).root) (hp : ¬ (l.getD i s0).root = (m.getD i s0).root) : partF l m = some i := by
  unfold partF
  rw [List.find?_range_eq_some]
  exact ⟨by rw [decide_eq_false hp]; rfl, List.mem_range.2 (by omega), fun j hj => by rw [decide_eq_true (h j hj)]; rfl⟩
theorem partF_at {l m : List Sgn} {i : Nat} (h : partF l m = some i) : i < l.length ∧ i < m.length ∧ ¬ (l.getD i s0).root = (m.getD i s0).root ∧ ∀ j, j < i → (l.getD j s0).root = (m.getD j s0).root := by
  unfold partF at h
  rw [List.find?_range_eq_some] at h
  obtain ⟨h1, h2, h3⟩ := h
  have := List.mem_range.1 h2
  exact ⟨by omega, by omega, by simpa using h1, fun j hj => by simpa using h3 j hj⟩
def evAt (l m : List Sgn) (i : Nat) : Evd := ⟨l.take i, l.getD i s0, m.getD i s0⟩
/-- The evidence that two lists come to. -/
def findF (pin : List UInt8) (l m : List Sgn) : Option Nat := (partF l m).bind fun i => bif okE pin (evAt l m i) then some i else none
theorem findF_none {pin : List UInt8} {l m : List Sgn} (h : partF l m = none) : findF pin l m = none := by unfold findF; rw [h]; rfl
theorem findF_no {pin : List UInt8} {l m : List Sgn} {i : Nat} (h : partF l m = some i) (h2 : ¬ okE pin (evAt l m i) = true) : findF pin l m = none := by unfold findF; rw [h, Option.bind_some, Bool.eq_false_iff.2 h2]; rfl
theorem findF_yes {pin : List UInt8} {l m : List Sgn} {i : Nat} (h : partF l m = some i) (h2 : okE pin (evAt l m i) = true) : findF pin l m = some i := by unfold findF; rw [h, Option.bind_some, h2]; rfl
theorem findF_at {pin : List UInt8} {l m : List Sgn} {i : Nat} (h : findF pin l m = some i) : partF l m = some i ∧ okE pin (evAt l m i) = true := by
  unfold findF at h
  cases hp : partF l m with
  | none => rw [hp] at h; cases h
  | some j =>
    rw [hp, Option.bind_some] at h
    by_cases ho : okE pin (evAt l m j) = true
    · rw [ho, cond_true] at h; cases h; exact ⟨rfl, ho⟩
    · rw [Bool.eq_false_iff.2 ho, cond_false] at h; cases h
theorem evAt_wf {l m : List Sgn} (hl : ∀ s, s ∈ l → wfS s) (hm : ∀ s, s ∈ m → wfS s) (i : Nat) : wfE (evAt l m i) := by
  have key : ∀ (l : List Sgn), (∀ s, s ∈ l → wfS s) → wfS (l.getD i s0) := fun l h => by
    rw [List.getD_eq_getElem?_getD]
    by_cases hi : i < l.length
    · rw [List.getElem?_eq_getElem hi]; exact h _ (List.getElem_mem hi)
    · rw [List.getElem?_eq_none (by omega)]; exact wfS_0
  exact ⟨fun s hs => hl s (List.mem_of_mem_take hs), key l hl, key m hm⟩
/-- Roots that are the same lead to the same head. -/
theorem walk_same : ∀ (i : Nat) (l m : List Sgn) (g : Hd), i ≤ l.length → i ≤ m.length → (∀ j, j < i → (l.getD j s0).root = (m.getD j s0).root) → (walk g (l.take i)).2.2 = 0 → (walk g (m.take i)).2.2 = 0 → (walk g (l.take i)).1 = (walk g (m.take i)).1
  | 0, l, m, g, _, _, _, _, _ => by simp [walk]
  | i + 1, [], m, g, h, _, _, _, _ => by simp at h
  | i + 1, s :: l, [], g, _, h, _, _, _ => by simp at h
  | i + 1, s :: l, t :: m, g, hl, hm, h, h1, h2 => by
    have he : s.root = t.root := by simpa using h 0 (by omega)
    simp only [List.take_succ_cons] at h1 h2 ⊢
    by_cases es : folE g s = 0
    · by_cases et : folE g t = 0
      · simp only [walk, es, et, decide_true, cond_true] at h1 h2 ⊢
        have hy : folY s = folY t := by unfold folY; rw [he]
        rw [hy] at h1 ⊢
        exact walk_same i l m (folY t) (by simpa using hl) (by simpa using hm) (fun j hj => by simpa using h (j + 1) (by omega)) h1 h2
      · simp only [walk, decide_eq_false et, cond_false] at h2; exact absurd h2 et
    · simp only [walk, decide_eq_false es, cond_false] at h1; exact absurd h1 es
theorem walk_take {g : Hd} {l : List Sgn} (h : (walk g l).2.2 = 0) {i : Nat} (hi : i < l.length) : (walk g (l.take i)).2.2 = 0 ∧ folE (walk g (l.take i)).1 (l.getD i s0) = 0 := by
  have h1 := walk_append (l.take i) (l.drop i) g
  rw [List.take_append_drop] at h1
  by_cases h2 : (walk g (l.take i)).2.2 = 0
  · refine ⟨h2, ?_⟩
    rw [decide_eq_true h2, cond_true] at h1
    rw [h1] at h
    have e : l.drop i = l.getD i s0 :: l.drop (i + 1) := by
      rw [List.drop_eq_getElem_cons hi, List.getD_eq_getElem?_getD, List.getElem?_eq_getElem hi]; rfl
    replace h : (walk (walk g (l.take i)).1 (l.drop i)).2.2 = 0 := h
    rw [e] at h
    by_cases he : folE (walk g (l.take i)).1 (l.getD i s0) = 0
    · exact he
    · simp only [walk, decide_eq_false he, cond_false] at h
      exact absurd h he
  · rw [decide_eq_false h2, cond_false] at h1
    rw [h1] at h; exact absurd h h2
/-- Who signs two is found out. -/
theorem find_law {pin : List UInt8} {l m : List Sgn} (hl : (walk (hdP pin) l).2.2 = 0) (hm : (walk (hdP pin) m).2.2 = 0) : findF pin l m = partF l m := by
  cases hp : partF l m with
  | none => exact findF_none hp
  | some i =>
    obtain ⟨h1, h2, h3, h4⟩ := partF_at hp
    obtain ⟨a1, a2⟩ := walk_take hl h1
    obtain ⟨b1, b2⟩ := walk_take hm h2
    refine findF_yes hp (okE_iff.2 ⟨a1, a2, ?_, h3⟩)
    have e := walk_same i l m (hdP pin) (by omega) (by omega) h4 a1 b1
    show folE (walk (hdP pin) (l.take i)).1 (m.getD i s0) = 0
    rw [e]; exact b2

end Go.Proofs.Ytcdjheiccefcdaa

/-
Readings of evidence.
-/
set_option linter.unusedSimpArgs false
set_option linter.unusedVariables false
namespace Go.Proofs.Ytcdjheiccefcdaa
open Go.Sym
set_option maxRecDepth 100000

theorem evd_of {n : Nat} {x : D} (h : okD Try.prog (n + 7) 32 x) : ∃ e : Evd, x = eD e ∧ wfE e := by
  have hu : ∃ fs, Try.prog.underlying 32 = some (.struct fs) ∧ fs.toList.map (·.type) = [24, 30, 30] := ⟨_, rfl, rfl⟩
  obtain ⟨fs, hu, ht⟩ := hu
  rw [show n + 7 = (n + 6) + 1 from rfl, okD, hu] at h
  obtain ⟨xs, rfl, hx⟩ := h
  rw [ht] at hx
  obtain ⟨t, a, b, rfl, h0, h1, h2⟩ := okAll3 hx
  obtain ⟨l, rfl, hl, _⟩ := sgns_of (n := n) h0
  obtain ⟨s, rfl, hs⟩ := sgn_of (n := n + 1) h1
  obtain ⟨u, rfl, hv⟩ := sgn_of (n := n + 1) h2
  exact ⟨⟨l, s, u⟩, rfl, hl, hs, hv⟩
theorem bulk_sgns : ∀ (l : List Sgn) (s : Sgn), s ∈ l → s.sig.length ≤ D.bulks (l.map sD)
  | t :: l, s, h => by
    simp only [List.map_cons, D.bulks]
    rcases List.mem_cons.1 h with rfl | h
    · have := bulk_sgn s; omega
    · have := bulk_sgns l s h; omega
theorem bulk_evd (e : Evd) : ∀ s, s ∈ evL e → s.sig.length ≤ (eD e).bulk := fun s hs => by
  have h1 := bulk_sgn e.a
  have h2 := bulk_sgn e.b
  simp only [D.bulk, D.bulks] at h1 h2 ⊢
  rcases List.mem_append.1 hs with hs | hs
  · have := bulk_sgns e.trunk s hs; omega
  · simp only [List.mem_cons, List.not_mem_nil, or_false] at hs
    rcases hs with rfl | rfl
    · omega
    · omega

end Go.Proofs.Ytcdjheiccefcdaa

/-
Evidence checked, written and read by the program.
-/
set_option linter.unusedSimpArgs false
set_option linter.unusedVariables false
namespace Go.Proofs.Ytcdjheiccefcdaa
open Go.Sym
set_option maxRecDepth 10000
set_option maxHeartbeats 4000000

theorem rtNo {a b : Rt} (h : (bif false then !(D.beq (rootD a) (rootD b)) else D.beq (rootD a) (rootD b)) = true) : a = b := by
  have h2 : D.beq (rootD a) (rootD b) = true := h
  rw [beq_root] at h2
  exact of_decide_eq_true h2
theorem rtOff {a b : Rt} (h : (bif false then !(D.beq (rootD a) (rootD b)) else D.beq (rootD a) (rootD b)) = false) : ¬ a = b := by
  have h2 : D.beq (rootD a) (rootD b) = false := h
  rw [beq_root] at h2
  exact of_decide_eq_false h2
theorem two_len {x y : D} : [x, y].length = 2 := rfl
theorem two_at (a b : Sgn) {i : Nat} (h : i < 2) : [sD a, sD b].getD i .nilp = sD ([a, b].getD i s0) := by
  match i, h with
  | 0, _ => rfl
  | 1, _ => rfl
theorem two_i {i : Nat} (h : i < 2) : i = 0 ∨ i = 1 := by omega
theorem fol_more {g : Hd} {l : List Sgn} {i : Nat} (h : ∀ j, j < i → folE g (l.getD j s0) = 0) (hp : folE g (l.getD i s0) = 0) : ∀ j, j < i + 1 → folE g (l.getD j s0) = 0 := fun j hj => by
  by_cases e : j = i
  · subst e; exact hp
  · exact h j (by omega)
theorem chk15 {pin : List UInt8} {e : Evd} (h : ¬ (walk (hdP pin) e.trunk).2.2 = 0 ∨ e.a.root = e.b.root ∨ ¬ folE (walk (hdP pin) e.trunk).1 e.a = 0 ∨ ¬ folE (walk (hdP pin) e.trunk).1 e.b = 0) : chkE pin e = 15 := by
  refine chkE_no fun k => ?_
  obtain ⟨h1, h2, h3, h4⟩ := okE_iff.1 k
  rcases h with h | h | h | h
  · exact h h1
  · exact h4 h
  · exact h h2
  · exact h h3

section
variable (pin : List UInt8) (hp : pin.length = 32) (e : Evd) (hw : wfE e) (hl : e.trunk.length < 2 ^ 63)
include hp hw hl
theorem echeck_ok : LocalCall Try.prog 11 [.d (digD pin), .d (eD e)] [] [] (one [.d (.int .i64 (chkE pin e))]) [] := by
  have c0 := start_ok pin
  have c1 := walk_ok (hdP pin) e.trunk (wf_hdP hp) hw.1 hl
  have wg : wfH (walk (hdP pin) e.trunk).1 := walk_wf _ _ (wf_hdP hp) hw.1
  have k15 : _ → chkE pin e = 15 := chk15 (pin := pin) (e := e)
  have k0 : (walk (hdP pin) e.trunk).2.2 = 0 → ¬ e.a.root = e.b.root → folE (walk (hdP pin) e.trunk).1 e.a = 0 → folE (walk (hdP pin) e.trunk).1 e.b = 0 → chkE pin e = 0 := fun h1 h2 h3 h4 => chkE_yes (okE_iff.2 ⟨h1, h3, h4, h2⟩)
  generalize (walk (hdP pin) e.trunk).1 = g at *
  generalize (walk (hdP pin) e.trunk).2.2 = r at *
  generalize ((walk (hdP pin) e.trunk).2.1 : Int) = n at *
  have fo : ∀ i : Nat, i < 2 → LocalCall Try.prog 29 [.d (hdD g), .d (sD ([e.a, e.b].getD i s0))] [] [] (one [.d (hdD (folH g ([e.a, e.b].getD i s0))), .d (.int .i64 (folE g ([e.a, e.b].getD i s0)))]) [] := fun i hi => follow_ok g _ wg (wfS_at (l := [e.a, e.b]) (fun s hs => by
    simp only [List.mem_cons, List.not_mem_nil, or_false] at hs
    rcases hs with rfl | rfl
    · exact hw.2
    · exact hw.3) hi)
  refine vc_fn mixed Try.func11 rfl rfl [] (vc_chk rfl) ?_
  repeat' (first
      | ((with_reducible refine vc_chk ?_); first | decide +kernel | rfl)
      | (with_reducible refine vc_side0 ?_; rfl)
      | (with_reducible first
           | refine vc_true ?_ | refine vc_true2 ?_ | refine vc_side ?_ ?_ | refine vc_triv | refine vc_later ?_ | refine vc_caseT ?_ | refine vc_caseF ?_ | refine vc_cons ?_ | refine vc_nil ?_ ?_ | refine vc_seq ?_
              | refine vc_region ?_ | refine vc_cond ?_ | refine vc_block ?_ | refine vc_retc ?_ | refine vc_exit ?_ | refine vc_skip ?_ | refine vc_scope ?_ | refine vc_label ?_ | refine vc_goto ?_ | refine vc_wkSl0
              | refine vc_wkHp0 | refine vc_eqAVs0 | refine vc_preG0 | refine vc_wkSl ?_ ?_ | refine vc_wkHp ?_ ?_ | refine vc_eqAVs ?_ ?_ | refine vc_preG ?_ ?_ | refine vc_side0 ?_ | refine vc_pure c0 ?_ ?_ ?_
              | refine vc_pure c1 ?_ ?_ ?_ | refine vc_call [] (fo i (by omega)) ?_
              | refine vc_loopI 51 (fun (i : Nat) => [(5, .ptr 2036 []), (36, .sl 5016 [] 98 0 2), (37, .d (.int .i64 2)), (38, .d (.int .i64 (i : Int)))]) (fun i => [(2036, .var (.d (hdD g))), (5016, .row 98 [sD e.a, sD e.b])]) (fun i => 2 - i) (fun i => i ≤ 2 ∧ ∀ j, j < i → folE g ([e.a, e.b].getD j s0) = 0) 0 [] ?_ ?_ ?_ ?_ ?_ (fun i hI => ?_)
              | refine vc_nextI (i + 1) [] ?_ ?_ ?_ ?_ ?_ ?_ | refine vc_weakf [] ?_ ?_ ?_ | refine vc_and ?_ ?_ | refine vc_ret [] [] ?_)
      | ((with_reducible first | refine vc_caseD (fun h => ?_) (fun h => ?_) | refine vc_caseN (fun h => ?_) (fun h => ?_)) <;> try (exfalso; omega))
      | ((with_reducible refine vc_case (fun h => ?_) (fun h => ?_)) <;> (try simp only [Go.Sym.vs1, reduceCtorEq] at h) <;> try (exfalso; first | omega | (simp at h; done)))
      | (conv in Vc _ => arg 1; whnf
         first
          | (with_reducible refine vc_side0 ?_; rfl)
          | (with_reducible first
              | refine vc_true ?_ | refine vc_true2 ?_ | refine vc_side ?_ ?_ | refine vc_triv | refine vc_later ?_ | refine vc_caseT ?_ | refine vc_caseF ?_ | refine vc_cons ?_ | refine vc_nil ?_ ?_ | refine vc_seq ?_
                 | refine vc_region ?_ | refine vc_cond ?_ | refine vc_block ?_ | refine vc_retc ?_ | refine vc_exit ?_ | refine vc_skip ?_ | refine vc_scope ?_ | refine vc_label ?_ | refine vc_goto ?_ | refine vc_wkSl0
                 | refine vc_wkHp0 | refine vc_eqAVs0 | refine vc_preG0 | refine vc_wkSl ?_ ?_ | refine vc_wkHp ?_ ?_ | refine vc_eqAVs ?_ ?_ | refine vc_preG ?_ ?_ | refine vc_side0 ?_ | refine vc_pure c0 ?_ ?_ ?_
                 | refine vc_pure c1 ?_ ?_ ?_ | refine vc_call [] (fo i (by omega)) ?_
                 | refine vc_loopI 51 (fun (i : Nat) => [(5, .ptr 2036 []), (36, .sl 5016 [] 98 0 2), (37, .d (.int .i64 2)), (38, .d (.int .i64 (i : Int)))]) (fun i => [(2036, .var (.d (hdD g))), (5016, .row 98 [sD e.a, sD e.b])]) (fun i => 2 - i) (fun i => i ≤ 2 ∧ ∀ j, j < i → folE g ([e.a, e.b].getD j s0) = 0) 0 [] ?_ ?_ ?_ ?_ ?_ (fun i hI => ?_)
                 | refine vc_nextI (i + 1) [] ?_ ?_ ?_ ?_ ?_ ?_ | refine vc_weakf [] ?_ ?_ ?_ | refine vc_and ?_ ?_ | refine vc_ret [] [] ?_)
          | ((with_reducible first | refine vc_caseD (fun h => ?_) (fun h => ?_) | refine vc_caseN (fun h => ?_) (fun h => ?_)) <;> try (exfalso; omega))
          | ((with_reducible refine vc_case (fun h => ?_) (fun h => ?_)) <;> (try simp only [Go.Sym.vs1, reduceCtorEq] at h) <;> try (exfalso; first | omega | (simp at h; done)))))
  all_goals first
    | with_reducible rfl
    | omega
    | exact ⟨by decide +kernel, fits_root 5 _, fits_root 5 _⟩
    | exact ⟨Nat.zero_le _, fun j hj => absurd hj (Nat.not_lt_zero j)⟩
    | exact ⟨by omega, by rw [two_len]; omega⟩
    | exact ⟨⟨by rw [two_len]; omega, trivial⟩, by rw [Nat.zero_add, Int.toNat_natCast, two_at _ _ (by omega)]; rfl⟩
    | (show D.st _ = sD _; simp only [Nat.zero_add, Int.toNat_natCast, two_at _ _ (show i < 2 by omega)]; rfl)
    | exact ⟨by omega, fol_more hI.2 (by assumption)⟩
    | (rw [wrap64_id (by omega) (by omega)]; rfl)
    | (rcases two_i (show i < 2 by omega) with e | e <;> subst e <;> first
       | exact congrArg (D.int .i64) (k15 (.inr (.inr (.inl (by assumption))))).symm
       | exact congrArg (D.int .i64) (k15 (.inr (.inr (.inr (by assumption))))).symm)
    | exact congrArg (D.int .i64) (k0 (by assumption) (rtOff (by assumption)) (hI.2 0 (by omega)) (hI.2 1 (by omega))).symm
    | exact congrArg (D.int .i64) (k15 (.inl (by assumption))).symm
    | exact congrArg (D.int .i64) (k15 (.inr (.inl (rtNo (by assumption))))).symm
    | exact congrArg (D.int .i64) (k15 (.inr (.inr (.inl (by assumption))))).symm
    | exact congrArg (D.int .i64) (k15 (.inr (.inr (.inr (by assumption))))).symm
    | exact congrArg (D.int .i64) (k0 (by assumption) (rtOff (by assumption)) (by assumption) (by assumption)).symm
    | rfl
    | trace_state

theorem rEcheck_ok : LocalCall Try.prog 12 [.d (digD pin), .d (eD e)] [] [] (one [.d (.int .i64 (chkE pin e))]) [] := by
  have c1 := rWalk_ok (hdP pin) e.trunk (wf_hdP hp) hw.1 hl
  have wg : wfH (walk (hdP pin) e.trunk).1 := walk_wf _ _ (wf_hdP hp) hw.1
  have k15 : _ → chkE pin e = 15 := chk15 (pin := pin) (e := e)
  have k0 : (walk (hdP pin) e.trunk).2.2 = 0 → ¬ e.a.root = e.b.root → folE (walk (hdP pin) e.trunk).1 e.a = 0 → folE (walk (hdP pin) e.trunk).1 e.b = 0 → chkE pin e = 0 := fun h1 h2 h3 h4 => chkE_yes (okE_iff.2 ⟨h1, h3, h4, h2⟩)
  generalize (walk (hdP pin) e.trunk).1 = g at *
  generalize (walk (hdP pin) e.trunk).2.2 = r at *
  generalize ((walk (hdP pin) e.trunk).2.1 : Int) = n at *
  have fa := rFollow_ok g e.a wg hw.2
  have fb := rFollow_ok g e.b wg hw.3
  refine vc_fn mixed Try.func12 rfl rfl [] (vc_chk rfl) ?_
  repeat' (first
      | ((with_reducible refine vc_chk ?_); first | decide +kernel | rfl)
      | (with_reducible refine vc_side0 ?_; rfl)
      | (with_reducible first
           | refine vc_true ?_ | refine vc_true2 ?_ | refine vc_side ?_ ?_ | refine vc_triv | refine vc_later ?_ | refine vc_caseT ?_ | refine vc_caseF ?_ | refine vc_cons ?_ | refine vc_nil ?_ ?_ | refine vc_seq ?_
              | refine vc_region ?_ | refine vc_cond ?_ | refine vc_block ?_ | refine vc_retc ?_ | refine vc_exit ?_ | refine vc_skip ?_ | refine vc_scope ?_ | refine vc_label ?_ | refine vc_goto ?_ | refine vc_wkSl0
              | refine vc_wkHp0 | refine vc_eqAVs0 | refine vc_preG0 | refine vc_wkSl ?_ ?_ | refine vc_wkHp ?_ ?_ | refine vc_eqAVs ?_ ?_ | refine vc_preG ?_ ?_ | refine vc_side0 ?_ | refine vc_call [] c1 ?_
              | refine vc_pure fa ?_ ?_ ?_ | refine vc_pure fb ?_ ?_ ?_ | refine vc_weakf [] ?_ ?_ ?_ | refine vc_and ?_ ?_ | refine vc_ret [] [] ?_)
      | ((with_reducible first | refine vc_caseD (fun h => ?_) (fun h => ?_) | refine vc_caseN (fun h => ?_) (fun h => ?_)) <;> try (exfalso; omega))
      | ((with_reducible refine vc_case (fun h => ?_) (fun h => ?_)) <;> (try simp only [Go.Sym.vs1, reduceCtorEq] at h) <;> try (exfalso; first | omega | (simp at h; done)))
      | (conv in Vc _ => arg 1; whnf
         first
          | (with_reducible refine vc_side0 ?_; rfl)
          | (with_reducible first
              | refine vc_true ?_ | refine vc_true2 ?_ | refine vc_side ?_ ?_ | refine vc_triv | refine vc_later ?_ | refine vc_caseT ?_ | refine vc_caseF ?_ | refine vc_cons ?_ | refine vc_nil ?_ ?_ | refine vc_seq ?_
                 | refine vc_region ?_ | refine vc_cond ?_ | refine vc_block ?_ | refine vc_retc ?_ | refine vc_exit ?_ | refine vc_skip ?_ | refine vc_scope ?_ | refine vc_label ?_ | refine vc_goto ?_ | refine vc_wkSl0
                 | refine vc_wkHp0 | refine vc_eqAVs0 | refine vc_preG0 | refine vc_wkSl ?_ ?_ | refine vc_wkHp ?_ ?_ | refine vc_eqAVs ?_ ?_ | refine vc_preG ?_ ?_ | refine vc_side0 ?_ | refine vc_call [] c1 ?_
                 | refine vc_pure fa ?_ ?_ ?_ | refine vc_pure fb ?_ ?_ ?_ | refine vc_weakf [] ?_ ?_ ?_ | refine vc_and ?_ ?_ | refine vc_ret [] [] ?_)
          | ((with_reducible first | refine vc_caseD (fun h => ?_) (fun h => ?_) | refine vc_caseN (fun h => ?_) (fun h => ?_)) <;> try (exfalso; omega))
          | ((with_reducible refine vc_case (fun h => ?_) (fun h => ?_)) <;> (try simp only [Go.Sym.vs1, reduceCtorEq] at h) <;> try (exfalso; first | omega | (simp at h; done)))))
  all_goals first
    | with_reducible rfl
    | omega
    | exact ⟨by decide +kernel, fits_root 5 _, fits_root 5 _⟩
    | exact congrArg (D.int .i64) (k15 (.inl (by assumption))).symm
    | exact congrArg (D.int .i64) (k15 (.inr (.inl (rtNo (by assumption))))).symm
    | exact congrArg (D.int .i64) (k15 (.inr (.inr (.inl (by assumption))))).symm
    | exact congrArg (D.int .i64) (k15 (.inr (.inr (.inr (by assumption))))).symm
    | exact congrArg (D.int .i64) (k0 (by assumption) (rtOff (by assumption)) (by assumption) (by assumption)).symm
    | rfl
    | trace_state
end

theorem esgn_more {l m : List Sgn} {i : Nat} (h : ∀ j, j < i → l.getD j s0 = m.getD j s0) (hp : l.getD i s0 = m.getD i s0) : ∀ j, j < i + 1 → l.getD j s0 = m.getD j s0 := fun j hj => by
  by_cases e : j = i
  · subst e; exact hp
  · exact h j (by omega)
theorem sgn_ext2 {l m : List Sgn} {i : Nat} (hl : l.length = m.length) (hi : l.length ≤ i) (h : ∀ j, j < i → l.getD j s0 = m.getD j s0) : l = m := by
  apply List.ext_getElem hl
  intro j h1 h2
  have := h j (by omega)
  rwa [List.getD_eq_getElem?_getD, List.getElem?_eq_getElem h1, List.getD_eq_getElem?_getD, List.getElem?_eq_getElem h2] at this

theorem sameE_ok (x y : Evd) (hl : x.trunk.length < 2 ^ 63) : LocalCall Try.prog 17 [.d (eD x), .d (eD y)] [] [] (one [.d (.bool (decide (x = y)))]) [] := by
  have lx : (x.trunk.map sD).length = x.trunk.length := List.length_map _
  have ly : (y.trunk.map sD).length = y.trunk.length := List.length_map _
  have c1 := sameSgn_ok x.a y.a
  have c2 := sameSgn_ok x.b y.b
  have c3 : ∀ i : Nat, _ := fun i => sameSgn_ok (x.trunk.getD i s0) (y.trunk.getD i s0)
  refine vc_fn mixed Try.func17 rfl rfl [] (vc_chk rfl) ?_
  repeat' (first
      | ((with_reducible refine vc_chk ?_); first | decide +kernel | rfl)
      | (with_reducible refine vc_side0 ?_; rfl)
      | (with_reducible first
           | refine vc_true ?_ | refine vc_true2 ?_ | refine vc_side ?_ ?_ | refine vc_triv | refine vc_later ?_ | refine vc_caseT ?_ | refine vc_caseF ?_ | refine vc_cons ?_ | refine vc_nil ?_ ?_ | refine vc_seq ?_
              | refine vc_region ?_ | refine vc_cond ?_ | refine vc_block ?_ | refine vc_retc ?_ | refine vc_exit ?_ | refine vc_skip ?_ | refine vc_scope ?_ | refine vc_label ?_ | refine vc_goto ?_ | refine vc_wkSl0
              | refine vc_wkHp0 | refine vc_eqAVs0 | refine vc_preG0 | refine vc_wkSl ?_ ?_ | refine vc_wkHp ?_ ?_ | refine vc_eqAVs ?_ ?_ | refine vc_preG ?_ ?_ | refine vc_side0 ?_ | refine vc_pure c1 ?_ ?_ ?_
              | refine vc_pure c2 ?_ ?_ ?_ | refine vc_call [] (c3 i) ?_
              | refine vc_loopI 48 (fun (i : Nat) => [(2, .ptr 1000 []), (3, .ptr 1004 []), (5, .d (.int .i64 (i : Int)))]) (fun _ => [(1000, .var (.d (eD x))), (1004, .var (.d (eD y)))]) (fun i => x.trunk.length - i) (fun i => i ≤ x.trunk.length ∧ ∀ j, j < i → x.trunk.getD j s0 = y.trunk.getD j s0) 0 [] ?_ ?_ ?_ ?_ ?_ (fun i hI => ?_)
              | refine vc_nextI (i + 1) [] ?_ ?_ ?_ ?_ ?_ ?_ | refine vc_weakf [] ?_ ?_ ?_ | refine vc_and ?_ ?_ | refine vc_ret [] [] ?_)
      | ((with_reducible first | refine vc_caseD (fun h => ?_) (fun h => ?_) | refine vc_caseN (fun h => ?_) (fun h => ?_)) <;> try (exfalso; omega))
      | ((with_reducible refine vc_case (fun h => ?_) (fun h => ?_)) <;> (try simp only [Go.Sym.vs1, reduceCtorEq] at h) <;> try (exfalso; first | omega | (simp at h; done)))
      | (conv in Vc _ => arg 1; whnf
         first
          | (with_reducible refine vc_side0 ?_; rfl)
          | (with_reducible first
              | refine vc_true ?_ | refine vc_true2 ?_ | refine vc_side ?_ ?_ | refine vc_triv | refine vc_later ?_ | refine vc_caseT ?_ | refine vc_caseF ?_ | refine vc_cons ?_ | refine vc_nil ?_ ?_ | refine vc_seq ?_
                 | refine vc_region ?_ | refine vc_cond ?_ | refine vc_block ?_ | refine vc_retc ?_ | refine vc_exit ?_ | refine vc_skip ?_ | refine vc_scope ?_ | refine vc_label ?_ | refine vc_goto ?_ | refine vc_wkSl0
                 | refine vc_wkHp0 | refine vc_eqAVs0 | refine vc_preG0 | refine vc_wkSl ?_ ?_ | refine vc_wkHp ?_ ?_ | refine vc_eqAVs ?_ ?_ | refine vc_preG ?_ ?_ | refine vc_side0 ?_ | refine vc_pure c1 ?_ ?_ ?_
                 | refine vc_pure c2 ?_ ?_ ?_ | refine vc_call [] (c3 i) ?_
                 | refine vc_loopI 48 (fun (i : Nat) => [(2, .ptr 1000 []), (3, .ptr 1004 []), (5, .d (.int .i64 (i : Int)))]) (fun _ => [(1000, .var (.d (eD x))), (1004, .var (.d (eD y)))]) (fun i => x.trunk.length - i) (fun i => i ≤ x.trunk.length ∧ ∀ j, j < i → x.trunk.getD j s0 = y.trunk.getD j s0) 0 [] ?_ ?_ ?_ ?_ ?_ (fun i hI => ?_)
                 | refine vc_nextI (i + 1) [] ?_ ?_ ?_ ?_ ?_ ?_ | refine vc_weakf [] ?_ ?_ ?_ | refine vc_and ?_ ?_ | refine vc_ret [] [] ?_)
          | ((with_reducible first | refine vc_caseD (fun h => ?_) (fun h => ?_) | refine vc_caseN (fun h => ?_) (fun h => ?_)) <;> try (exfalso; omega))
          | ((with_reducible refine vc_case (fun h => ?_) (fun h => ?_)) <;> (try simp only [Go.Sym.vs1, reduceCtorEq] at h) <;> try (exfalso; first | omega | (simp at h; done)))))
  all_goals first
    | with_reducible rfl
    | omega
    | exact ⟨trivial, trivial, trivial⟩
    | exact ⟨Nat.zero_le _, fun j hj => absurd hj (Nat.not_lt_zero j)⟩
    | (rw [decide_eq_false (fun e => h (by rw [e]))]; first | done | rfl)
    | exact ⟨⟨by omega, by omega⟩, by rw [Int.toNat_natCast, sgn_at (by omega)]; rfl⟩
    | (show D.st _ = sD _; simp only [Int.toNat_natCast, sgn_at (show i < x.trunk.length by omega)]; rfl)
    | (show D.st _ = sD _; simp only [Int.toNat_natCast, sgn_at (show i < y.trunk.length by omega)]; rfl)
    | exact ⟨by omega, esgn_more hI.2 (by assumption)⟩
    | (rw [wrap64_id (by omega) (by omega)]; rfl)
    | (rw [decide_eq_true ((evd_ext x y).2 ⟨sgn_ext2 (by omega) (by omega) hI.2, by assumption, by assumption⟩)]; done)
    | rfl
    | trace_state

end Go.Proofs.Ytcdjheiccefcdaa

/-
What the references of the record layer write.
-/
set_option linter.unusedSimpArgs false
set_option linter.unusedVariables false
namespace Go.Proofs.Ytcdjheiccefcdaa
open Go.Sym
set_option maxRecDepth 10000
set_option maxHeartbeats 8000000

theorem cut32 {d : List UInt8} (h : d.length = 32) : cutD (d.map byteD) 0 32 = d.map byteD := by
  unfold cutD
  rw [List.take_of_length_le (by rw [List.length_map, h]; decide)]; rfl

theorem rSgnW (s : Sgn) (he : s.root.epoch < 2 ^ 64) (h1 : s.root.prev.length = 32) (h2 : s.root.tree.length = 32) (h3 : s.root.next.length = 32) (hr : (sgnB s).length ≤ 2 ^ 30) : LocalCall Try.prog 36 [.d (sD s)] [] [] (one [.d (.sl ((sgnB s).map byteD))]) [] := by
  have hl := hr
  unfold sgnB at hl
  simp only [List.length_append] at hl
  have c0 := rNum_ok _ s.root.epoch rfl he
  have c1 := rText_b s.sig (room30 rfl (by omega))
  have ef : [numB s.root.epoch, s.root.prev, s.root.tree, s.root.next, textB s.sig].flatten = sgnB s := by simp [sgnB]
  have c4 := join_b [numB s.root.epoch, s.root.prev, s.root.tree, s.root.next, textB s.sig] (by simp) (by rw [ef]; exact room30 rfl hr)
  rw [ef] at c4
  have e1 : cutD (s.root.prev.map byteD) 0 ((32 : Nat) : Int) = s.root.prev.map byteD := cut32 h1
  have e2 : cutD (s.root.tree.map byteD) 0 ((32 : Nat) : Int) = s.root.tree.map byteD := cut32 h2
  have e3 : cutD (s.root.next.map byteD) 0 ((32 : Nat) : Int) = s.root.next.map byteD := cut32 h3
  refine vc_fn mixed Try.func36 rfl rfl [(1, [500001])] (vc_chk rfl) ?_
  repeat' (first
      | ((with_reducible refine vc_chk ?_); first | decide +kernel | rfl)
      | (with_reducible refine vc_side0 ?_; rfl)
      | (with_reducible first
           | refine vc_true ?_ | refine vc_true2 ?_ | refine vc_side ?_ ?_ | refine vc_triv | refine vc_later ?_ | refine vc_caseT ?_ | refine vc_caseF ?_ | refine vc_cons ?_ | refine vc_nil ?_ ?_ | refine vc_seq ?_
              | refine vc_region ?_ | refine vc_cond ?_ | refine vc_block ?_ | refine vc_retc ?_ | refine vc_exit ?_ | refine vc_skip ?_ | refine vc_scope ?_ | refine vc_label ?_ | refine vc_goto ?_ | refine vc_wkSl0
              | refine vc_wkHp0 | refine vc_eqAVs0 | refine vc_preG0 | refine vc_wkSl ?_ ?_ | refine vc_wkHp ?_ ?_ | refine vc_eqAVs ?_ ?_ | refine vc_preG ?_ ?_ | refine vc_side0 ?_ | refine vc_pure c0 ?_ ?_ ?_
              | refine vc_pure c1 ?_ ?_ ?_ | refine vc_call [true] c4 ?_ | refine vc_weakf [] ?_ ?_ ?_ | refine vc_and ?_ ?_ | refine vc_ret [] [] ?_)
      | ((with_reducible first | refine vc_caseD (fun h => ?_) (fun h => ?_) | refine vc_caseN (fun h => ?_) (fun h => ?_)) <;> try (exfalso; omega))
      | ((with_reducible refine vc_case (fun h => ?_) (fun h => ?_)) <;> (try simp only [Go.Sym.vs1, reduceCtorEq] at h) <;> try (exfalso; first | omega | (simp at h; done)))
      | (conv in Vc _ => arg 1; whnf
         first
          | (with_reducible refine vc_side0 ?_; rfl)
          | (with_reducible first
              | refine vc_true ?_ | refine vc_true2 ?_ | refine vc_side ?_ ?_ | refine vc_triv | refine vc_later ?_ | refine vc_caseT ?_ | refine vc_caseF ?_ | refine vc_cons ?_ | refine vc_nil ?_ ?_ | refine vc_seq ?_
                 | refine vc_region ?_ | refine vc_cond ?_ | refine vc_block ?_ | refine vc_retc ?_ | refine vc_exit ?_ | refine vc_skip ?_ | refine vc_scope ?_ | refine vc_label ?_ | refine vc_goto ?_ | refine vc_wkSl0
                 | refine vc_wkHp0 | refine vc_eqAVs0 | refine vc_preG0 | refine vc_wkSl ?_ ?_ | refine vc_wkHp ?_ ?_ | refine vc_eqAVs ?_ ?_ | refine vc_preG ?_ ?_ | refine vc_side0 ?_ | refine vc_pure c0 ?_ ?_ ?_
                 | refine vc_pure c1 ?_ ?_ ?_ | refine vc_call [true] c4 ?_ | refine vc_weakf [] ?_ ?_ ?_ | refine vc_and ?_ ?_ | refine vc_ret [] [] ?_)
          | ((with_reducible first | refine vc_caseD (fun h => ?_) (fun h => ?_) | refine vc_caseN (fun h => ?_) (fun h => ?_)) <;> try (exfalso; omega))
          | ((with_reducible refine vc_case (fun h => ?_) (fun h => ?_)) <;> (try simp only [Go.Sym.vs1, reduceCtorEq] at h) <;> try (exfalso; first | omega | (simp at h; done)))))
  all_goals first
    | rfl
    | (show D.sl [.sl ((numB s.root.epoch).map byteD), .sl (cutD (s.root.prev.map byteD) 0 ((32 : Nat) : Int)), .sl (cutD (s.root.tree.map byteD) 0 ((32 : Nat) : Int)), .sl (cutD (s.root.next.map byteD) 0 ((32 : Nat) : Int)), .sl ((textB s.sig).map byteD)] = _
       rw [e1, e2, e3]; first | done | rfl)
    | exact ⟨Nat.le_of_eq (Nat.zero_add _), trivial⟩ | exact ⟨by decide, by decide, by decide⟩ | skip

end Go.Proofs.Ytcdjheiccefcdaa

/-
Evidence's bytes, by the program and by the document.
-/
set_option linter.unusedSimpArgs false
set_option linter.unusedVariables false
namespace Go.Proofs.Ytcdjheiccefcdaa
open Go.Sym
set_option maxRecDepth 10000
set_option maxHeartbeats 4000000

theorem flat_le {M : Nat} : ∀ {vs : List (List UInt8)}, (∀ v, v ∈ vs → v.length ≤ M) → vs.flatten.length ≤ M * vs.length
  | [], _ => by simp
  | v :: vs, h => by
    have h1 := h v (by simp)
    have h2 : vs.flatten.length ≤ M * vs.length := flat_le fun w hw => h w (List.mem_cons_of_mem _ hw)
    rw [List.flatten_cons, List.length_append, List.length_cons, Nat.mul_succ]; omega
/-- Roots that may be written. -/
def fitL (l : List Sgn) : Prop := ∀ s, s ∈ l → wfS s ∧ s.sig.length ≤ 2 ^ 21
theorem fit_len {s : Sgn} (h : wfS s ∧ s.sig.length ≤ 2 ^ 21) : (sgnB s).length ≤ 2 ^ 22 := by
  have := sgnB_le h.1 (Nat.lt_of_le_of_lt h.2 (by decide))
  have := h.2
  omega
theorem room_enc {l : List Sgn} (h : fitL l) (hl : l.length ≤ 5000) : Room (encT (l.map sgnB)).length 1 := by
  have h1 : ∀ v, v ∈ l.map sgnB → v.length ≤ 2 ^ 22 := fun v hv => by
    obtain ⟨s, hs, rfl⟩ := List.mem_map.1 hv
    exact fit_len (h s hs)
  have h2 := flat_le h1
  have h3 := encT_len (fun v hv => Nat.lt_of_le_of_lt (h1 v hv) (by decide)) (show (l.map sgnB).length < 2 ^ 64 by rw [List.length_map]; omega)
  rw [List.length_map] at h2 h3
  unfold Room; omega
theorem sgnW_at {l : List Sgn} (h : fitL l) {i : Nat} (hi : i < l.length) : LocalCall Try.prog 32 [.d (sD (l.getD i s0))] [] [] (one [.d (.sl ((sgnB (l.getD i s0)).map byteD))]) [] := by
  have hs := h (l.getD i s0) (by rw [List.getD_eq_getElem?_getD, List.getElem?_eq_getElem hi]; simp)
  exact sgnW _ hs.1.1 hs.1.2 hs.1.3 hs.1.4 (Nat.le_trans (fit_len hs) (by decide))
theorem rSgnW_at {l : List Sgn} (h : fitL l) {i : Nat} (hi : i < l.length) : LocalCall Try.prog 36 [.d (sD (l.getD i s0))] [] [] (one [.d (.sl ((sgnB (l.getD i s0)).map byteD))]) [] := by
  have hs := h (l.getD i s0) (by rw [List.getD_eq_getElem?_getD, List.getElem?_eq_getElem hi]; simp)
  exact rSgnW _ hs.1.1 hs.1.2 hs.1.3 hs.1.4 (Nat.le_trans (fit_len hs) (by decide))
theorem sgB_app (l : List Sgn) {i : Nat} (hi : i < l.length) : ((l.take i).map sgnB).map tD ++ [tD (sgnB (l.getD i s0))] = ((l.take (i + 1)).map sgnB).map tD := by
  rw [List.take_add_one, List.getElem?_eq_getElem hi, List.getD_eq_getElem?_getD, List.getElem?_eq_getElem hi, List.map_append, List.map_append]; rfl

theorem room128 {n : Nat} (h : n ≤ 2 ^ 20) : Room n 128 := by unfold Room; omega
theorem room24' {n : Nat} (h : n ≤ 2 ^ 20) : Room n 24 := by unfold Room; omega
theorem sgn_size (l : List Sgn) : ∀ y, y ∈ l.map sD → y.size = 98 := fun y hy => by
  obtain ⟨s, _, rfl⟩ := List.mem_map.1 hy
  rfl
theorem bytes_ok {n : Nat} (h : n ≤ 2 ^ 20) : (128 : Int) * (n : Int) ≤ 281474976710656 := by omega
theorem cutS (l : List Sgn) (i : Nat) : cutD (l.map sD) 0 (i : Int) = (l.take i).map sD := by
  show List.drop 0 (List.take (i : Int).toNat _) = _
  rw [List.drop_zero, Int.toNat_natCast, List.map_take]
theorem copied (e : Evd) : overD (overD (List.replicate (e.trunk.length + 2) (D.zero Try.prog 8 30)) (e.trunk.map sD) 0 (min e.trunk.length (e.trunk.length + 2))) [sD e.a, sD e.b] e.trunk.length (min [sD e.a, sD e.b].length (e.trunk.length + 2 - e.trunk.length)) = (evL e).map sD := by
  have h1 : overD (List.replicate (e.trunk.length + 2) (D.zero Try.prog 8 30)) (e.trunk.map sD) 0 (min e.trunk.length (e.trunk.length + 2)) = e.trunk.map sD ++ List.replicate 2 (D.zero Try.prog 8 30) := by
    unfold overD
    rw [show min e.trunk.length (e.trunk.length + 2) = e.trunk.length by omega, List.take_zero, List.nil_append, List.take_of_length_le (by rw [List.length_map]; exact Nat.le_refl _), List.drop_replicate]
    congr 1; congr 1; omega
  rw [h1, show min [sD e.a, sD e.b].length (e.trunk.length + 2 - e.trunk.length) = 2 by show min 2 _ = 2; omega]
  unfold overD evL
  rw [List.take_left' (List.length_map _), List.drop_of_length_le (by rw [List.length_append, List.length_map, List.length_replicate]; omega), List.append_nil, List.map_append]
  rfl
theorem told (e : Evd) {i : Nat} (hi : e.trunk.length ≤ i) : D.sl (((e.trunk.take i).map sgnB).map tD ++ [D.sl ((sgnB e.a).map byteD)] ++ [D.sl ((sgnB e.b).map byteD)]) = D.sl (((evL e).map sgnB).map tD) := by
  rw [List.take_of_length_le hi]
  unfold evL
  rw [List.map_append, List.map_append, List.append_assoc]; rfl

section
variable (e : Evd) (hf : fitL (evL e)) (hl : e.trunk.length ≤ 1000)
include hf hl
theorem ebytes_ok : LocalCall Try.prog 13 [.d (eD e)] [] [] (one [.d (.sl ((evB e).map byteD))]) [] := by
  have lt : (e.trunk.map sD).length = e.trunk.length := List.length_map _
  have lv : (evL e).length = e.trunk.length + 2 := by simp [evL]
  have c1 : ∀ i, i < (evL e).length → _ := fun i hi => sgnW_at hf hi
  have w2 : IntKind.i64.wrap ((e.trunk.length : Int) + 2) = ((e.trunk.length + 2 : Nat) : Int) := by rw [wrap64_id (by omega) (by omega)]; omega
  have c2 := texts_any ((evL e).map sgnB) (room_enc hf (by omega))
  refine vc_fn mixed Try.func13 rfl rfl [(500004, [9001004])] (vc_chk rfl) ?_
  repeat' (first
      | ((with_reducible refine vc_chk ?_); first | decide +kernel | rfl)
      | (with_reducible refine vc_side0 ?_; rfl)
      | (with_reducible first
           | refine vc_true ?_ | refine vc_true2 ?_ | refine vc_side ?_ ?_ | refine vc_triv | refine vc_later ?_ | refine vc_caseT ?_ | refine vc_caseF ?_ | refine vc_cons ?_ | refine vc_nil ?_ ?_ | refine vc_seq ?_
              | refine vc_region ?_ | refine vc_cond ?_ | refine vc_block ?_ | refine vc_retc ?_ | refine vc_exit ?_ | refine vc_skip ?_ | refine vc_scope ?_ | refine vc_label ?_ | refine vc_goto ?_ | refine vc_wkSl0
              | refine vc_wkHp0 | refine vc_eqAVs0 | refine vc_preG0 | refine vc_wkSl ?_ ?_ | refine vc_wkHp ?_ ?_ | refine vc_eqAVs ?_ ?_ | refine vc_preG ?_ ?_ | refine vc_side0 ?_ | refine vc_call [] (c1 i (by omega)) ?_
              | refine vc_call [true] c2 ?_
              | refine vc_loopI 41 (fun (i : Nat) => [(4, .sl 9 [] 1 0 (((evL e).take i).map sgnB).length), (27, .sl 2016 [] 98 0 (evL e).length), (28, .d (.int .i64 ((evL e).length : Nat))), (29, .d (.int .i64 (i : Int)))]) (fun i => [(9, .row 1 ((((evL e).take i).map sgnB).map tD)), (2016, .row 98 ((evL e).map sD))]) (fun i => (evL e).length - i) (fun i => i ≤ (evL e).length) 0 [] ?_ ?_ ?_ ?_ ?_ (fun i hI => ?_)
              | refine vc_nextI (i + 1) [(9, 9016)] ?_ ?_ ?_ ?_ ?_ ?_ | refine vc_weakf [] ?_ ?_ ?_ | refine vc_and ?_ ?_ | refine vc_ret [] [] ?_)
      | ((with_reducible first | refine vc_caseD (fun h => ?_) (fun h => ?_) | refine vc_caseN (fun h => ?_) (fun h => ?_)) <;> try (exfalso; omega))
      | ((with_reducible refine vc_case (fun h => ?_) (fun h => ?_)) <;> (try simp only [Go.Sym.vs1, reduceCtorEq] at h) <;> try (exfalso; first | omega | (simp at h; done)))
      | (conv in Vc _ => arg 1; whnf
         first
          | (with_reducible refine vc_side0 ?_; rfl)
          | (with_reducible first
              | refine vc_true ?_ | refine vc_true2 ?_ | refine vc_side ?_ ?_ | refine vc_triv | refine vc_later ?_ | refine vc_caseT ?_ | refine vc_caseF ?_ | refine vc_cons ?_ | refine vc_nil ?_ ?_ | refine vc_seq ?_
                 | refine vc_region ?_ | refine vc_cond ?_ | refine vc_block ?_ | refine vc_retc ?_ | refine vc_exit ?_ | refine vc_skip ?_ | refine vc_scope ?_ | refine vc_label ?_ | refine vc_goto ?_ | refine vc_wkSl0
                 | refine vc_wkHp0 | refine vc_eqAVs0 | refine vc_preG0 | refine vc_wkSl ?_ ?_ | refine vc_wkHp ?_ ?_ | refine vc_eqAVs ?_ ?_ | refine vc_preG ?_ ?_ | refine vc_side0 ?_ | refine vc_call [] (c1 i (by omega)) ?_
                 | refine vc_call [true] c2 ?_
                 | refine vc_loopI 41 (fun (i : Nat) => [(4, .sl 9 [] 1 0 (((evL e).take i).map sgnB).length), (27, .sl 2016 [] 98 0 (evL e).length), (28, .d (.int .i64 ((evL e).length : Nat))), (29, .d (.int .i64 (i : Int)))]) (fun i => [(9, .row 1 ((((evL e).take i).map sgnB).map tD)), (2016, .row 98 ((evL e).map sD))]) (fun i => (evL e).length - i) (fun i => i ≤ (evL e).length) 0 [] ?_ ?_ ?_ ?_ ?_ (fun i hI => ?_)
                 | refine vc_nextI (i + 1) [(9, 9016)] ?_ ?_ ?_ ?_ ?_ ?_ | refine vc_weakf [] ?_ ?_ ?_ | refine vc_and ?_ ?_ | refine vc_ret [] [] ?_)
          | ((with_reducible first | refine vc_caseD (fun h => ?_) (fun h => ?_) | refine vc_caseN (fun h => ?_) (fun h => ?_)) <;> try (exfalso; omega))
          | ((with_reducible refine vc_case (fun h => ?_) (fun h => ?_)) <;> (try simp only [Go.Sym.vs1, reduceCtorEq] at h) <;> try (exfalso; first | omega | (simp at h; done)))))
  all_goals (try simp only [List.length_replicate, List.length_map, w2, Nat.zero_add, Int.toNat_natCast, List.nil_append, List.drop_zero, List.take_length, Nat.sub_zero])
  all_goals first
    | with_reducible rfl
    | omega
    | exact ⟨by omega, by omega, bytes_ok (by omega), by omega⟩
    | exact ⟨⟨trivial, Nat.le_refl _⟩, sgn_size _⟩
    | exact ⟨by omega, by omega, Nat.le_refl _⟩
    | exact ⟨by omega, by omega⟩
    | exact ⟨⟨Nat.le_refl _, by rw [overD_length (by rw [List.length_replicate]; omega) (by rw [List.length_map]; omega), List.length_replicate]; omega⟩, sgn_size [e.a, e.b]⟩
    | exact congrArg (D.int .i64) (by omega)
    | exact copied e
    | exact ⟨⟨by omega, trivial⟩, by rw [sgn_at (by omega)]; rfl⟩
    | exact ⟨⟨by omega, by omega⟩, by rw [sgn_at (by omega)]; rfl⟩
    | (show D.st _ = sD _; rw [sgn_at (by omega)]; rfl)
    | exact ⟨⟨Nat.le_refl _, by first | trivial | rfl, room24' (by simp only [List.length_append, List.length_map, List.length_take, List.length_cons, List.length_nil]; omega)⟩, fun y hy => (by rw [List.mem_singleton.1 hy]; rfl)⟩
    | exact sgB_app _ (by omega)
    | (rw [List.length_append, List.length_map, List.length_map, List.length_take, List.length_take]; show _ + 1 = _; omega)
    | (rw [wrap64_id (by omega) (by omega)]; rfl)
    | exact ⟨Nat.le_refl _, trivial⟩
    | (rw [show List.take i (evL e) = evL e from List.take_of_length_le (by omega)]; first | done | (rw [← List.length_map (f := sgnB), ← List.length_map (f := tD), List.take_length]; done) | rfl)
    | exact told e (by omega)
    | rfl
    | trace_state

theorem rEbytes_ok : LocalCall Try.prog 16 [.d (eD e)] [] [] (one [.d (.sl ((evB e).map byteD))]) [] := by
  have lt : (e.trunk.map sD).length = e.trunk.length := List.length_map _
  have lv : (evL e).length = e.trunk.length + 2 := by simp [evL]
  have ft : fitL e.trunk := fun s hs => hf s (List.mem_append_left _ hs)
  have c1 : ∀ i, i < e.trunk.length → _ := fun i hi => rSgnW_at ft hi
  have fa : LocalCall Try.prog 36 [.d (sD e.a)] [] [] (one [.d (.sl ((sgnB e.a).map byteD))]) [] := rSgnW_at (l := [e.a]) (fun s hs => hf s (by rw [List.mem_singleton.1 hs]; simp [evL])) (i := 0) (Nat.zero_lt_one)
  have fb : LocalCall Try.prog 36 [.d (sD e.b)] [] [] (one [.d (.sl ((sgnB e.b).map byteD))]) [] := rSgnW_at (l := [e.b]) (fun s hs => hf s (by rw [List.mem_singleton.1 hs]; simp [evL])) (i := 0) (Nat.zero_lt_one)
  have c2 := refTs_ok ((evL e).map sgnB) (by rw [List.length_map]; omega) (room_enc hf (by omega))
  refine vc_fn mixed Try.func16 rfl rfl [(500001, [9001003])] (vc_chk rfl) ?_
  repeat' (first
      | ((with_reducible refine vc_chk ?_); first | decide +kernel | rfl)
      | (with_reducible refine vc_side0 ?_; rfl)
      | (with_reducible first
           | refine vc_true ?_ | refine vc_true2 ?_ | refine vc_side ?_ ?_ | refine vc_triv | refine vc_later ?_ | refine vc_caseT ?_ | refine vc_caseF ?_ | refine vc_cons ?_ | refine vc_nil ?_ ?_ | refine vc_seq ?_
              | refine vc_region ?_ | refine vc_cond ?_ | refine vc_block ?_ | refine vc_retc ?_ | refine vc_exit ?_ | refine vc_skip ?_ | refine vc_scope ?_ | refine vc_label ?_ | refine vc_goto ?_ | refine vc_wkSl0
              | refine vc_wkHp0 | refine vc_eqAVs0 | refine vc_preG0 | refine vc_wkSl ?_ ?_ | refine vc_wkHp ?_ ?_ | refine vc_eqAVs ?_ ?_ | refine vc_preG ?_ ?_ | refine vc_side0 ?_ | refine vc_pure fa ?_ ?_ ?_
              | refine vc_pure fb ?_ ?_ ?_ | refine vc_call [] (c1 i (by omega)) ?_ | refine vc_call [true] c2 ?_
              | refine vc_loopI 35 (fun (i : Nat) => [(1, .ptr 1000 []), (3, .sl 9 [] 1 0 ((e.trunk.take i).map sgnB).length), (4, .d (.int .i64 (i : Int)))]) (fun i => [(1000, .var (.d (eD e))), (9, .row 1 (((e.trunk.take i).map sgnB).map tD))]) (fun i => e.trunk.length - i) (fun i => i ≤ e.trunk.length) 0 [] ?_ ?_ ?_ ?_ ?_ (fun i hI => ?_)
              | refine vc_nextI (i + 1) [(9, 6032)] ?_ ?_ ?_ ?_ ?_ ?_ | refine vc_weakf [] ?_ ?_ ?_ | refine vc_and ?_ ?_ | refine vc_ret [] [] ?_)
      | ((with_reducible first | refine vc_caseD (fun h => ?_) (fun h => ?_) | refine vc_caseN (fun h => ?_) (fun h => ?_)) <;> try (exfalso; omega))
      | ((with_reducible refine vc_case (fun h => ?_) (fun h => ?_)) <;> (try simp only [Go.Sym.vs1, reduceCtorEq] at h) <;> try (exfalso; first | omega | (simp at h; done)))
      | (conv in Vc _ => arg 1; whnf
         first
          | (with_reducible refine vc_side0 ?_; rfl)
          | (with_reducible first
              | refine vc_true ?_ | refine vc_true2 ?_ | refine vc_side ?_ ?_ | refine vc_triv | refine vc_later ?_ | refine vc_caseT ?_ | refine vc_caseF ?_ | refine vc_cons ?_ | refine vc_nil ?_ ?_ | refine vc_seq ?_
                 | refine vc_region ?_ | refine vc_cond ?_ | refine vc_block ?_ | refine vc_retc ?_ | refine vc_exit ?_ | refine vc_skip ?_ | refine vc_scope ?_ | refine vc_label ?_ | refine vc_goto ?_ | refine vc_wkSl0
                 | refine vc_wkHp0 | refine vc_eqAVs0 | refine vc_preG0 | refine vc_wkSl ?_ ?_ | refine vc_wkHp ?_ ?_ | refine vc_eqAVs ?_ ?_ | refine vc_preG ?_ ?_ | refine vc_side0 ?_ | refine vc_pure fa ?_ ?_ ?_
                 | refine vc_pure fb ?_ ?_ ?_ | refine vc_call [] (c1 i (by omega)) ?_ | refine vc_call [true] c2 ?_
                 | refine vc_loopI 35 (fun (i : Nat) => [(1, .ptr 1000 []), (3, .sl 9 [] 1 0 ((e.trunk.take i).map sgnB).length), (4, .d (.int .i64 (i : Int)))]) (fun i => [(1000, .var (.d (eD e))), (9, .row 1 (((e.trunk.take i).map sgnB).map tD))]) (fun i => e.trunk.length - i) (fun i => i ≤ e.trunk.length) 0 [] ?_ ?_ ?_ ?_ ?_ (fun i hI => ?_)
                 | refine vc_nextI (i + 1) [(9, 6032)] ?_ ?_ ?_ ?_ ?_ ?_ | refine vc_weakf [] ?_ ?_ ?_ | refine vc_and ?_ ?_ | refine vc_ret [] [] ?_)
          | ((with_reducible first | refine vc_caseD (fun h => ?_) (fun h => ?_) | refine vc_caseN (fun h => ?_) (fun h => ?_)) <;> try (exfalso; omega))
          | ((with_reducible refine vc_case (fun h => ?_) (fun h => ?_)) <;> (try simp only [Go.Sym.vs1, reduceCtorEq] at h) <;> try (exfalso; first | omega | (simp at h; done)))))
  all_goals (try simp only [List.length_replicate, List.length_map, Nat.zero_add, Int.toNat_natCast, List.nil_append, List.drop_zero, List.take_length, Nat.sub_zero])
  all_goals first
    | with_reducible rfl
    | omega
    | exact ⟨by omega, by omega, bytes_ok (by omega), by omega⟩
    | exact ⟨⟨trivial, Nat.le_refl _⟩, sgn_size _⟩
    | exact ⟨by omega, by omega, Nat.le_refl _⟩
    | exact ⟨by omega, by omega⟩
    | exact ⟨⟨Nat.le_refl _, by rw [overD_length (by rw [List.length_replicate]; omega) (by rw [List.length_map]; omega), List.length_replicate]; omega⟩, sgn_size [e.a, e.b]⟩
    | exact congrArg (D.int .i64) (by omega)
    | exact copied e
    | exact ⟨⟨by omega, trivial⟩, by rw [sgn_at (by omega)]; rfl⟩
    | exact ⟨⟨by omega, by omega⟩, by rw [sgn_at (by omega)]; rfl⟩
    | (show D.st _ = sD _; rw [sgn_at (by omega)]; rfl)
    | exact ⟨⟨Nat.le_refl _, by first | trivial | rfl, room24' (by simp only [List.length_append, List.length_map, List.length_take, List.length_cons, List.length_nil]; omega)⟩, fun y hy => (by rw [List.mem_singleton.1 hy]; rfl)⟩
    | exact sgB_app _ (by omega)
    | (rw [List.length_append, List.length_map, List.length_map, List.length_take, List.length_take]; show _ + 1 = _; omega)
    | (rw [wrap64_id (by omega) (by omega)]; rfl)
    | exact ⟨Nat.le_refl _, trivial⟩
    | (rw [show List.take i (evL e) = evL e from List.take_of_length_le (by omega)]; first | done | (rw [← List.length_map (f := sgnB), ← List.length_map (f := tD), List.take_length]; done) | rfl)
    | exact told e (by omega)
    | rfl
    | trace_state
end

end Go.Proofs.Ytcdjheiccefcdaa

/-
record.ReadSigned, record.ReadProof.
-/
set_option linter.unusedSimpArgs false
set_option linter.unusedVariables false
namespace Go.Proofs.Ytcdjheiccefcdaa
open Go.Sym
set_option maxRecDepth 10000
set_option maxHeartbeats 4000000

theorem sgn_cl (B : List D) (bs : List UInt8) (hB : B = bs.map byteD) (hl : bs.length < 2 ^ 63) :
    LocalE (rdSgn bs) Try.prog 83 [.ptr 9 [], .ptr 8 [], .ptr 7 []] [(9, rd B 0), (8, .var (.fn (.func 63) [])), (7, .var (.d (.st [.st [.int .u64 0, digD zero32, digD zero32, digD zero32], .nils])))] [] (fun _ => []) (fun a => [(9, rd B a.2), (7, .var (.d (sD a.1)))]) [] fault [(9, .dead), (7, .dead)] := by
  refine vc_fnE mixed Try.func83 rfl rfl [] (rdSgn bs) (vc_chk rfl) ?_
  repeat' (first
      | ((with_reducible refine vc_chk ?_); first | decide +kernel | rfl)
      | (with_reducible refine vc_side0 ?_; rfl)
      | (with_reducible first
           | refine vc_true ?_ | refine vc_true2 ?_ | refine vc_side ?_ ?_ | refine vc_triv | refine vc_later ?_ | refine vc_caseT ?_ | refine vc_caseF ?_ | refine vc_cons ?_ | refine vc_nil ?_ ?_ | refine vc_seq ?_
              | refine vc_region ?_ | refine vc_cond ?_ | refine vc_block ?_ | refine vc_retc ?_ | refine vc_exit ?_ | refine vc_skip ?_ | refine vc_scope ?_ | refine vc_label ?_ | refine vc_goto ?_ | refine vc_wkSl0
              | refine vc_wkHp0 | refine vc_eqAVs0 | refine vc_preG0 | refine vc_wkSl ?_ ?_ | refine vc_wkHp ?_ ?_ | refine vc_eqAVs ?_ ?_ | refine vc_preG ?_ ?_ | refine vc_side0 ?_
              | refine vc_eAt [] 9 (by with_unfolding_all rfl) (sgn_in B bs hB hl) (fun a h => ?_) (fun h => ?_) | refine vc_ek a h ?_ | refine vc_ep h ?_ | refine vc_panc [] [7] ?_ ?_ | refine vc_weakf [] ?_ ?_ ?_
              | refine vc_and ?_ ?_ | refine vc_ret [] [] ?_)
      | ((with_reducible first | refine vc_caseD (fun h => ?_) (fun h => ?_) | refine vc_caseN (fun h => ?_) (fun h => ?_)) <;> try (exfalso; omega))
      | ((with_reducible refine vc_case (fun h => ?_) (fun h => ?_)) <;> (try simp only [Go.Sym.vs1, reduceCtorEq] at h) <;> try (exfalso; first | omega | (simp at h; done)))
      | (conv in Vc _ => arg 1; whnf
         first
          | (with_reducible refine vc_side0 ?_; rfl)
          | (with_reducible first
              | refine vc_true ?_ | refine vc_true2 ?_ | refine vc_side ?_ ?_ | refine vc_triv | refine vc_later ?_ | refine vc_caseT ?_ | refine vc_caseF ?_ | refine vc_cons ?_ | refine vc_nil ?_ ?_ | refine vc_seq ?_
                 | refine vc_region ?_ | refine vc_cond ?_ | refine vc_block ?_ | refine vc_retc ?_ | refine vc_exit ?_ | refine vc_skip ?_ | refine vc_scope ?_ | refine vc_label ?_ | refine vc_goto ?_ | refine vc_wkSl0
                 | refine vc_wkHp0 | refine vc_eqAVs0 | refine vc_preG0 | refine vc_wkSl ?_ ?_ | refine vc_wkHp ?_ ?_ | refine vc_eqAVs ?_ ?_ | refine vc_preG ?_ ?_ | refine vc_side0 ?_
                 | refine vc_eAt [] 9 (by with_unfolding_all rfl) (sgn_in B bs hB hl) (fun a h => ?_) (fun h => ?_) | refine vc_ek a h ?_ | refine vc_ep h ?_ | refine vc_panc [] [7] ?_ ?_ | refine vc_weakf [] ?_ ?_ ?_
                 | refine vc_and ?_ ?_ | refine vc_ret [] [] ?_)
          | ((with_reducible first | refine vc_caseD (fun h => ?_) (fun h => ?_) | refine vc_caseN (fun h => ?_) (fun h => ?_)) <;> try (exfalso; omega))
          | ((with_reducible refine vc_case (fun h => ?_) (fun h => ?_)) <;> (try simp only [Go.Sym.vs1, reduceCtorEq] at h) <;> try (exfalso; first | omega | (simp at h; done)))))
  all_goals rfl

theorem sgn_yes (B : List D) (bs : List UInt8) (hB : B = bs.map byteD) (hl : bs.length < 2 ^ 63) (a : Sgn × Nat) (h : rdSgn bs = some a) (he : a.2 = bs.length) :
    LocalCall Try.prog 58 [.d (.sl B), .fn (.func 83) [.ptr 8 [], .ptr 7 []]] [(8, .var (.fn (.func 63) [])), (7, .var (.d (.st [.st [.int .u64 0, digD zero32, digD zero32, digD zero32], .nils])))] [] (one [.d (.int .i64 0)]) [(7, .var (.d (sD a.1)))] := by
  have hlen : B.length = bs.length := by rw [hB]; simp
  refine local_recovers mixed (sl2 := [(0, .d (.sl B)), (1, .fn (.func 83) [.ptr 8 [], .ptr 7 []]), (4, .ptr 1000 [])]) (hp2 := [(8, .var (.fn (.func 63) [])), (7, .var (.d (.st [.st [.int .u64 0, digD zero32, digD zero32, digD zero32], .nils]))), (1000, .var (.d (.int .i64 0)))]) (N := 1000) Try.func58 rfl rfl rfl rfl rfl rfl rfl rfl rfl rfl [] catch_idle catch_pan rfl (vc_chk rfl) rfl (by decide) (by decide) rfl ?_ ?_
  · skip
    repeat' (first
        | ((with_reducible refine vc_chk ?_); first | decide +kernel | rfl)
        | (with_reducible refine vc_side0 ?_; rfl)
        | (with_reducible first
             | refine vc_true ?_ | refine vc_true2 ?_ | refine vc_side ?_ ?_ | refine vc_triv | refine vc_later ?_ | refine vc_caseT ?_ | refine vc_caseF ?_ | refine vc_cons ?_ | refine vc_nil ?_ ?_ | refine vc_seq ?_
                | refine vc_region ?_ | refine vc_cond ?_ | refine vc_block ?_ | refine vc_retc ?_ | refine vc_exit ?_ | refine vc_skip ?_ | refine vc_scope ?_ | refine vc_label ?_ | refine vc_goto ?_ | refine vc_wkSl0
                | refine vc_wkHp0 | refine vc_eqAVs0 | refine vc_preG0 | refine vc_wkSl ?_ ?_ | refine vc_wkHp ?_ ?_ | refine vc_eqAVs ?_ ?_ | refine vc_preG ?_ ?_ | refine vc_side0 ?_ | refine vc_mid [] ?_ ?_ ?_ ?_
                | refine vc_weakf [] ?_ ?_ ?_ | refine vc_and ?_ ?_ | refine vc_ret [] [] ?_)
        | ((with_reducible first | refine vc_caseD (fun h => ?_) (fun h => ?_) | refine vc_caseN (fun h => ?_) (fun h => ?_)) <;> try (exfalso; omega))
        | ((with_reducible refine vc_case (fun h => ?_) (fun h => ?_)) <;> (try simp at h) <;> try (exfalso; omega))
        | (conv in Vc _ => arg 1; whnf
           first
            | (with_reducible refine vc_side0 ?_; rfl)
            | (with_reducible first
                | refine vc_true ?_ | refine vc_true2 ?_ | refine vc_side ?_ ?_ | refine vc_triv | refine vc_later ?_ | refine vc_caseT ?_ | refine vc_caseF ?_ | refine vc_cons ?_ | refine vc_nil ?_ ?_ | refine vc_seq ?_
                   | refine vc_region ?_ | refine vc_cond ?_ | refine vc_block ?_ | refine vc_retc ?_ | refine vc_exit ?_ | refine vc_skip ?_ | refine vc_scope ?_ | refine vc_label ?_ | refine vc_goto ?_ | refine vc_wkSl0
                   | refine vc_wkHp0 | refine vc_eqAVs0 | refine vc_preG0 | refine vc_wkSl ?_ ?_ | refine vc_wkHp ?_ ?_ | refine vc_eqAVs ?_ ?_ | refine vc_preG ?_ ?_ | refine vc_side0 ?_ | refine vc_mid [] ?_ ?_ ?_ ?_
                   | refine vc_weakf [] ?_ ?_ ?_ | refine vc_and ?_ ?_ | refine vc_ret [] [] ?_)
            | ((with_reducible first | refine vc_caseD (fun h => ?_) (fun h => ?_) | refine vc_caseN (fun h => ?_) (fun h => ?_)) <;> try (exfalso; omega))
            | ((with_reducible refine vc_case (fun h => ?_) (fun h => ?_)) <;> (try simp at h) <;> try (exfalso; omega))))
    all_goals rfl
  · have hcl := local_ren [(9, 3008)] [(3008, 9)] ((sgn_cl B bs hB hl).ok a h) rfl
    repeat' (first
        | ((with_reducible refine vc_chk ?_); first | decide +kernel | rfl)
        | (with_reducible refine vc_side0 ?_; rfl)
        | (with_reducible first
             | refine vc_true ?_ | refine vc_true2 ?_ | refine vc_side ?_ ?_ | refine vc_triv | refine vc_later ?_ | refine vc_caseT ?_ | refine vc_caseF ?_ | refine vc_cons ?_ | refine vc_nil ?_ ?_ | refine vc_seq ?_
                | refine vc_region ?_ | refine vc_cond ?_ | refine vc_block ?_ | refine vc_retc ?_ | refine vc_exit ?_ | refine vc_skip ?_ | refine vc_scope ?_ | refine vc_label ?_ | refine vc_goto ?_ | refine vc_wkSl0
                | refine vc_wkHp0 | refine vc_eqAVs0 | refine vc_preG0 | refine vc_wkSl ?_ ?_ | refine vc_wkHp ?_ ?_ | refine vc_eqAVs ?_ ?_ | refine vc_preG ?_ ?_ | refine vc_side0 ?_ | refine vc_call [] hcl ?_
                | refine vc_weakf [] ?_ ?_ ?_ | refine vc_and ?_ ?_ | refine vc_ret [] [] ?_)
        | ((with_reducible first | refine vc_caseD (fun h => ?_) (fun h => ?_) | refine vc_caseN (fun h => ?_) (fun h => ?_)) <;> try (exfalso; omega))
        | ((with_reducible refine vc_case (fun h => ?_) (fun h => ?_)) <;> (try simp at h) <;> try (exfalso; omega))
        | (conv in Vc _ => arg 1; whnf
           first
            | (with_reducible refine vc_side0 ?_; rfl)
            | (with_reducible first
                | refine vc_true ?_ | refine vc_true2 ?_ | refine vc_side ?_ ?_ | refine vc_triv | refine vc_later ?_ | refine vc_caseT ?_ | refine vc_caseF ?_ | refine vc_cons ?_ | refine vc_nil ?_ ?_ | refine vc_seq ?_
                   | refine vc_region ?_ | refine vc_cond ?_ | refine vc_block ?_ | refine vc_retc ?_ | refine vc_exit ?_ | refine vc_skip ?_ | refine vc_scope ?_ | refine vc_label ?_ | refine vc_goto ?_ | refine vc_wkSl0
                   | refine vc_wkHp0 | refine vc_eqAVs0 | refine vc_preG0 | refine vc_wkSl ?_ ?_ | refine vc_wkHp ?_ ?_ | refine vc_eqAVs ?_ ?_ | refine vc_preG ?_ ?_ | refine vc_side0 ?_ | refine vc_call [] hcl ?_
                   | refine vc_weakf [] ?_ ?_ ?_ | refine vc_and ?_ ?_ | refine vc_ret [] [] ?_)
            | ((with_reducible first | refine vc_caseD (fun h => ?_) (fun h => ?_) | refine vc_caseN (fun h => ?_) (fun h => ?_)) <;> try (exfalso; omega))
            | ((with_reducible refine vc_case (fun h => ?_) (fun h => ?_)) <;> (try simp at h) <;> try (exfalso; omega))))
    all_goals rfl

theorem sgn_more (B : List D) (bs : List UInt8) (hB : B = bs.map byteD) (hl : bs.length < 2 ^ 63) (a : Sgn × Nat) (h : rdSgn bs = some a) (he : ¬ a.2 = bs.length) :
    LocalCall Try.prog 58 [.d (.sl B), .fn (.func 83) [.ptr 8 [], .ptr 7 []]] [(8, .var (.fn (.func 63) [])), (7, .var (.d (.st [.st [.int .u64 0, digD zero32, digD zero32, digD zero32], .nils])))] [] (one [.d (.int .i64 3)]) [(7, .dead)] := by
  have hlen : B.length = bs.length := by rw [hB]; simp
  refine local_recovers mixed (sl2 := [(0, .d (.sl B)), (1, .fn (.func 83) [.ptr 8 [], .ptr 7 []]), (4, .ptr 1000 [])]) (hp2 := [(8, .var (.fn (.func 63) [])), (7, .var (.d (.st [.st [.int .u64 0, digD zero32, digD zero32, digD zero32], .nils]))), (1000, .var (.d (.int .i64 0)))]) (N := 1000) Try.func58 rfl rfl rfl rfl rfl rfl rfl rfl rfl rfl [] catch_idle catch_pan rfl (vc_chk rfl) rfl (by decide) (by decide) rfl ?_ ?_
  · skip
    repeat' (first
        | ((with_reducible refine vc_chk ?_); first | decide +kernel | rfl)
        | (with_reducible refine vc_side0 ?_; rfl)
        | (with_reducible first
             | refine vc_true ?_ | refine vc_true2 ?_ | refine vc_side ?_ ?_ | refine vc_triv | refine vc_later ?_ | refine vc_caseT ?_ | refine vc_caseF ?_ | refine vc_cons ?_ | refine vc_nil ?_ ?_ | refine vc_seq ?_
                | refine vc_region ?_ | refine vc_cond ?_ | refine vc_block ?_ | refine vc_retc ?_ | refine vc_exit ?_ | refine vc_skip ?_ | refine vc_scope ?_ | refine vc_label ?_ | refine vc_goto ?_ | refine vc_wkSl0
                | refine vc_wkHp0 | refine vc_eqAVs0 | refine vc_preG0 | refine vc_wkSl ?_ ?_ | refine vc_wkHp ?_ ?_ | refine vc_eqAVs ?_ ?_ | refine vc_preG ?_ ?_ | refine vc_side0 ?_ | refine vc_mid [] ?_ ?_ ?_ ?_
                | refine vc_weakf [] ?_ ?_ ?_ | refine vc_and ?_ ?_ | refine vc_ret [] [] ?_)
        | ((with_reducible first | refine vc_caseD (fun h => ?_) (fun h => ?_) | refine vc_caseN (fun h => ?_) (fun h => ?_)) <;> try (exfalso; omega))
        | ((with_reducible refine vc_case (fun h => ?_) (fun h => ?_)) <;> (try simp at h) <;> try (exfalso; omega))
        | (conv in Vc _ => arg 1; whnf
           first
            | (with_reducible refine vc_side0 ?_; rfl)
            | (with_reducible first
                | refine vc_true ?_ | refine vc_true2 ?_ | refine vc_side ?_ ?_ | refine vc_triv | refine vc_later ?_ | refine vc_caseT ?_ | refine vc_caseF ?_ | refine vc_cons ?_ | refine vc_nil ?_ ?_ | refine vc_seq ?_
                   | refine vc_region ?_ | refine vc_cond ?_ | refine vc_block ?_ | refine vc_retc ?_ | refine vc_exit ?_ | refine vc_skip ?_ | refine vc_scope ?_ | refine vc_label ?_ | refine vc_goto ?_ | refine vc_wkSl0
                   | refine vc_wkHp0 | refine vc_eqAVs0 | refine vc_preG0 | refine vc_wkSl ?_ ?_ | refine vc_wkHp ?_ ?_ | refine vc_eqAVs ?_ ?_ | refine vc_preG ?_ ?_ | refine vc_side0 ?_ | refine vc_mid [] ?_ ?_ ?_ ?_
                   | refine vc_weakf [] ?_ ?_ ?_ | refine vc_and ?_ ?_ | refine vc_ret [] [] ?_)
            | ((with_reducible first | refine vc_caseD (fun h => ?_) (fun h => ?_) | refine vc_caseN (fun h => ?_) (fun h => ?_)) <;> try (exfalso; omega))
            | ((with_reducible refine vc_case (fun h => ?_) (fun h => ?_)) <;> (try simp at h) <;> try (exfalso; omega))))
    all_goals rfl
  · have hcl := local_ren [(9, 3008)] [(3008, 9)] ((sgn_cl B bs hB hl).ok a h) rfl
    repeat' (first
        | ((with_reducible refine vc_chk ?_); first | decide +kernel | rfl)
        | (with_reducible refine vc_side0 ?_; rfl)
        | (with_reducible first
             | refine vc_true ?_ | refine vc_true2 ?_ | refine vc_side ?_ ?_ | refine vc_triv | refine vc_later ?_ | refine vc_caseT ?_ | refine vc_caseF ?_ | refine vc_cons ?_ | refine vc_nil ?_ ?_ | refine vc_seq ?_
                | refine vc_region ?_ | refine vc_cond ?_ | refine vc_block ?_ | refine vc_retc ?_ | refine vc_exit ?_ | refine vc_skip ?_ | refine vc_scope ?_ | refine vc_label ?_ | refine vc_goto ?_ | refine vc_wkSl0
                | refine vc_wkHp0 | refine vc_eqAVs0 | refine vc_preG0 | refine vc_wkSl ?_ ?_ | refine vc_wkHp ?_ ?_ | refine vc_eqAVs ?_ ?_ | refine vc_preG ?_ ?_ | refine vc_side0 ?_ | refine vc_call [] hcl ?_
                | refine vc_retK [] [] [7] ?_ | refine vc_weakf [] ?_ ?_ ?_ | refine vc_and ?_ ?_ | refine vc_ret [] [] ?_)
        | ((with_reducible first | refine vc_caseD (fun h => ?_) (fun h => ?_) | refine vc_caseN (fun h => ?_) (fun h => ?_)) <;> try (exfalso; omega))
        | ((with_reducible refine vc_case (fun h => ?_) (fun h => ?_)) <;> (try simp at h) <;> try (exfalso; omega))
        | (conv in Vc _ => arg 1; whnf
           first
            | (with_reducible refine vc_side0 ?_; rfl)
            | (with_reducible first
                | refine vc_true ?_ | refine vc_true2 ?_ | refine vc_side ?_ ?_ | refine vc_triv | refine vc_later ?_ | refine vc_caseT ?_ | refine vc_caseF ?_ | refine vc_cons ?_ | refine vc_nil ?_ ?_ | refine vc_seq ?_
                   | refine vc_region ?_ | refine vc_cond ?_ | refine vc_block ?_ | refine vc_retc ?_ | refine vc_exit ?_ | refine vc_skip ?_ | refine vc_scope ?_ | refine vc_label ?_ | refine vc_goto ?_ | refine vc_wkSl0
                   | refine vc_wkHp0 | refine vc_eqAVs0 | refine vc_preG0 | refine vc_wkSl ?_ ?_ | refine vc_wkHp ?_ ?_ | refine vc_eqAVs ?_ ?_ | refine vc_preG ?_ ?_ | refine vc_side0 ?_ | refine vc_call [] hcl ?_
                   | refine vc_retK [] [] [7] ?_ | refine vc_weakf [] ?_ ?_ ?_ | refine vc_and ?_ ?_ | refine vc_ret [] [] ?_)
            | ((with_reducible first | refine vc_caseD (fun h => ?_) (fun h => ?_) | refine vc_caseN (fun h => ?_) (fun h => ?_)) <;> try (exfalso; omega))
            | ((with_reducible refine vc_case (fun h => ?_) (fun h => ?_)) <;> (try simp at h) <;> try (exfalso; omega))))
    all_goals rfl

theorem sgn_not (B : List D) (bs : List UInt8) (hB : B = bs.map byteD) (hl : bs.length < 2 ^ 63) (h : rdSgn bs = none) :
    LocalCall Try.prog 58 [.d (.sl B), .fn (.func 83) [.ptr 8 [], .ptr 7 []]] [(8, .var (.fn (.func 63) [])), (7, .var (.d (.st [.st [.int .u64 0, digD zero32, digD zero32, digD zero32], .nils])))] [] (one [.d (.int .i64 3)]) [(7, .dead)] := by
  have hlen : B.length = bs.length := by rw [hB]; simp
  refine local_recovers mixed (sl2 := [(0, .d (.sl B)), (1, .fn (.func 83) [.ptr 8 [], .ptr 7 []]), (4, .ptr 1000 [])]) (hp2 := [(8, .var (.fn (.func 63) [])), (7, .var (.d (.st [.st [.int .u64 0, digD zero32, digD zero32, digD zero32], .nils]))), (1000, .var (.d (.int .i64 0)))]) (N := 1000) Try.func58 rfl rfl rfl rfl rfl rfl rfl rfl rfl rfl [] catch_idle catch_pan rfl (vc_chk rfl) rfl (by decide) (by decide) rfl ?_ ?_
  · skip
    repeat' (first
        | ((with_reducible refine vc_chk ?_); first | decide +kernel | rfl)
        | (with_reducible refine vc_side0 ?_; rfl)
        | (with_reducible first
             | refine vc_true ?_ | refine vc_true2 ?_ | refine vc_side ?_ ?_ | refine vc_triv | refine vc_later ?_ | refine vc_caseT ?_ | refine vc_caseF ?_ | refine vc_cons ?_ | refine vc_nil ?_ ?_ | refine vc_seq ?_
                | refine vc_region ?_ | refine vc_cond ?_ | refine vc_block ?_ | refine vc_retc ?_ | refine vc_exit ?_ | refine vc_skip ?_ | refine vc_scope ?_ | refine vc_label ?_ | refine vc_goto ?_ | refine vc_wkSl0
                | refine vc_wkHp0 | refine vc_eqAVs0 | refine vc_preG0 | refine vc_wkSl ?_ ?_ | refine vc_wkHp ?_ ?_ | refine vc_eqAVs ?_ ?_ | refine vc_preG ?_ ?_ | refine vc_side0 ?_ | refine vc_mid [] ?_ ?_ ?_ ?_
                | refine vc_weakf [] ?_ ?_ ?_ | refine vc_and ?_ ?_ | refine vc_ret [] [] ?_)
        | ((with_reducible first | refine vc_caseD (fun h => ?_) (fun h => ?_) | refine vc_caseN (fun h => ?_) (fun h => ?_)) <;> try (exfalso; omega))
        | ((with_reducible refine vc_case (fun h => ?_) (fun h => ?_)) <;> (try simp at h) <;> try (exfalso; omega))
        | (conv in Vc _ => arg 1; whnf
           first
            | (with_reducible refine vc_side0 ?_; rfl)
            | (with_reducible first
                | refine vc_true ?_ | refine vc_true2 ?_ | refine vc_side ?_ ?_ | refine vc_triv | refine vc_later ?_ | refine vc_caseT ?_ | refine vc_caseF ?_ | refine vc_cons ?_ | refine vc_nil ?_ ?_ | refine vc_seq ?_
                   | refine vc_region ?_ | refine vc_cond ?_ | refine vc_block ?_ | refine vc_retc ?_ | refine vc_exit ?_ | refine vc_skip ?_ | refine vc_scope ?_ | refine vc_label ?_ | refine vc_goto ?_ | refine vc_wkSl0
                   | refine vc_wkHp0 | refine vc_eqAVs0 | refine vc_preG0 | refine vc_wkSl ?_ ?_ | refine vc_wkHp ?_ ?_ | refine vc_eqAVs ?_ ?_ | refine vc_preG ?_ ?_ | refine vc_side0 ?_ | refine vc_mid [] ?_ ?_ ?_ ?_
                   | refine vc_weakf [] ?_ ?_ ?_ | refine vc_and ?_ ?_ | refine vc_ret [] [] ?_)
            | ((with_reducible first | refine vc_caseD (fun h => ?_) (fun h => ?_) | refine vc_caseN (fun h => ?_) (fun h => ?_)) <;> try (exfalso; omega))
            | ((with_reducible refine vc_case (fun h => ?_) (fun h => ?_)) <;> (try simp at h) <;> try (exfalso; omega))))
    all_goals rfl
  · have hcl := localPan_ren [(9, 3008)] [(3008, 9)] ((sgn_cl B bs hB hl).pan h) rfl
    repeat' (first
        | ((with_reducible refine vc_chk ?_); first | decide +kernel | rfl)
        | (with_reducible refine vc_side0 ?_; rfl)
        | (with_reducible first
             | refine vc_true ?_ | refine vc_true2 ?_ | refine vc_side ?_ ?_ | refine vc_triv | refine vc_later ?_ | refine vc_caseT ?_ | refine vc_caseF ?_ | refine vc_cons ?_ | refine vc_nil ?_ ?_ | refine vc_seq ?_
                | refine vc_region ?_ | refine vc_cond ?_ | refine vc_block ?_ | refine vc_retc ?_ | refine vc_exit ?_ | refine vc_skip ?_ | refine vc_scope ?_ | refine vc_label ?_ | refine vc_goto ?_ | refine vc_wkSl0
                | refine vc_wkHp0 | refine vc_eqAVs0 | refine vc_preG0 | refine vc_wkSl ?_ ?_ | refine vc_wkHp ?_ ?_ | refine vc_eqAVs ?_ ?_ | refine vc_preG ?_ ?_ | refine vc_side0 ?_ | refine vc_pan [] hcl ?_
                | refine vc_retK [] [] [7] ?_ | refine vc_weakf [] ?_ ?_ ?_ | refine vc_and ?_ ?_ | refine vc_ret [] [] ?_)
        | ((with_reducible first | refine vc_caseD (fun h => ?_) (fun h => ?_) | refine vc_caseN (fun h => ?_) (fun h => ?_)) <;> try (exfalso; omega))
        | ((with_reducible refine vc_case (fun h => ?_) (fun h => ?_)) <;> (try simp at h) <;> try (exfalso; omega))
        | (conv in Vc _ => arg 1; whnf
           first
            | (with_reducible refine vc_side0 ?_; rfl)
            | (with_reducible first
                | refine vc_true ?_ | refine vc_true2 ?_ | refine vc_side ?_ ?_ | refine vc_triv | refine vc_later ?_ | refine vc_caseT ?_ | refine vc_caseF ?_ | refine vc_cons ?_ | refine vc_nil ?_ ?_ | refine vc_seq ?_
                   | refine vc_region ?_ | refine vc_cond ?_ | refine vc_block ?_ | refine vc_retc ?_ | refine vc_exit ?_ | refine vc_skip ?_ | refine vc_scope ?_ | refine vc_label ?_ | refine vc_goto ?_ | refine vc_wkSl0
                   | refine vc_wkHp0 | refine vc_eqAVs0 | refine vc_preG0 | refine vc_wkSl ?_ ?_ | refine vc_wkHp ?_ ?_ | refine vc_eqAVs ?_ ?_ | refine vc_preG ?_ ?_ | refine vc_side0 ?_ | refine vc_pan [] hcl ?_
                   | refine vc_retK [] [] [7] ?_ | refine vc_weakf [] ?_ ?_ ?_ | refine vc_and ?_ ?_ | refine vc_ret [] [] ?_)
            | ((with_reducible first | refine vc_caseD (fun h => ?_) (fun h => ?_) | refine vc_caseN (fun h => ?_) (fun h => ?_)) <;> try (exfalso; omega))
            | ((with_reducible refine vc_case (fun h => ?_) (fun h => ?_)) <;> (try simp at h) <;> try (exfalso; omega))))
    all_goals rfl

theorem sgn_T (B : List D) (bs : List UInt8) (hB : B = bs.map byteD) (hl : bs.length < 2 ^ 63) (O : Option Sgn) (hO : toFin bs.length (rdSgn bs) = O) :
    LocalCall Try.prog 62 [.d (.sl B), .fn (.func 63) []] [] [] (one [.d (sD (O.getD s0)), .d (.int .i64 (errI O))]) [] := by
  subst hO
  rcases toFin_cases bs.length (rdSgn bs) with ⟨a, h, he, hq⟩ | ⟨hn, hq⟩
  · rw [hq]
    have hr := local_ren [(8, 1000), (7, 2000)] [(1000, 8), (2000, 7)] (sgn_yes B bs hB hl a h he) rfl
    refine vc_fn mixed Try.func62 rfl rfl [] (vc_chk rfl) ?_
    repeat' (first
        | ((with_reducible refine vc_chk ?_); first | decide +kernel | rfl)
        | (with_reducible refine vc_side0 ?_; rfl)
        | (with_reducible first
             | refine vc_true ?_ | refine vc_true2 ?_ | refine vc_side ?_ ?_ | refine vc_triv | refine vc_later ?_ | refine vc_caseT ?_ | refine vc_caseF ?_ | refine vc_cons ?_ | refine vc_nil ?_ ?_ | refine vc_seq ?_
                | refine vc_region ?_ | refine vc_cond ?_ | refine vc_block ?_ | refine vc_retc ?_ | refine vc_exit ?_ | refine vc_skip ?_ | refine vc_scope ?_ | refine vc_label ?_ | refine vc_goto ?_ | refine vc_wkSl0
                | refine vc_wkHp0 | refine vc_eqAVs0 | refine vc_preG0 | refine vc_wkSl ?_ ?_ | refine vc_wkHp ?_ ?_ | refine vc_eqAVs ?_ ?_ | refine vc_preG ?_ ?_ | refine vc_side0 ?_ | refine vc_call [] hr ?_
                | refine vc_weakf [] ?_ ?_ ?_ | refine vc_and ?_ ?_ | refine vc_ret [] [] ?_)
        | ((with_reducible first | refine vc_caseD (fun h => ?_) (fun h => ?_) | refine vc_caseN (fun h => ?_) (fun h => ?_)) <;> try (exfalso; omega))
        | ((with_reducible refine vc_case (fun h => ?_) (fun h => ?_)) <;> (try simp only [Go.Sym.vs1, reduceCtorEq] at h) <;> try (exfalso; first | omega | (simp at h; done)))
        | (conv in Vc _ => arg 1; whnf
           first
            | (with_reducible refine vc_side0 ?_; rfl)
            | (with_reducible first
                | refine vc_true ?_ | refine vc_true2 ?_ | refine vc_side ?_ ?_ | refine vc_triv | refine vc_later ?_ | refine vc_caseT ?_ | refine vc_caseF ?_ | refine vc_cons ?_ | refine vc_nil ?_ ?_ | refine vc_seq ?_
                   | refine vc_region ?_ | refine vc_cond ?_ | refine vc_block ?_ | refine vc_retc ?_ | refine vc_exit ?_ | refine vc_skip ?_ | refine vc_scope ?_ | refine vc_label ?_ | refine vc_goto ?_ | refine vc_wkSl0
                   | refine vc_wkHp0 | refine vc_eqAVs0 | refine vc_preG0 | refine vc_wkSl ?_ ?_ | refine vc_wkHp ?_ ?_ | refine vc_eqAVs ?_ ?_ | refine vc_preG ?_ ?_ | refine vc_side0 ?_ | refine vc_call [] hr ?_
                   | refine vc_weakf [] ?_ ?_ ?_ | refine vc_and ?_ ?_ | refine vc_ret [] [] ?_)
            | ((with_reducible first | refine vc_caseD (fun h => ?_) (fun h => ?_) | refine vc_caseN (fun h => ?_) (fun h => ?_)) <;> try (exfalso; omega))
            | ((with_reducible refine vc_case (fun h => ?_) (fun h => ?_)) <;> (try simp only [Go.Sym.vs1, reduceCtorEq] at h) <;> try (exfalso; first | omega | (simp at h; done)))))
    all_goals first | rfl | exact ⟨trivial, trivial, trivial⟩
  · rw [hq]
    have hr0 : LocalCall Try.prog 58 [.d (.sl B), .fn (.func 83) [.ptr 8 [], .ptr 7 []]] [(8, .var (.fn (.func 63) [])), (7, .var (.d (.st [.st [.int .u64 0, digD zero32, digD zero32, digD zero32], .nils])))] [] (one [.d (.int .i64 3)]) [(7, .dead)] := by
      rcases hn with h | ⟨a, h, he⟩
      · exact sgn_not B bs hB hl h
      · exact sgn_more B bs hB hl a h he
    have hr := local_ren [(8, 1000), (7, 2000)] [(1000, 8), (2000, 7)] hr0 rfl
    have key : LocalCall Try.prog 62 [.d (.sl B), .fn (.func 63) []] [] [] (one [.d (.st [.st [.int .u64 0, digD zero32, digD zero32, digD zero32], .nils]), .d (.int .i64 3)]) [] := by
      refine vc_fn mixed Try.func62 rfl rfl [] (vc_chk rfl) ?_
      repeat' (first
          | ((with_reducible refine vc_chk ?_); first | decide +kernel | rfl)
          | (with_reducible refine vc_side0 ?_; rfl)
          | (with_reducible first
               | refine vc_true ?_ | refine vc_true2 ?_ | refine vc_side ?_ ?_ | refine vc_triv | refine vc_later ?_ | refine vc_caseT ?_ | refine vc_caseF ?_ | refine vc_cons ?_ | refine vc_nil ?_ ?_ | refine vc_seq ?_
                  | refine vc_region ?_ | refine vc_cond ?_ | refine vc_block ?_ | refine vc_retc ?_ | refine vc_exit ?_ | refine vc_skip ?_ | refine vc_scope ?_ | refine vc_label ?_ | refine vc_goto ?_ | refine vc_wkSl0
                  | refine vc_wkHp0 | refine vc_eqAVs0 | refine vc_preG0 | refine vc_wkSl ?_ ?_ | refine vc_wkHp ?_ ?_ | refine vc_eqAVs ?_ ?_ | refine vc_preG ?_ ?_ | refine vc_side0 ?_ | refine vc_call [] hr ?_
                  | refine vc_weakf [] ?_ ?_ ?_ | refine vc_and ?_ ?_ | refine vc_ret [] [] ?_)
          | ((with_reducible first | refine vc_caseD (fun h => ?_) (fun h => ?_) | refine vc_caseN (fun h => ?_) (fun h => ?_)) <;> try (exfalso; omega))
          | ((with_reducible refine vc_case (fun h => ?_) (fun h => ?_)) <;> (try simp only [Go.Sym.vs1, reduceCtorEq] at h) <;> try (exfalso; first | omega | (simp at h; done)))
          | (conv in Vc _ => arg 1; whnf
             first
              | (with_reducible refine vc_side0 ?_; rfl)
              | (with_reducible first
                  | refine vc_true ?_ | refine vc_true2 ?_ | refine vc_side ?_ ?_ | refine vc_triv | refine vc_later ?_ | refine vc_caseT ?_ | refine vc_caseF ?_ | refine vc_cons ?_ | refine vc_nil ?_ ?_ | refine vc_seq ?_
                     | refine vc_region ?_ | refine vc_cond ?_ | refine vc_block ?_ | refine vc_retc ?_ | refine vc_exit ?_ | refine vc_skip ?_ | refine vc_scope ?_ | refine vc_label ?_ | refine vc_goto ?_ | refine vc_wkSl0
                     | refine vc_wkHp0 | refine vc_eqAVs0 | refine vc_preG0 | refine vc_wkSl ?_ ?_ | refine vc_wkHp ?_ ?_ | refine vc_eqAVs ?_ ?_ | refine vc_preG ?_ ?_ | refine vc_side0 ?_ | refine vc_call [] hr ?_
                     | refine vc_weakf [] ?_ ?_ ?_ | refine vc_and ?_ ?_ | refine vc_ret [] [] ?_)
              | ((with_reducible first | refine vc_caseD (fun h => ?_) (fun h => ?_) | refine vc_caseN (fun h => ?_) (fun h => ?_)) <;> try (exfalso; omega))
              | ((with_reducible refine vc_case (fun h => ?_) (fun h => ?_)) <;> (try simp only [Go.Sym.vs1, reduceCtorEq] at h) <;> try (exfalso; first | omega | (simp at h; done)))))
      all_goals first | rfl | exact ⟨trivial, trivial, trivial⟩
    exact local_dn key

theorem sgn_ok (B : List D) (bs : List UInt8) (hB : B = bs.map byteD) (hl : bs.length < 2 ^ 63) (O : Option Sgn) (hO : toFin bs.length (rdSgn bs) = O) :
    LocalCall Try.prog 35 [.d (.sl B)] [] [] (one [.d (sD (O.getD s0)), .d (.int .i64 (errI O))]) [] := by
  refine vc_fn mixed Try.func35 rfl rfl [] (vc_chk rfl) ?_
  repeat' (first
      | ((with_reducible refine vc_chk ?_); first | decide +kernel | rfl)
      | (with_reducible refine vc_side0 ?_; rfl)
      | (with_reducible first
           | refine vc_true ?_ | refine vc_true2 ?_ | refine vc_side ?_ ?_ | refine vc_triv | refine vc_later ?_ | refine vc_caseT ?_ | refine vc_caseF ?_ | refine vc_cons ?_ | refine vc_nil ?_ ?_ | refine vc_seq ?_
              | refine vc_region ?_ | refine vc_cond ?_ | refine vc_block ?_ | refine vc_retc ?_ | refine vc_exit ?_ | refine vc_skip ?_ | refine vc_scope ?_ | refine vc_label ?_ | refine vc_goto ?_ | refine vc_wkSl0
              | refine vc_wkHp0 | refine vc_eqAVs0 | refine vc_preG0 | refine vc_wkSl ?_ ?_ | refine vc_wkHp ?_ ?_ | refine vc_eqAVs ?_ ?_ | refine vc_preG ?_ ?_ | refine vc_side0 ?_ | refine vc_call [] (sgn_T B bs hB hl O hO) ?_
              | refine vc_weakf [] ?_ ?_ ?_ | refine vc_and ?_ ?_ | refine vc_ret [] [] ?_)
      | ((with_reducible first | refine vc_caseD (fun h => ?_) (fun h => ?_) | refine vc_caseN (fun h => ?_) (fun h => ?_)) <;> try (exfalso; omega))
      | ((with_reducible refine vc_case (fun h => ?_) (fun h => ?_)) <;> (try simp only [Go.Sym.vs1, reduceCtorEq] at h) <;> try (exfalso; first | omega | (simp at h; done)))
      | (conv in Vc _ => arg 1; whnf
         first
          | (with_reducible refine vc_side0 ?_; rfl)
          | (with_reducible first
              | refine vc_true ?_ | refine vc_true2 ?_ | refine vc_side ?_ ?_ | refine vc_triv | refine vc_later ?_ | refine vc_caseT ?_ | refine vc_caseF ?_ | refine vc_cons ?_ | refine vc_nil ?_ ?_ | refine vc_seq ?_
                 | refine vc_region ?_ | refine vc_cond ?_ | refine vc_block ?_ | refine vc_retc ?_ | refine vc_exit ?_ | refine vc_skip ?_ | refine vc_scope ?_ | refine vc_label ?_ | refine vc_goto ?_ | refine vc_wkSl0
                 | refine vc_wkHp0 | refine vc_eqAVs0 | refine vc_preG0 | refine vc_wkSl ?_ ?_ | refine vc_wkHp ?_ ?_ | refine vc_eqAVs ?_ ?_ | refine vc_preG ?_ ?_ | refine vc_side0 ?_
                 | refine vc_call [] (sgn_T B bs hB hl O hO) ?_ | refine vc_weakf [] ?_ ?_ ?_ | refine vc_and ?_ ?_ | refine vc_ret [] [] ?_)
          | ((with_reducible first | refine vc_caseD (fun h => ?_) (fun h => ?_) | refine vc_caseN (fun h => ?_) (fun h => ?_)) <;> try (exfalso; omega))
          | ((with_reducible refine vc_case (fun h => ?_) (fun h => ?_)) <;> (try simp only [Go.Sym.vs1, reduceCtorEq] at h) <;> try (exfalso; first | omega | (simp at h; done)))))
  all_goals first | rfl | exact ⟨trivial, trivial, trivial⟩

end Go.Proofs.Ytcdjheiccefcdaa

/-
What the references of the record layer read: bindings, requests, signed roots.
-/
set_option linter.unusedSimpArgs false
set_option linter.unusedVariables false
namespace Go.Proofs.Ytcdjheiccefcdaa
open Go.Sym
set_option maxRecDepth 10000
set_option maxHeartbeats 4000000

def optR {α : Type} (r : α × Nat × Bool) : Option (α × Nat) := bif r.2.2 then none else some (r.1, r.2.1)

def inGs (bs : List UInt8) (b : Bool) (k : Nat) : List UInt8 × Nat × Bool := bif b then (zero32, k, true) else (padB (inK bs 32 k).1 (inK bs 32 k).1.length, (inK bs 32 k).2)

theorem inTs_opt (bs : List UInt8) (b : Bool) (k : Nat) : optR (inTs bs b k) = bif b then none else rdT bs k := by
  cases b with
  | true => rfl
  | false => rw [cond_false, inT_rdT]; rfl
theorem inNs_opt (bs : List UInt8) (b : Bool) (k : Nat) : optR (inNs bs b k) = bif b then none else rdN bs 10 k 0 0 := by
  cases b with
  | true => rfl
  | false => rw [cond_false, inN_rdN]; rfl
theorem inGs_opt (bs : List UInt8) (b : Bool) (k : Nat) : optR (inGs bs b k) = bif b then none else rdG bs k := by
  cases b with
  | true => rfl
  | false =>
    rw [cond_false]
    unfold inGs rdG inK
    by_cases h : k + 32 ≤ bs.length
    · have hl : ((bs.drop k).take 32).length = 32 := by rw [List.length_take, List.length_drop]; omega
      simp only [decide_eq_true h, cond_true, cond_false, optR]
      rw [hl, padB_full hl]
    · simp only [decide_eq_false h, cond_false, optR, cond_true]

theorem inGs_le (bs : List UInt8) (b : Bool) (k : Nat) (h : k ≤ bs.length) : (inGs bs b k).2.1 ≤ bs.length := by
  cases b with
  | true => exact h
  | false => exact inK_le bs 32 k h
theorem inDig_bad (B : List D) (k : Nat) :
    LocalCall Try.prog 76 [.ptr 9 []] [(9, rIn B k true)] [] (one [.d (.arr 32 1 (zero32.map byteD))]) [(9, rIn B k true)] := by
  have hc := inTake_bad B k 32
  refine vc_fn mixed Try.func76 rfl rfl [] (vc_chk rfl) ?_
  repeat' (first
      | ((with_reducible refine vc_chk ?_); first | decide +kernel | rfl)
      | (with_reducible refine vc_side0 ?_; rfl)
      | (with_reducible first
           | refine vc_true ?_ | refine vc_true2 ?_ | refine vc_side ?_ ?_ | refine vc_triv | refine vc_later ?_ | refine vc_caseT ?_ | refine vc_caseF ?_ | refine vc_cons ?_ | refine vc_nil ?_ ?_ | refine vc_seq ?_
              | refine vc_region ?_ | refine vc_cond ?_ | refine vc_block ?_ | refine vc_retc ?_ | refine vc_exit ?_ | refine vc_skip ?_ | refine vc_scope ?_ | refine vc_label ?_ | refine vc_goto ?_ | refine vc_wkSl0
              | refine vc_wkHp0 | refine vc_eqAVs0 | refine vc_preG0 | refine vc_wkSl ?_ ?_ | refine vc_wkHp ?_ ?_ | refine vc_eqAVs ?_ ?_ | refine vc_preG ?_ ?_ | refine vc_side0 ?_ | refine vc_call [] hc ?_
              | refine vc_loopI 21 (fun (_ : Unit) => [(0, .ptr 9 []), (2, .ptr 1000 []), (3, .ptr 2000 []), (4, .d (.sl [])), (5, .d (.int .i64 0))]) (fun _ => [(9, rIn B k true), (1000, .var (.d (.arr 32 1 (List.replicate 32 (.int .u8 0))))), (2000, .var (.d (.arr 32 1 (zero32.map byteD))))]) (fun _ => 0) (fun _ => True) () [] ?_ ?_ ?_ ?_ ?_ (fun x hI => ?_)
              | refine vc_weakf [] ?_ ?_ ?_ | refine vc_and ?_ ?_ | refine vc_ret [] [] ?_)
      | ((with_reducible first | refine vc_caseD (fun h => ?_) (fun h => ?_) | refine vc_caseN (fun h => ?_) (fun h => ?_)) <;> try (exfalso; omega))
      | ((with_reducible refine vc_case (fun h => ?_) (fun h => ?_)) <;> (try simp at h) <;> try (exfalso; omega))
      | (conv in Vc _ => arg 1; whnf
         first
          | (with_reducible refine vc_side0 ?_; rfl)
          | (with_reducible first
              | refine vc_true ?_ | refine vc_true2 ?_ | refine vc_side ?_ ?_ | refine vc_triv | refine vc_later ?_ | refine vc_caseT ?_ | refine vc_caseF ?_ | refine vc_cons ?_ | refine vc_nil ?_ ?_ | refine vc_seq ?_
                 | refine vc_region ?_ | refine vc_cond ?_ | refine vc_block ?_ | refine vc_retc ?_ | refine vc_exit ?_ | refine vc_skip ?_ | refine vc_scope ?_ | refine vc_label ?_ | refine vc_goto ?_ | refine vc_wkSl0
                 | refine vc_wkHp0 | refine vc_eqAVs0 | refine vc_preG0 | refine vc_wkSl ?_ ?_ | refine vc_wkHp ?_ ?_ | refine vc_eqAVs ?_ ?_ | refine vc_preG ?_ ?_ | refine vc_side0 ?_ | refine vc_call [] hc ?_
                 | refine vc_loopI 21 (fun (_ : Unit) => [(0, .ptr 9 []), (2, .ptr 1000 []), (3, .ptr 2000 []), (4, .d (.sl [])), (5, .d (.int .i64 0))]) (fun _ => [(9, rIn B k true), (1000, .var (.d (.arr 32 1 (List.replicate 32 (.int .u8 0))))), (2000, .var (.d (.arr 32 1 (zero32.map byteD))))]) (fun _ => 0) (fun _ => True) () [] ?_ ?_ ?_ ?_ ?_ (fun x hI => ?_)
                 | refine vc_weakf [] ?_ ?_ ?_ | refine vc_and ?_ ?_ | refine vc_ret [] [] ?_)
          | ((with_reducible first | refine vc_caseD (fun h => ?_) (fun h => ?_) | refine vc_caseN (fun h => ?_) (fun h => ?_)) <;> try (exfalso; omega))
          | ((with_reducible refine vc_case (fun h => ?_) (fun h => ?_)) <;> (try simp at h) <;> try (exfalso; omega))))
  all_goals first
    | rfl
    | trivial

theorem inText_8 (B : List D) (bs : List UInt8) (hB : B = bs.map byteD) (k : Nat) (b : Bool) (hk : k ≤ bs.length) (hl : bs.length < 2 ^ 63) :
    LocalCall Try.prog 73 [.ptr 2008 []] [(2008, rIn B k b)] [] (one [.d (.sl ((inTs bs b k).1.map byteD))]) [(2008, rIn B (inTs bs b k).2.1 (inTs bs b k).2.2)] :=
  local_ren [(9, 2008)] [(2008, 9)] (inText_any B bs hB k b hk hl) rfl

theorem inNum_8 (B : List D) (bs : List UInt8) (hB : B = bs.map byteD) (k : Nat) (b : Bool) (hk : k ≤ bs.length) (hl : bs.length < 2 ^ 63) :
    LocalCall Try.prog 75 [.ptr 2008 []] [(2008, rIn B k b)] [] (one [.d (.int .u64 ((inNs bs b k).1 : Int))]) [(2008, rIn B (inNs bs b k).2.1 (inNs bs b k).2.2)] :=
  local_ren [(9, 2008)] [(2008, 9)] (inNum_any B bs hB k b hk hl) rfl

theorem inDig_8 (B : List D) (bs : List UInt8) (hB : B = bs.map byteD) (k : Nat) (b : Bool) (hk : k ≤ bs.length) (hl : bs.length < 2 ^ 63) :
    LocalCall Try.prog 76 [.ptr 2008 []] [(2008, rIn B k b)] [] (one [.d (.arr 32 1 ((inGs bs b k).1.map byteD))]) [(2008, rIn B (inGs bs b k).2.1 (inGs bs b k).2.2)] := by
  cases b with
  | true => exact local_ren [(9, 2008)] [(2008, 9)] (inDig_bad B k) rfl
  | false => exact local_ren [(9, 2008)] [(2008, 9)] (inDig_ok B bs hB k hk hl _ rfl) rfl

theorem inDone_8 (B : List D) (k : Nat) (b q : Bool) (hq : (!b && decide (k = B.length)) = q) :
    LocalCall Try.prog 74 [.ptr 2008 []] [(2008, rIn B k b)] [] (one [.d (.bool q)]) [(2008, rIn B k b)] := by
  subst hq
  exact local_ren [(9, 2008)] [(2008, 9)] (inDone_ok B k b) rfl

end Go.Proofs.Ytcdjheiccefcdaa

/-
What the references of the record layer read: requests, signed roots.
-/
set_option linter.unusedSimpArgs false
set_option linter.unusedVariables false
namespace Go.Proofs.Ytcdjheiccefcdaa
open Go.Sym
set_option maxRecDepth 10000
set_option maxHeartbeats 8000000

theorem rSgn_ok (B : List D) (bs : List UInt8) (hB : B = bs.map byteD) (hl : bs.length < 2 ^ 63) (O : Option Sgn) (hO : toFin bs.length (rdSgn bs) = O) :
    LocalCall Try.prog 50 [.d (.sl B)] [] [] (one [.d (sD (O.getD s0)), .d (.int .i64 (errI O))]) [] := by
  have hlen : B.length = bs.length := by rw [hB]; simp
  have c0 := inNum_8 B bs hB 0 false (Nat.zero_le _) hl
  have l0 := inNs_le bs false 0 (Nat.zero_le _)
  have q0 := inNs_opt bs false 0
  generalize inNs bs false 0 = r0 at c0 l0 q0
  obtain ⟨x0, k0, b0⟩ := r0
  have c1 := inDig_8 B bs hB k0 b0 l0 hl
  have l1 := inGs_le bs b0 k0 l0
  have q1 := inGs_opt bs b0 k0
  generalize inGs bs b0 k0 = r1 at c1 l1 q1
  obtain ⟨x1, k1, b1⟩ := r1
  have c2 := inDig_8 B bs hB k1 b1 l1 hl
  have l2 := inGs_le bs b1 k1 l1
  have q2 := inGs_opt bs b1 k1
  generalize inGs bs b1 k1 = r2 at c2 l2 q2
  obtain ⟨x2, k2, b2⟩ := r2
  have c3 := inDig_8 B bs hB k2 b2 l2 hl
  have l3 := inGs_le bs b2 k2 l2
  have q3 := inGs_opt bs b2 k2
  generalize inGs bs b2 k2 = r3 at c3 l3 q3
  obtain ⟨x3, k3, b3⟩ := r3
  have c4 := inText_8 B bs hB k3 b3 l3 hl
  have l4 := inTs_le bs b3 k3 l3
  have q4 := inTs_opt bs b3 k3
  generalize inTs bs b3 k3 = r4 at c4 l4 q4
  obtain ⟨x4, k4, b4⟩ := r4
  have hR : rdSgn bs = bif b4 then none else some (⟨⟨x0, x1, x2, x3⟩, x4⟩, k4) := by
    cases b0 <;> cases b1 <;> cases b2 <;> cases b3 <;> cases b4 <;> simp only [optR, cond_true, cond_false, reduceCtorEq] at q0 q1 q2 q3 q4 <;> first
      | (simp [rdSgn, ← q0]; done)
      | (simp [rdSgn, ← q0, ← q1]; done)
      | (simp [rdSgn, ← q0, ← q1, ← q2]; done)
      | (simp [rdSgn, ← q0, ← q1, ← q2, ← q3]; done)
      | (simp [rdSgn, ← q0, ← q1, ← q2, ← q3, ← q4]; done)
  rw [hR] at hO
  generalize hq : (!b4 && decide (k4 = B.length)) = q
  have c6 := inDone_8 B k4 b4 q hq
  dsimp only at c0 c1 c2 c3 c4
  cases q
  · have : O = none := by
      rw [← hO]
      cases b4 with
      | true => rfl
      | false =>
        rw [cond_false]
        have : ¬ k4 = bs.length := fun hk => by rw [hk, hlen] at hq; simp at hq
        simp [toFin, this]
    subst this
    have key : LocalCall Try.prog 50 [.d (.sl B)] [] [] (one [.d (.st [.st [.int .u64 0, digD zero32, digD zero32, digD zero32], .nils]), .d (.int .i64 3)]) [] := by
      refine vc_fn mixed Try.func50 rfl rfl [] (vc_chk rfl) ?_
      repeat' (first
          | ((with_reducible refine vc_chk ?_); first | decide +kernel | rfl)
          | (with_reducible refine vc_side0 ?_; rfl)
          | (with_reducible first
               | refine vc_true ?_ | refine vc_true2 ?_ | refine vc_side ?_ ?_ | refine vc_triv | refine vc_later ?_ | refine vc_caseT ?_ | refine vc_caseF ?_ | refine vc_cons ?_ | refine vc_nil ?_ ?_ | refine vc_seq ?_
                  | refine vc_region ?_ | refine vc_cond ?_ | refine vc_block ?_ | refine vc_retc ?_ | refine vc_exit ?_ | refine vc_skip ?_ | refine vc_scope ?_ | refine vc_label ?_ | refine vc_goto ?_ | refine vc_wkSl0
                  | refine vc_wkHp0 | refine vc_eqAVs0 | refine vc_preG0 | refine vc_wkSl ?_ ?_ | refine vc_wkHp ?_ ?_ | refine vc_eqAVs ?_ ?_ | refine vc_preG ?_ ?_ | refine vc_side0 ?_
                  | refine vc_callAt [] 2008 (by with_unfolding_all rfl) (c0) ?_ | refine vc_callAt [] 2008 (by with_unfolding_all rfl) (c1) ?_ | refine vc_callAt [] 2008 (by with_unfolding_all rfl) (c2) ?_
                  | refine vc_callAt [] 2008 (by with_unfolding_all rfl) (c3) ?_ | refine vc_callAt [] 2008 (by with_unfolding_all rfl) (c4) ?_ | refine vc_callAt [] 2008 (by with_unfolding_all rfl) (c6) ?_
                  | refine vc_weakf [] ?_ ?_ ?_ | refine vc_and ?_ ?_ | refine vc_ret [] [] ?_)
          | ((with_reducible first | refine vc_caseD (fun h => ?_) (fun h => ?_) | refine vc_caseN (fun h => ?_) (fun h => ?_)) <;> try (exfalso; omega))
          | ((with_reducible refine vc_case (fun h => ?_) (fun h => ?_)) <;> (try simp only [Go.Sym.vs1, reduceCtorEq] at h) <;> try (exfalso; first | omega | (simp at h; done)))
          | (conv in Vc _ => arg 1; whnf
             first
              | (with_reducible refine vc_side0 ?_; rfl)
              | (with_reducible first
                  | refine vc_true ?_ | refine vc_true2 ?_ | refine vc_side ?_ ?_ | refine vc_triv | refine vc_later ?_ | refine vc_caseT ?_ | refine vc_caseF ?_ | refine vc_cons ?_ | refine vc_nil ?_ ?_ | refine vc_seq ?_
                     | refine vc_region ?_ | refine vc_cond ?_ | refine vc_block ?_ | refine vc_retc ?_ | refine vc_exit ?_ | refine vc_skip ?_ | refine vc_scope ?_ | refine vc_label ?_ | refine vc_goto ?_ | refine vc_wkSl0
                     | refine vc_wkHp0 | refine vc_eqAVs0 | refine vc_preG0 | refine vc_wkSl ?_ ?_ | refine vc_wkHp ?_ ?_ | refine vc_eqAVs ?_ ?_ | refine vc_preG ?_ ?_ | refine vc_side0 ?_
                     | refine vc_callAt [] 2008 (by with_unfolding_all rfl) (c0) ?_ | refine vc_callAt [] 2008 (by with_unfolding_all rfl) (c1) ?_ | refine vc_callAt [] 2008 (by with_unfolding_all rfl) (c2) ?_
                     | refine vc_callAt [] 2008 (by with_unfolding_all rfl) (c3) ?_ | refine vc_callAt [] 2008 (by with_unfolding_all rfl) (c4) ?_ | refine vc_callAt [] 2008 (by with_unfolding_all rfl) (c6) ?_
                     | refine vc_weakf [] ?_ ?_ ?_ | refine vc_and ?_ ?_ | refine vc_ret [] [] ?_)
              | ((with_reducible first | refine vc_caseD (fun h => ?_) (fun h => ?_) | refine vc_caseN (fun h => ?_) (fun h => ?_)) <;> try (exfalso; omega))
              | ((with_reducible refine vc_case (fun h => ?_) (fun h => ?_)) <;> (try simp only [Go.Sym.vs1, reduceCtorEq] at h) <;> try (exfalso; first | omega | (simp at h; done)))))
      all_goals first | rfl | exact ⟨trivial, rfl⟩ | exact ⟨trivial, trivial⟩ | exact ⟨trivial, trivial, trivial⟩ | exact ⟨trivial, trivial, trivial, trivial⟩
    exact local_dn key
  · simp only [Bool.and_eq_true, Bool.not_eq_true', decide_eq_true_eq] at hq
    obtain ⟨rfl, hk⟩ := hq
    rw [cond_false] at hO
    have : O = some ⟨⟨x0, x1, x2, x3⟩, x4⟩ := by rw [← hO]; simp [toFin, hk, hlen]
    subst this
    refine vc_fn mixed Try.func50 rfl rfl [] (vc_chk rfl) ?_
    repeat' (first
        | ((with_reducible refine vc_chk ?_); first | decide +kernel | rfl)
        | (with_reducible refine vc_side0 ?_; rfl)
        | (with_reducible first
             | refine vc_true ?_ | refine vc_true2 ?_ | refine vc_side ?_ ?_ | refine vc_triv | refine vc_later ?_ | refine vc_caseT ?_ | refine vc_caseF ?_ | refine vc_cons ?_ | refine vc_nil ?_ ?_ | refine vc_seq ?_
                | refine vc_region ?_ | refine vc_cond ?_ | refine vc_block ?_ | refine vc_retc ?_ | refine vc_exit ?_ | refine vc_skip ?_ | refine vc_scope ?_ | refine vc_label ?_ | refine vc_goto ?_ | refine vc_wkSl0
                | refine vc_wkHp0 | refine vc_eqAVs0 | refine vc_preG0 | refine vc_wkSl ?_ ?_ | refine vc_wkHp ?_ ?_ | refine vc_eqAVs ?_ ?_ | refine vc_preG ?_ ?_ | refine vc_side0 ?_
                | refine vc_callAt [] 2008 (by with_unfolding_all rfl) (c0) ?_ | refine vc_callAt [] 2008 (by with_unfolding_all rfl) (c1) ?_ | refine vc_callAt [] 2008 (by with_unfolding_all rfl) (c2) ?_
                | refine vc_callAt [] 2008 (by with_unfolding_all rfl) (c3) ?_ | refine vc_callAt [] 2008 (by with_unfolding_all rfl) (c4) ?_ | refine vc_callAt [] 2008 (by with_unfolding_all rfl) (c6) ?_
                | refine vc_weakf [] ?_ ?_ ?_ | refine vc_and ?_ ?_ | refine vc_ret [] [] ?_)
        | ((with_reducible first | refine vc_caseD (fun h => ?_) (fun h => ?_) | refine vc_caseN (fun h => ?_) (fun h => ?_)) <;> try (exfalso; omega))
        | ((with_reducible refine vc_case (fun h => ?_) (fun h => ?_)) <;> (try simp only [Go.Sym.vs1, reduceCtorEq] at h) <;> try (exfalso; first | omega | (simp at h; done)))
        | (conv in Vc _ => arg 1; whnf
           first
            | (with_reducible refine vc_side0 ?_; rfl)
            | (with_reducible first
                | refine vc_true ?_ | refine vc_true2 ?_ | refine vc_side ?_ ?_ | refine vc_triv | refine vc_later ?_ | refine vc_caseT ?_ | refine vc_caseF ?_ | refine vc_cons ?_ | refine vc_nil ?_ ?_ | refine vc_seq ?_
                   | refine vc_region ?_ | refine vc_cond ?_ | refine vc_block ?_ | refine vc_retc ?_ | refine vc_exit ?_ | refine vc_skip ?_ | refine vc_scope ?_ | refine vc_label ?_ | refine vc_goto ?_ | refine vc_wkSl0
                   | refine vc_wkHp0 | refine vc_eqAVs0 | refine vc_preG0 | refine vc_wkSl ?_ ?_ | refine vc_wkHp ?_ ?_ | refine vc_eqAVs ?_ ?_ | refine vc_preG ?_ ?_ | refine vc_side0 ?_
                   | refine vc_callAt [] 2008 (by with_unfolding_all rfl) (c0) ?_ | refine vc_callAt [] 2008 (by with_unfolding_all rfl) (c1) ?_ | refine vc_callAt [] 2008 (by with_unfolding_all rfl) (c2) ?_
                   | refine vc_callAt [] 2008 (by with_unfolding_all rfl) (c3) ?_ | refine vc_callAt [] 2008 (by with_unfolding_all rfl) (c4) ?_ | refine vc_callAt [] 2008 (by with_unfolding_all rfl) (c6) ?_
                   | refine vc_weakf [] ?_ ?_ ?_ | refine vc_and ?_ ?_ | refine vc_ret [] [] ?_)
            | ((with_reducible first | refine vc_caseD (fun h => ?_) (fun h => ?_) | refine vc_caseN (fun h => ?_) (fun h => ?_)) <;> try (exfalso; omega))
            | ((with_reducible refine vc_case (fun h => ?_) (fun h => ?_)) <;> (try simp only [Go.Sym.vs1, reduceCtorEq] at h) <;> try (exfalso; first | omega | (simp at h; done)))))
    all_goals first | rfl | exact ⟨trivial, rfl⟩ | exact ⟨trivial, trivial⟩ | exact ⟨trivial, trivial, trivial⟩ | exact ⟨trivial, trivial, trivial, trivial⟩

end Go.Proofs.Ytcdjheiccefcdaa
