import Derived.Test.YtdceegllpcepnaaJ1
import Derived.Test.YtdceegllpcepnaaJ2
import Derived.Test.YtdceegllpcepnaaJ3
import Derived.Test.YtdceegllpcepnaaJ4
import Derived.Test.YtdceegllpcepnaaJ5
import Derived.Test.YtdceegllpcepnaaJ6
import Derived.Test.YtdceegllpcepnaaJ7
import Derived.Test.YtdceegllpcepnaaJ8
import Derived.Test.YtdceegllpcepnaaJ9
import Derived.Test.YtdceegllpcepnaaJ10
set_option linter.unusedSimpArgs false
set_option linter.unusedVariables false
/-
What signs once: a public key's text, what signs, to what a signature leads.
-/
set_option linter.unusedSimpArgs false
set_option linter.unusedVariables false
namespace Go.Proofs.Ytdceegllpcepnaa
open Go.Sym
set_option maxRecDepth 10000
set_option maxHeartbeats 1000000

theorem keyH_length (seed : List UInt8) (key i : Nat) (on : Bool) : (keyH seed key i on).length = 32 := shaB_length _

theorem take32e {d : List UInt8} (h : d.length = 32) : List.take (32 - Int.toNat 0) (List.drop (Int.toNat 0) (d.map byteD)) = d.map byteD := take32d h
theorem t32k (seed : List UInt8) (key i : Nat) (on : Bool) : List.take (32 - Int.toNat 0) (List.drop (Int.toNat 0) ((keyH seed key i on).map byteD)) = (keyH seed key i on).map byteD := take32d (keyH_length seed key i on)
theorem t32s (b : List UInt8) : List.take (32 - Int.toNat 0) (List.drop (Int.toNat 0) ((shaB b).map byteD)) = (shaB b).map byteD := take32d (shaB_length b)
theorem len32 {d : List UInt8} (h : d.length = 32) : Int.toNat 0 + (32 - Int.toNat 0) ≤ (d.map byteD).length := by rw [List.length_map, h]; decide

/-- The text of a public key, after so many bits. -/
def textN (P : Nat → Bool → List UInt8) (i : Nat) : List UInt8 := 80 :: rounds (textF P) i
theorem textN_length (P : Nat → Bool → List UInt8) (i : Nat) : (textN P i).length = 64 * i + 1 := by
  unfold textN
  rw [List.length_cons, rounds_length i fun i _ => textF_length P i]

theorem textN_succ (seed : List UInt8) (key i : Nat) : (textN (keyH seed key) i).map byteD ++ (shaB (keyH seed key i false)).map byteD ++ (shaB (keyH seed key i true)).map byteD = (textN (keyH seed key) (i + 1)).map byteD := by
  unfold textN
  rw [rounds_succ, ← List.map_append, ← List.map_append]
  simp [textF]

end Go.Proofs.Ytdceegllpcepnaa

/-
What signs bytes, and to what a signature leads.
-/
set_option linter.unusedSimpArgs false
set_option linter.unusedVariables false
namespace Go.Proofs.Ytdceegllpcepnaa
open Go.Sym
set_option maxRecDepth 10000
set_option maxHeartbeats 1000000

/-- What signs, after so many bits. -/
def signN (P : Nat → Bool → List UInt8) (d : List UInt8) (i : Nat) : List UInt8 := rounds (signF P d) i
theorem signN_length {P : Nat → Bool → List UInt8} (hP : ∀ i on, (P i on).length = 32) (d : List UInt8) (i : Nat) : (signN P d i).length = 64 * i :=
  rounds_length i fun i _ => signF_length hP d i

theorem signN_succ (seed : List UInt8) (key : Nat) (d : List UInt8) (i : Nat) : (signN (keyH seed key) d i).map byteD ++ (keyH seed key i (bitB d i)).map byteD ++ (shaB (keyH seed key i (!bitB d i))).map byteD = (signN (keyH seed key) d (i + 1)).map byteD := by
  unfold signN
  rw [rounds_succ, ← List.map_append, ← List.map_append]
  simp [signF]

theorem signN_all (P : Nat → Bool → List UInt8) (d : List UInt8) : signN P d 256 = signP P d := by unfold signN signP; rfl

end Go.Proofs.Ytdceegllpcepnaa

/-
To what a signature leads, and whether it is taken.
-/
set_option linter.unusedSimpArgs false
set_option linter.unusedVariables false
namespace Go.Proofs.Ytdceegllpcepnaa
open Go.Sym
set_option maxRecDepth 10000
set_option maxHeartbeats 1000000

/-- To what a signature leads, after so many bits. -/
def openN (d s : List UInt8) (i : Nat) : List UInt8 := 80 :: rounds (openF d s) i
theorem openN_length (d : List UInt8) {s : List UInt8} (hs : s.length = 16384) {i : Nat} (hi : i ≤ 256) : (openN d s i).length = 64 * i + 1 := by
  unfold openN
  rw [List.length_cons, rounds_length i fun i h => openF_length d hs (by omega)]
theorem openN_all (d s : List UInt8) : openN d s 256 = openP d s := by unfold openN openP; rfl
def openT (b sig : List UInt8) : List UInt8 := bif decide (sig.length = 16384) then openP (shaB b) sig else []
def openE (sig : List UInt8) : Int := bif decide (sig.length = 16384) then 0 else 15
def checkE (pub b sig : List UInt8) : Int := bif decide (sig.length = 16384) && decide (shaB (openP (shaB b) sig) = pub) then 0 else 15

theorem sig_x (s : List UInt8) (i : Nat) : cutD ((s.drop (64 * i)).map byteD) 0 32 = (sigX s i).map byteD := by
  show List.drop 0 (List.take 32 _) = _
  rw [List.drop_zero, ← List.map_take]; rfl
theorem sig_y (s : List UInt8) (i : Nat) : cutD ((s.drop (64 * i)).map byteD) 32 64 = (sigY s i).map byteD := by
  show List.drop 32 (List.take 64 _) = _
  rw [List.drop_take, ← List.map_drop, List.drop_drop, ← List.map_take]; rfl
theorem sig_n (s : List UInt8) (i : Nat) : cutD ((s.drop (64 * i)).map byteD) 64 (((s.drop (64 * i)).map byteD).length : Nat) = (s.drop (64 * (i + 1))).map byteD := by
  show List.drop 64 (List.take ((s.drop (64 * i)).map byteD).length _) = _
  rw [List.take_length, ← List.map_drop, List.drop_drop]
  rfl
theorem openN_succ {d s : List UInt8} (i : Nat) (h : bitB d i = true) : (openN d s i).map byteD ++ (sigY s i).map byteD ++ (shaB (sigX s i)).map byteD = (openN d s (i + 1)).map byteD := by
  unfold openN
  rw [rounds_succ, ← List.map_append, ← List.map_append]
  simp [openF, h]
theorem openN_succ0 {d s : List UInt8} (i : Nat) (h : bitB d i = false) : (openN d s i).map byteD ++ (shaB (sigX s i)).map byteD ++ (sigY s i).map byteD = (openN d s (i + 1)).map byteD := by
  unfold openN
  rw [rounds_succ, ← List.map_append, ← List.map_append]
  simp [openF, h]

theorem openT_length (b sig : List UInt8) : (openT b sig).length ≤ 16385 := by
  unfold openT
  by_cases hs : sig.length = 16384
  · rw [decide_eq_true hs, cond_true, openP_length _ hs]; omega
  · rw [decide_eq_false hs, cond_false]; simp

theorem checkE_yes {b sig : List UInt8} (pub : List UInt8) (h : openE sig = 0) : checkE pub b sig = bif decide (shaB (openT b sig) = pub) then 0 else 15 := by
  unfold openE at h
  unfold checkE openT
  by_cases hs : sig.length = 16384
  · rw [decide_eq_true hs, cond_true, Bool.true_and]
  · rw [decide_eq_false hs, cond_false] at h; cases h
theorem checkE_no {b sig : List UInt8} (pub : List UInt8) (h : ¬ openE sig = 0) : checkE pub b sig = 15 ∧ openE sig = 15 := by
  unfold openE at h ⊢
  unfold checkE
  by_cases hs : sig.length = 16384
  · rw [decide_eq_true hs, cond_true] at h; exact absurd rfl h
  · rw [decide_eq_false hs, Bool.false_and]; exact ⟨rfl, rfl⟩

end Go.Proofs.Ytdceegllpcepnaa

/-
Roots that are followed: plain words.
-/
set_option linter.unusedSimpArgs false
set_option linter.unusedVariables false
namespace Go.Proofs.Ytdceegllpcepnaa
open Go.Sym
set_option maxRecDepth 10000
set_option maxHeartbeats 1000000

/-- How far a chain was followed. -/
structure Hd where
  epoch : Nat
  root : List UInt8
  key : List UInt8
abbrev hdD (h : Hd) : D := .st [.int .u64 (h.epoch : Int), digD h.root, digD h.key]
def hd0 : Hd := ⟨0, zero32, zero32⟩
def wfH (h : Hd) : Prop := h.epoch < 2 ^ 64 ∧ h.root.length = 32 ∧ h.key.length = 32
theorem wf_hd0 : wfH hd0 := ⟨by decide, rfl, rfl⟩
instance : DecidableEq Hd := fun a b => if h : a.epoch = b.epoch ∧ a.root = b.root ∧ a.key = b.key then isTrue (by cases a; cases b; simp_all) else isFalse (by rintro rfl; exact h ⟨rfl, rfl, rfl⟩)
theorem hd_ext (a b : Hd) : a = b ↔ a.epoch = b.epoch ∧ a.root = b.root ∧ a.key = b.key := ⟨fun h => by subst h; exact ⟨rfl, rfl, rfl⟩, fun h => by cases a; cases b; simp_all⟩

def wfR (r : Rt) : Prop := r.epoch < 2 ^ 64 ∧ r.prev.length = 32 ∧ r.tree.length = 32 ∧ r.next.length = 32
theorem wfS.wfR {s : Sgn} (h : wfS s) : wfR s.root := ⟨h.1, h.2, h.3, h.4⟩
/-- What is hashed, and signed, of a root. -/
def rootB (r : Rt) : List UInt8 := 82 :: (num8 r.epoch ++ r.prev ++ r.tree ++ r.next)
theorem rootB_length {r : Rt} (h : wfR r) : (rootB r).length = 105 := by
  obtain ⟨_, h1, h2, h3⟩ := h
  simp only [rootB, List.length_cons, List.length_append, num8_length, h1, h2, h3]

theorem num8_inj {a b : Nat} (ha : a < 2 ^ 64) (hb : b < 2 ^ 64) (h : num8 a = num8 b) : a = b := by
  have e : ∀ i, i < 8 → a / 256 ^ i % 256 = b / 256 ^ i % 256 := fun i hi => by
    have h1 := congrArg (fun l => (l.getD (7 - i) 0).toNat) h
    have g : ∀ n : Nat, ((num8 n).getD (7 - i) 0).toNat = n / 256 ^ i % 256 := fun n => by
      unfold num8
      rw [List.getD_eq_getElem?_getD, List.getElem?_map, List.getElem?_range (by omega)]
      show (byt8 n (7 - i)).toNat = _
      rw [byt8_low n i hi, UInt8.toNat_ofNat_of_lt' (Nat.mod_lt _ (by decide))]
    simpa only [g] using h1
  have h0 := e 0 (by omega); have h1 := e 1 (by omega); have h2 := e 2 (by omega); have h3 := e 3 (by omega)
  have h4 := e 4 (by omega); have h5 := e 5 (by omega); have h6 := e 6 (by omega); have h7 := e 7 (by omega)
  simp only [show (256 : Nat) ^ 0 = 1 from rfl, show (256 : Nat) ^ 1 = 256 from rfl, show (256 : Nat) ^ 2 = 65536 from rfl, show (256 : Nat) ^ 3 = 16777216 from rfl, show (256 : Nat) ^ 4 = 4294967296 from rfl, show (256 : Nat) ^ 5 = 1099511627776 from rfl, show (256 : Nat) ^ 6 = 281474976710656 from rfl, show (256 : Nat) ^ 7 = 72057594037927936 from rfl] at *
  omega

theorem rootB_inj {a b : Rt} (ha : wfR a) (hb : wfR b) (h : rootB a = rootB b) : a = b := by
  obtain ⟨a0, a1, a2, a3⟩ := ha
  obtain ⟨b0, b1, b2, b3⟩ := hb
  have h := (List.cons.inj h).2
  have h1 := List.append_inj h (by simp only [List.length_append, num8_length, a1, a2, b1, b2])
  have h2 := List.append_inj h1.1 (by simp only [List.length_append, num8_length, a1, b1])
  have h3 := List.append_inj h2.1 (by rw [num8_length, num8_length])
  exact (rt_ext a b).2 ⟨num8_inj a0 b0 h3.1, h3.2, h2.2, h1.2⟩

/-- Whether a root can be followed; the head behind it. -/
def folE (h : Hd) (s : Sgn) : Int := bif decide (64 ≤ h.epoch) || !decide (s.root.epoch = h.epoch + 1) then 10 else bif !decide (s.root.prev = h.root) || !decide (checkE h.key (rootB s.root) s.sig = 0) then 15 else 0
def folY (s : Sgn) : Hd := ⟨s.root.epoch, shaB (rootB s.root), s.root.next⟩
def folH (h : Hd) (s : Sgn) : Hd := bif decide (folE h s = 0) then folY s else hd0
theorem wf_folY {s : Sgn} (hs : wfS s) : wfH (folY s) := ⟨hs.1, shaB_length _, hs.4⟩
theorem wf_folH (h : Hd) {s : Sgn} (hs : wfS s) : wfH (folH h s) := by
  unfold folH
  cases decide (folE h s = 0)
  · exact wf_hd0
  · exact wf_folY hs

def walk (h : Hd) : List Sgn → Hd × Nat × Int
  | [] => (h, 0, 0)
  | s :: l => bif decide (folE h s = 0) then ((walk (folY s) l).1, (walk (folY s) l).2.1 + 1, (walk (folY s) l).2.2) else (hd0, 0, folE h s)

theorem walk_wf : ∀ (l : List Sgn) (h : Hd), wfH h → (∀ s, s ∈ l → wfS s) → wfH (walk h l).1
  | [], _, hh, _ => hh
  | s :: l, h, hh, hl => by
    unfold walk
    cases decide (folE h s = 0)
    · exact wf_hd0
    · exact walk_wf l _ (wf_folY (hl s (by simp))) fun x hx => hl x (by simp [hx])
theorem walk_le : ∀ (l : List Sgn) (h : Hd), (walk h l).2.1 ≤ l.length
  | [], _ => Nat.le_refl _
  | s :: l, h => by
    unfold walk
    cases decide (folE h s = 0)
    · exact Nat.zero_le _
    · exact Nat.succ_le_succ (walk_le l _)

/-- A walk seen from a place of it. -/
def walkAt (h : Hd) (l : List Sgn) (g : Hd) (i : Nat) : Prop := walk h l = ((walk g (l.drop i)).1, (walk g (l.drop i)).2.1 + i, (walk g (l.drop i)).2.2)
theorem walkAt_zero (h : Hd) (l : List Sgn) : walkAt h l h 0 := rfl
theorem walkAt_yes {h g : Hd} {l : List Sgn} {i : Nat} (hw : walkAt h l g i) (hi : i < l.length) (he : folE g (l.getD i s0) = 0) : walkAt h l (folY (l.getD i s0)) (i + 1) := by
  unfold walkAt at hw ⊢
  have hd : l.drop i = l.getD i s0 :: l.drop (i + 1) := by
    rw [List.drop_eq_getElem_cons hi, List.getD_eq_getElem?_getD, List.getElem?_eq_getElem hi]; rfl
  rw [hw, hd]
  simp only [walk, he, decide_true, cond_true]
  rw [Nat.add_assoc, Nat.add_comm 1 i]
theorem walkAt_no {h g : Hd} {l : List Sgn} {i : Nat} (hw : walkAt h l g i) (hi : i < l.length) (he : ¬ folE g (l.getD i s0) = 0) : walk h l = (hd0, i, folE g (l.getD i s0)) := by
  unfold walkAt at hw
  have hd : l.drop i = l.getD i s0 :: l.drop (i + 1) := by
    rw [List.drop_eq_getElem_cons hi, List.getD_eq_getElem?_getD, List.getElem?_eq_getElem hi]; rfl
  rw [hw, hd]
  simp only [walk, decide_eq_false he, cond_false, Nat.zero_add]
theorem walkAt_end {h g : Hd} {l : List Sgn} {i : Nat} (hw : walkAt h l g i) (hi : l.length ≤ i) : walk h l = (g, i, 0) := by
  unfold walkAt at hw
  rw [hw, List.drop_eq_nil_of_le hi]
  simp only [walk, Nat.zero_add]

theorem walk_append : ∀ (l m : List Sgn) (h : Hd), walk h (l ++ m) = bif decide ((walk h l).2.2 = 0) then ((walk (walk h l).1 m).1, (walk h l).2.1 + (walk (walk h l).1 m).2.1, (walk (walk h l).1 m).2.2) else walk h l
  | [], m, h => by simp [walk]
  | s :: l, m, h => by
    by_cases he : folE h s = 0
    · simp only [List.cons_append, walk, he, decide_true, cond_true]
      rw [walk_append l m]
      cases decide ((walk (folY s) l).2.2 = 0)
      · rfl
      · simp only [cond_true]; rw [Nat.add_right_comm]
    · simp only [List.cons_append, walk, decide_eq_false he, cond_false]

theorem folE_cases (h : Hd) (s : Sgn) : (64 ≤ h.epoch ∨ ¬ s.root.epoch = h.epoch + 1) ∧ folE h s = 10 ∨ (h.epoch < 64 ∧ s.root.epoch = h.epoch + 1) ∧ ((¬ s.root.prev = h.root ∨ ¬ checkE h.key (rootB s.root) s.sig = 0) ∧ folE h s = 15 ∨ s.root.prev = h.root ∧ checkE h.key (rootB s.root) s.sig = 0 ∧ folE h s = 0) := by
  unfold folE
  by_cases h1 : 64 ≤ h.epoch
  · exact .inl ⟨.inl h1, by rw [decide_eq_true h1]; rfl⟩
  · by_cases h2 : s.root.epoch = h.epoch + 1
    · refine .inr ⟨⟨by omega, h2⟩, ?_⟩
      rw [decide_eq_false h1, decide_eq_true h2]
      by_cases h3 : s.root.prev = h.root
      · by_cases h4 : checkE h.key (rootB s.root) s.sig = 0
        · exact .inr ⟨h3, h4, by rw [decide_eq_true h3, decide_eq_true h4]; rfl⟩
        · exact .inl ⟨.inr h4, by rw [decide_eq_true h3, decide_eq_false h4]; rfl⟩
      · exact .inl ⟨.inl h3, by rw [decide_eq_false h3]; rfl⟩
    · exact .inl ⟨.inr h2, by rw [decide_eq_false h1, decide_eq_false h2]; rfl⟩

end Go.Proofs.Ytdceegllpcepnaa

/-
A root's bytes; the first key's digest; the head ahead of all epochs; one root followed.
-/
set_option linter.unusedSimpArgs false
set_option linter.unusedVariables false
namespace Go.Proofs.Ytdceegllpcepnaa
open Go.Sym
set_option maxRecDepth 10000
set_option maxHeartbeats 4000000

theorem cut32c {d : List UInt8} (h : d.length = 32) : cutD (d.map byteD) 0 ((32 : Nat) : Int) = d.map byteD := by
  show List.drop 0 (List.take 32 _) = _
  rw [List.drop_zero, List.take_of_length_le (by rw [List.length_map, h]; exact Nat.le_refl _)]

theorem rootBytes_ok (r : Rt) (hr : wfR r) : LocalCall Try.prog 44 [.d (rootD r)] [] [] (one [.d (.sl ((rootB r).map byteD))]) [] := by
  have c1 := number_ok r.epoch r.epoch rfl
  have ef : (82 : UInt8) :: [num8 r.epoch, r.prev, r.tree, r.next].flatten = rootB r := by simp [rootB]
  have c3 := begin_ok 82 82 rfl [num8 r.epoch, r.prev, r.tree, r.next] (by show 4 < 2 ^ 63; decide) (by rw [ef, rootB_length hr]; decide)
  rw [ef] at c3
  have e1 := cut32c hr.2.1
  have e2 := cut32c hr.2.2.1
  have e3 := cut32c hr.2.2.2
  refine vc_fn mixed Try.func44 rfl rfl [(1, [500001])] (vc_chk rfl) ?_
  repeat' (first
      | ((with_reducible refine vc_chk ?_); first | decide +kernel | rfl)
      | (with_reducible refine vc_side0 ?_; rfl)
      | (with_reducible first
           | refine vc_true ?_ | refine vc_true2 ?_ | refine vc_side ?_ ?_ | refine vc_triv | refine vc_later ?_ | refine vc_caseT ?_ | refine vc_caseF ?_ | refine vc_cons ?_ | refine vc_nil ?_ ?_ | refine vc_seq ?_
              | refine vc_region ?_ | refine vc_cond ?_ | refine vc_block ?_ | refine vc_retc ?_ | refine vc_exit ?_ | refine vc_skip ?_ | refine vc_scope ?_ | refine vc_label ?_ | refine vc_goto ?_ | refine vc_wkSl0
              | refine vc_wkHp0 | refine vc_eqAVs0 | refine vc_preG0 | refine vc_wkSl ?_ ?_ | refine vc_wkHp ?_ ?_ | refine vc_eqAVs ?_ ?_ | refine vc_preG ?_ ?_ | refine vc_side0 ?_ | refine vc_pure c1 ?_ ?_ ?_
              | refine vc_call [false, true] c3 ?_ | refine vc_weakf [] ?_ ?_ ?_ | refine vc_and ?_ ?_ | refine vc_ret [] [] ?_)
      | ((with_reducible first | refine vc_caseD (fun h => ?_) (fun h => ?_) | refine vc_caseN (fun h => ?_) (fun h => ?_)) <;> try (exfalso; omega))
      | ((with_reducible refine vc_case (fun h => ?_) (fun h => ?_)) <;> (try simp only [Bool.cond_true_left, Bool.cond_false_right, Bool.cond_true_right, Bool.cond_false_left, Bool.and_eq_true, Bool.or_eq_true, Bool.and_eq_false_iff, Bool.or_eq_false_iff, Bool.not_eq_true', Bool.not_eq_false', Bool.not_eq_true, Bool.not_eq_false, Bool.not_not, decide_eq_true_eq, decide_eq_false_iff_not, beq_iff_eq, beq_eq_false_iff_ne, bne_iff_ne, bne_eq_false_iff_eq, ne_eq, Classical.not_not, reduceCtorEq, false_or, or_false, true_and, and_true, Bool.false_eq_true, Bool.true_eq_false] at h) <;> try (exfalso; first | omega | (simp at h; done)))
      | (conv in Vc _ => arg 1; whnf
         first
          | (with_reducible refine vc_side0 ?_; rfl)
          | (with_reducible first
              | refine vc_true ?_ | refine vc_true2 ?_ | refine vc_side ?_ ?_ | refine vc_triv | refine vc_later ?_ | refine vc_caseT ?_ | refine vc_caseF ?_ | refine vc_cons ?_ | refine vc_nil ?_ ?_ | refine vc_seq ?_
                 | refine vc_region ?_ | refine vc_cond ?_ | refine vc_block ?_ | refine vc_retc ?_ | refine vc_exit ?_ | refine vc_skip ?_ | refine vc_scope ?_ | refine vc_label ?_ | refine vc_goto ?_ | refine vc_wkSl0
                 | refine vc_wkHp0 | refine vc_eqAVs0 | refine vc_preG0 | refine vc_wkSl ?_ ?_ | refine vc_wkHp ?_ ?_ | refine vc_eqAVs ?_ ?_ | refine vc_preG ?_ ?_ | refine vc_side0 ?_ | refine vc_pure c1 ?_ ?_ ?_
                 | refine vc_call [false, true] c3 ?_ | refine vc_weakf [] ?_ ?_ ?_ | refine vc_and ?_ ?_ | refine vc_ret [] [] ?_)
          | ((with_reducible first | refine vc_caseD (fun h => ?_) (fun h => ?_) | refine vc_caseN (fun h => ?_) (fun h => ?_)) <;> try (exfalso; omega))
          | ((with_reducible refine vc_case (fun h => ?_) (fun h => ?_)) <;> (try simp only [Bool.cond_true_left, Bool.cond_false_right, Bool.cond_true_right, Bool.cond_false_left, Bool.and_eq_true, Bool.or_eq_true, Bool.and_eq_false_iff, Bool.or_eq_false_iff, Bool.not_eq_true', Bool.not_eq_false', Bool.not_eq_true, Bool.not_eq_false, Bool.not_not, decide_eq_true_eq, decide_eq_false_iff_not, beq_iff_eq, beq_eq_false_iff_ne, bne_iff_ne, bne_eq_false_iff_eq, ne_eq, Classical.not_not, reduceCtorEq, false_or, or_false, true_and, and_true, Bool.false_eq_true, Bool.true_eq_false] at h) <;> try (exfalso; first | omega | (simp at h; done)))))
  all_goals first
    | with_reducible rfl
    | (show D.sl [.sl ((num8 r.epoch).map byteD), .sl (cutD (r.prev.map byteD) 0 ((32 : Nat) : Int)), .sl (cutD (r.tree.map byteD) 0 ((32 : Nat) : Int)), .sl (cutD (r.next.map byteD) 0 ((32 : Nat) : Int))] = _
       rw [e1, e2, e3]; first | done | rfl)
    | exact ⟨Nat.le_of_eq (Nat.zero_add _), trivial⟩
    | exact ⟨by decide, by decide, by decide⟩
    | rfl
    | skip

theorem rRootBytes_ok (r : Rt) (hr : wfR r) : LocalCall Try.prog 45 [.d (rootD r)] [] [] (one [.d (.sl ((rootB r).map byteD))]) [] := by
  have c1 := rNumber_ok r.epoch r.epoch rfl hr.1
  have ef : (82 : UInt8) :: [num8 r.epoch, r.prev, r.tree, r.next].flatten = rootB r := by simp [rootB]
  have c3 := sign_ok 82 82 rfl [num8 r.epoch, r.prev, r.tree, r.next] (by show 4 < 2 ^ 62; decide) (by rw [ef, rootB_length hr]; decide)
  rw [ef] at c3
  have e1 := cut32c hr.2.1
  have e2 := cut32c hr.2.2.1
  have e3 := cut32c hr.2.2.2
  refine vc_fn mixed Try.func45 rfl rfl [(1, [500001])] (vc_chk rfl) ?_
  repeat' (first
      | ((with_reducible refine vc_chk ?_); first | decide +kernel | rfl)
      | (with_reducible refine vc_side0 ?_; rfl)
      | (with_reducible first
           | refine vc_true ?_ | refine vc_true2 ?_ | refine vc_side ?_ ?_ | refine vc_triv | refine vc_later ?_ | refine vc_caseT ?_ | refine vc_caseF ?_ | refine vc_cons ?_ | refine vc_nil ?_ ?_ | refine vc_seq ?_
              | refine vc_region ?_ | refine vc_cond ?_ | refine vc_block ?_ | refine vc_retc ?_ | refine vc_exit ?_ | refine vc_skip ?_ | refine vc_scope ?_ | refine vc_label ?_ | refine vc_goto ?_ | refine vc_wkSl0
              | refine vc_wkHp0 | refine vc_eqAVs0 | refine vc_preG0 | refine vc_wkSl ?_ ?_ | refine vc_wkHp ?_ ?_ | refine vc_eqAVs ?_ ?_ | refine vc_preG ?_ ?_ | refine vc_side0 ?_ | refine vc_pure c1 ?_ ?_ ?_
              | refine vc_call [false, true] c3 ?_ | refine vc_weakf [] ?_ ?_ ?_ | refine vc_and ?_ ?_ | refine vc_ret [] [] ?_)
      | ((with_reducible first | refine vc_caseD (fun h => ?_) (fun h => ?_) | refine vc_caseN (fun h => ?_) (fun h => ?_)) <;> try (exfalso; omega))
      | ((with_reducible refine vc_case (fun h => ?_) (fun h => ?_)) <;> (try simp only [Bool.cond_true_left, Bool.cond_false_right, Bool.cond_true_right, Bool.cond_false_left, Bool.and_eq_true, Bool.or_eq_true, Bool.and_eq_false_iff, Bool.or_eq_false_iff, Bool.not_eq_true', Bool.not_eq_false', Bool.not_eq_true, Bool.not_eq_false, Bool.not_not, decide_eq_true_eq, decide_eq_false_iff_not, beq_iff_eq, beq_eq_false_iff_ne, bne_iff_ne, bne_eq_false_iff_eq, ne_eq, Classical.not_not, reduceCtorEq, false_or, or_false, true_and, and_true, Bool.false_eq_true, Bool.true_eq_false] at h) <;> try (exfalso; first | omega | (simp at h; done)))
      | (conv in Vc _ => arg 1; whnf
         first
          | (with_reducible refine vc_side0 ?_; rfl)
          | (with_reducible first
              | refine vc_true ?_ | refine vc_true2 ?_ | refine vc_side ?_ ?_ | refine vc_triv | refine vc_later ?_ | refine vc_caseT ?_ | refine vc_caseF ?_ | refine vc_cons ?_ | refine vc_nil ?_ ?_ | refine vc_seq ?_
                 | refine vc_region ?_ | refine vc_cond ?_ | refine vc_block ?_ | refine vc_retc ?_ | refine vc_exit ?_ | refine vc_skip ?_ | refine vc_scope ?_ | refine vc_label ?_ | refine vc_goto ?_ | refine vc_wkSl0
                 | refine vc_wkHp0 | refine vc_eqAVs0 | refine vc_preG0 | refine vc_wkSl ?_ ?_ | refine vc_wkHp ?_ ?_ | refine vc_eqAVs ?_ ?_ | refine vc_preG ?_ ?_ | refine vc_side0 ?_ | refine vc_pure c1 ?_ ?_ ?_
                 | refine vc_call [false, true] c3 ?_ | refine vc_weakf [] ?_ ?_ ?_ | refine vc_and ?_ ?_ | refine vc_ret [] [] ?_)
          | ((with_reducible first | refine vc_caseD (fun h => ?_) (fun h => ?_) | refine vc_caseN (fun h => ?_) (fun h => ?_)) <;> try (exfalso; omega))
          | ((with_reducible refine vc_case (fun h => ?_) (fun h => ?_)) <;> (try simp only [Bool.cond_true_left, Bool.cond_false_right, Bool.cond_true_right, Bool.cond_false_left, Bool.and_eq_true, Bool.or_eq_true, Bool.and_eq_false_iff, Bool.or_eq_false_iff, Bool.not_eq_true', Bool.not_eq_false', Bool.not_eq_true, Bool.not_eq_false, Bool.not_not, decide_eq_true_eq, decide_eq_false_iff_not, beq_iff_eq, beq_eq_false_iff_ne, bne_iff_ne, bne_eq_false_iff_eq, ne_eq, Classical.not_not, reduceCtorEq, false_or, or_false, true_and, and_true, Bool.false_eq_true, Bool.true_eq_false] at h) <;> try (exfalso; first | omega | (simp at h; done)))))
  all_goals first
    | with_reducible rfl
    | (show D.sl [.sl ((num8 r.epoch).map byteD), .sl (cutD (r.prev.map byteD) 0 ((32 : Nat) : Int)), .sl (cutD (r.tree.map byteD) 0 ((32 : Nat) : Int)), .sl (cutD (r.next.map byteD) 0 ((32 : Nat) : Int))] = _
       rw [e1, e2, e3]; first | done | rfl)
    | exact ⟨Nat.le_of_eq (Nat.zero_add _), trivial⟩
    | exact ⟨by decide, by decide, by decide⟩
    | rfl
    | skip

theorem rRoot_ok (r : Rt) (hr : wfR r) : LocalCall Try.prog 24 [.d (rootD r)] [] [] (one [.d (digD (shaB (rootB r)))]) [] := by
  have c1 := rRootBytes_ok r hr
  have c2 := rOf_ok (rootB r) (by rw [rootB_length hr]; decide)
  refine vc_fn mixed Try.func24 rfl rfl [] (vc_chk rfl) ?_
  repeat' (first
      | ((with_reducible refine vc_chk ?_); first | decide +kernel | rfl)
      | (with_reducible refine vc_side0 ?_; rfl)
      | (with_reducible first
           | refine vc_true ?_ | refine vc_true2 ?_ | refine vc_side ?_ ?_ | refine vc_triv | refine vc_later ?_ | refine vc_caseT ?_ | refine vc_caseF ?_ | refine vc_cons ?_ | refine vc_nil ?_ ?_ | refine vc_seq ?_
              | refine vc_region ?_ | refine vc_cond ?_ | refine vc_block ?_ | refine vc_retc ?_ | refine vc_exit ?_ | refine vc_skip ?_ | refine vc_scope ?_ | refine vc_label ?_ | refine vc_goto ?_ | refine vc_wkSl0
              | refine vc_wkHp0 | refine vc_eqAVs0 | refine vc_preG0 | refine vc_wkSl ?_ ?_ | refine vc_wkHp ?_ ?_ | refine vc_eqAVs ?_ ?_ | refine vc_preG ?_ ?_ | refine vc_side0 ?_ | refine vc_pure c1 ?_ ?_ ?_
              | refine vc_pure c2 ?_ ?_ ?_ | refine vc_weakf [] ?_ ?_ ?_ | refine vc_and ?_ ?_ | refine vc_ret [] [] ?_)
      | ((with_reducible first | refine vc_caseD (fun h => ?_) (fun h => ?_) | refine vc_caseN (fun h => ?_) (fun h => ?_)) <;> try (exfalso; omega))
      | ((with_reducible refine vc_case (fun h => ?_) (fun h => ?_)) <;> (try simp only [Bool.cond_true_left, Bool.cond_false_right, Bool.cond_true_right, Bool.cond_false_left, Bool.and_eq_true, Bool.or_eq_true, Bool.and_eq_false_iff, Bool.or_eq_false_iff, Bool.not_eq_true', Bool.not_eq_false', Bool.not_eq_true, Bool.not_eq_false, Bool.not_not, decide_eq_true_eq, decide_eq_false_iff_not, beq_iff_eq, beq_eq_false_iff_ne, bne_iff_ne, bne_eq_false_iff_eq, ne_eq, Classical.not_not, reduceCtorEq, false_or, or_false, true_and, and_true, Bool.false_eq_true, Bool.true_eq_false] at h) <;> try (exfalso; first | omega | (simp at h; done)))
      | (conv in Vc _ => arg 1; whnf
         first
          | (with_reducible refine vc_side0 ?_; rfl)
          | (with_reducible first
              | refine vc_true ?_ | refine vc_true2 ?_ | refine vc_side ?_ ?_ | refine vc_triv | refine vc_later ?_ | refine vc_caseT ?_ | refine vc_caseF ?_ | refine vc_cons ?_ | refine vc_nil ?_ ?_ | refine vc_seq ?_
                 | refine vc_region ?_ | refine vc_cond ?_ | refine vc_block ?_ | refine vc_retc ?_ | refine vc_exit ?_ | refine vc_skip ?_ | refine vc_scope ?_ | refine vc_label ?_ | refine vc_goto ?_ | refine vc_wkSl0
                 | refine vc_wkHp0 | refine vc_eqAVs0 | refine vc_preG0 | refine vc_wkSl ?_ ?_ | refine vc_wkHp ?_ ?_ | refine vc_eqAVs ?_ ?_ | refine vc_preG ?_ ?_ | refine vc_side0 ?_ | refine vc_pure c1 ?_ ?_ ?_
                 | refine vc_pure c2 ?_ ?_ ?_ | refine vc_weakf [] ?_ ?_ ?_ | refine vc_and ?_ ?_ | refine vc_ret [] [] ?_)
          | ((with_reducible first | refine vc_caseD (fun h => ?_) (fun h => ?_) | refine vc_caseN (fun h => ?_) (fun h => ?_)) <;> try (exfalso; omega))
          | ((with_reducible refine vc_case (fun h => ?_) (fun h => ?_)) <;> (try simp only [Bool.cond_true_left, Bool.cond_false_right, Bool.cond_true_right, Bool.cond_false_left, Bool.and_eq_true, Bool.or_eq_true, Bool.and_eq_false_iff, Bool.or_eq_false_iff, Bool.not_eq_true', Bool.not_eq_false', Bool.not_eq_true, Bool.not_eq_false, Bool.not_not, decide_eq_true_eq, decide_eq_false_iff_not, beq_iff_eq, beq_eq_false_iff_ne, bne_iff_ne, bne_eq_false_iff_eq, ne_eq, Classical.not_not, reduceCtorEq, false_or, or_false, true_and, and_true, Bool.false_eq_true, Bool.true_eq_false] at h) <;> try (exfalso; first | omega | (simp at h; done)))))
  all_goals first
    | with_reducible rfl
    | omega
    | exact ⟨trivial, trivial⟩
    | exact ⟨trivial, trivial, trivial⟩
    | exact ⟨trivial, trivial, trivial, trivial⟩
    | exact ⟨⟨by decide, by decide, by decide⟩, trivial⟩
    | exact ⟨Nat.le_of_eq (Nat.zero_add _), trivial⟩
    | exact ⟨Nat.le_refl _, trivial, trivial⟩
    | (rw [wrap64_id (by omega) (by omega)]; rfl)
    | rfl
    | (exfalso; simp at h; done)
    | skip

/-- The digest of a seed's public key of a number. -/
def pubH (seed : List UInt8) (key : Nat) : List UInt8 := shaB (textP (keyH seed key))
theorem pubH_length (seed : List UInt8) (key : Nat) : (pubH seed key).length = 32 := shaB_length _

theorem fz6 : List.replicate 32 (D.zero Try.prog 6 5) = zero32.map byteD := rfl
theorem fz7 : List.replicate 32 (D.zero Try.prog 7 5) = zero32.map byteD := rfl

end Go.Proofs.Ytdceegllpcepnaa

/-
What is hashed of a binding with its salt.
-/
set_option linter.unusedSimpArgs false
set_option linter.unusedVariables false
namespace Go.Proofs.Ytdceegllpcepnaa
open Go.Sym
set_option maxRecDepth 10000
set_option maxHeartbeats 4000000

def valB (s : List UInt8) (b : Bnd) : List UInt8 := 86 :: (s ++ num8 b.name.length ++ b.name ++ num8 b.serial ++ b.key)
theorem valB_length {s : List UInt8} (hs : s.length = 32) (b : Bnd) : (valB s b).length = 49 + b.name.length + b.key.length := by
  simp only [valB, List.length_cons, List.length_append, num8_length, hs]; omega
theorem valB_inj {s t : List UInt8} {a b : Bnd} (hs : s.length = 32) (ht : t.length = 32) (ha : a.name.length < 2 ^ 64) (hb : b.name.length < 2 ^ 64) (ha2 : a.serial < 2 ^ 64) (hb2 : b.serial < 2 ^ 64) (h : valB s a = valB t b) : s = t ∧ a = b := by
  have h := (List.cons.inj h).2
  simp only [List.append_assoc] at h
  obtain ⟨e1, h⟩ := List.append_inj h (by rw [hs, ht])
  obtain ⟨e2, h⟩ := List.append_inj h (by rw [num8_length, num8_length])
  have e3 := num8_inj ha hb e2
  obtain ⟨e4, h⟩ := List.append_inj h e3
  obtain ⟨e5, h⟩ := List.append_inj h (by rw [num8_length, num8_length])
  exact ⟨e1, (bnd_ext a b).2 ⟨e4, num8_inj ha2 hb2 e5, h⟩⟩

section
variable (s : List UInt8) (hs : s.length = 32) (b : Bnd) (hl : b.name.length + b.key.length ≤ 4000) (hb : b.serial < 2 ^ 64)
include hs hl hb
omit hb in
theorem valueBytes_ok : LocalCall Try.prog 46 [.d (digD s), .d (bD b)] [] [] (one [.d (.sl ((valB s b).map byteD))]) [] := by
  have c0 := number_ok b.name.length b.name.length rfl
  have c1 := number_ok b.serial b.serial rfl
  have ef : (86 : UInt8) :: [s, num8 b.name.length, b.name, num8 b.serial, b.key].flatten = valB s b := by simp [valB]
  have c3 := begin_ok 86 86 rfl [s, num8 b.name.length, b.name, num8 b.serial, b.key] (by show 5 < 2 ^ 63; decide) (by rw [ef, valB_length hs]; omega)
  rw [ef] at c3
  have e1 := cut32c hs
  refine vc_fn mixed Try.func46 rfl rfl [(1, [500002])] (vc_chk rfl) ?_
  repeat' (first
      | ((with_reducible refine vc_chk ?_); first | decide +kernel | rfl)
      | (with_reducible refine vc_side0 ?_; rfl)
      | (with_reducible first
           | refine vc_true ?_ | refine vc_true2 ?_ | refine vc_side ?_ ?_ | refine vc_triv | refine vc_later ?_ | refine vc_caseT ?_ | refine vc_caseF ?_ | refine vc_cons ?_ | refine vc_nil ?_ ?_ | refine vc_seq ?_
              | refine vc_region ?_ | refine vc_cond ?_ | refine vc_block ?_ | refine vc_retc ?_ | refine vc_exit ?_ | refine vc_skip ?_ | refine vc_scope ?_ | refine vc_label ?_ | refine vc_goto ?_ | refine vc_wkSl0
              | refine vc_wkHp0 | refine vc_eqAVs0 | refine vc_preG0 | refine vc_wkSl ?_ ?_ | refine vc_wkHp ?_ ?_ | refine vc_eqAVs ?_ ?_ | refine vc_preG ?_ ?_ | refine vc_side0 ?_ | refine vc_pure c1 ?_ ?_ ?_
              | refine vc_call [] c0 ?_ | refine vc_call [false, true] c3 ?_ | refine vc_weakf [] ?_ ?_ ?_ | refine vc_and ?_ ?_ | refine vc_ret [] [] ?_)
      | ((with_reducible first | refine vc_caseD (fun h => ?_) (fun h => ?_) | refine vc_caseN (fun h => ?_) (fun h => ?_)) <;> try (exfalso; omega))
      | ((with_reducible refine vc_case (fun h => ?_) (fun h => ?_)) <;> (try simp only [Bool.cond_true_left, Bool.cond_false_right, Bool.cond_true_right, Bool.cond_false_left, Bool.and_eq_true, Bool.or_eq_true, Bool.and_eq_false_iff, Bool.or_eq_false_iff, Bool.not_eq_true', Bool.not_eq_false', Bool.not_eq_true, Bool.not_eq_false, Bool.not_not, decide_eq_true_eq, decide_eq_false_iff_not, beq_iff_eq, beq_eq_false_iff_ne, bne_iff_ne, bne_eq_false_iff_eq, ne_eq, Classical.not_not, reduceCtorEq, false_or, or_false, true_and, and_true, Bool.false_eq_true, Bool.true_eq_false] at h) <;> try (exfalso; first | omega | (simp at h; done)))
      | (conv in Vc _ => arg 1; whnf
         first
          | (with_reducible refine vc_side0 ?_; rfl)
          | (with_reducible first
              | refine vc_true ?_ | refine vc_true2 ?_ | refine vc_side ?_ ?_ | refine vc_triv | refine vc_later ?_ | refine vc_caseT ?_ | refine vc_caseF ?_ | refine vc_cons ?_ | refine vc_nil ?_ ?_ | refine vc_seq ?_
                 | refine vc_region ?_ | refine vc_cond ?_ | refine vc_block ?_ | refine vc_retc ?_ | refine vc_exit ?_ | refine vc_skip ?_ | refine vc_scope ?_ | refine vc_label ?_ | refine vc_goto ?_ | refine vc_wkSl0
                 | refine vc_wkHp0 | refine vc_eqAVs0 | refine vc_preG0 | refine vc_wkSl ?_ ?_ | refine vc_wkHp ?_ ?_ | refine vc_eqAVs ?_ ?_ | refine vc_preG ?_ ?_ | refine vc_side0 ?_ | refine vc_pure c1 ?_ ?_ ?_
                 | refine vc_call [] c0 ?_ | refine vc_call [false, true] c3 ?_ | refine vc_weakf [] ?_ ?_ ?_ | refine vc_and ?_ ?_ | refine vc_ret [] [] ?_)
          | ((with_reducible first | refine vc_caseD (fun h => ?_) (fun h => ?_) | refine vc_caseN (fun h => ?_) (fun h => ?_)) <;> try (exfalso; omega))
          | ((with_reducible refine vc_case (fun h => ?_) (fun h => ?_)) <;> (try simp only [Bool.cond_true_left, Bool.cond_false_right, Bool.cond_true_right, Bool.cond_false_left, Bool.and_eq_true, Bool.or_eq_true, Bool.and_eq_false_iff, Bool.or_eq_false_iff, Bool.not_eq_true', Bool.not_eq_false', Bool.not_eq_true, Bool.not_eq_false, Bool.not_not, decide_eq_true_eq, decide_eq_false_iff_not, beq_iff_eq, beq_eq_false_iff_ne, bne_iff_ne, bne_eq_false_iff_eq, ne_eq, Classical.not_not, reduceCtorEq, false_or, or_false, true_and, and_true, Bool.false_eq_true, Bool.true_eq_false] at h) <;> try (exfalso; first | omega | (simp at h; done)))))
  all_goals first
    | with_reducible rfl
    | exact ⟨by decide, by decide, by decide⟩
    | (show D.int .u64 (IntKind.u64.wrap ((b.name.length : Nat) : Int)) = _; rw [wrapU64_id (by omega) (by omega)])
    | exact ⟨trivial, trivial, (str_side b.name).1, trivial, trivial, trivial⟩
    | exact ⟨Nat.le_of_eq (Nat.zero_add _), trivial⟩
    | (show D.sl [D.sl (cutD (s.map byteD) 0 ((32 : Nat) : Int)), D.sl ((num8 b.name.length).map byteD), D.sl _, D.sl ((num8 b.serial).map byteD), D.sl (b.key.map byteD)] = _
       rw [e1, str_cut]; rfl)
    | rfl
    | trace_state

theorem rValueBytes_ok : LocalCall Try.prog 47 [.d (digD s), .d (bD b)] [] [] (one [.d (.sl ((valB s b).map byteD))]) [] := by
  have c0 := rNumber_ok b.name.length b.name.length rfl (by omega)
  have c1 := rNumber_ok b.serial b.serial rfl hb
  have ef : (86 : UInt8) :: [s, num8 b.name.length, b.name, num8 b.serial, b.key].flatten = valB s b := by simp [valB]
  have c3 := sign_ok 86 86 rfl [s, num8 b.name.length, b.name, num8 b.serial, b.key] (by show 5 < 2 ^ 62; decide) (by rw [ef, valB_length hs]; omega)
  rw [ef] at c3
  have e1 := cut32c hs
  refine vc_fn mixed Try.func47 rfl rfl [(1, [500002])] (vc_chk rfl) ?_
  repeat' (first
      | ((with_reducible refine vc_chk ?_); first | decide +kernel | rfl)
      | (with_reducible refine vc_side0 ?_; rfl)
      | (with_reducible first
           | refine vc_true ?_ | refine vc_true2 ?_ | refine vc_side ?_ ?_ | refine vc_triv | refine vc_later ?_ | refine vc_caseT ?_ | refine vc_caseF ?_ | refine vc_cons ?_ | refine vc_nil ?_ ?_ | refine vc_seq ?_
              | refine vc_region ?_ | refine vc_cond ?_ | refine vc_block ?_ | refine vc_retc ?_ | refine vc_exit ?_ | refine vc_skip ?_ | refine vc_scope ?_ | refine vc_label ?_ | refine vc_goto ?_ | refine vc_wkSl0
              | refine vc_wkHp0 | refine vc_eqAVs0 | refine vc_preG0 | refine vc_wkSl ?_ ?_ | refine vc_wkHp ?_ ?_ | refine vc_eqAVs ?_ ?_ | refine vc_preG ?_ ?_ | refine vc_side0 ?_ | refine vc_pure c1 ?_ ?_ ?_
              | refine vc_call [] c0 ?_ | refine vc_call [false, true] c3 ?_ | refine vc_weakf [] ?_ ?_ ?_ | refine vc_and ?_ ?_ | refine vc_ret [] [] ?_)
      | ((with_reducible first | refine vc_caseD (fun h => ?_) (fun h => ?_) | refine vc_caseN (fun h => ?_) (fun h => ?_)) <;> try (exfalso; omega))
      | ((with_reducible refine vc_case (fun h => ?_) (fun h => ?_)) <;> (try simp only [Bool.cond_true_left, Bool.cond_false_right, Bool.cond_true_right, Bool.cond_false_left, Bool.and_eq_true, Bool.or_eq_true, Bool.and_eq_false_iff, Bool.or_eq_false_iff, Bool.not_eq_true', Bool.not_eq_false', Bool.not_eq_true, Bool.not_eq_false, Bool.not_not, decide_eq_true_eq, decide_eq_false_iff_not, beq_iff_eq, beq_eq_false_iff_ne, bne_iff_ne, bne_eq_false_iff_eq, ne_eq, Classical.not_not, reduceCtorEq, false_or, or_false, true_and, and_true, Bool.false_eq_true, Bool.true_eq_false] at h) <;> try (exfalso; first | omega | (simp at h; done)))
      | (conv in Vc _ => arg 1; whnf
         first
          | (with_reducible refine vc_side0 ?_; rfl)
          | (with_reducible first
              | refine vc_true ?_ | refine vc_true2 ?_ | refine vc_side ?_ ?_ | refine vc_triv | refine vc_later ?_ | refine vc_caseT ?_ | refine vc_caseF ?_ | refine vc_cons ?_ | refine vc_nil ?_ ?_ | refine vc_seq ?_
                 | refine vc_region ?_ | refine vc_cond ?_ | refine vc_block ?_ | refine vc_retc ?_ | refine vc_exit ?_ | refine vc_skip ?_ | refine vc_scope ?_ | refine vc_label ?_ | refine vc_goto ?_ | refine vc_wkSl0
                 | refine vc_wkHp0 | refine vc_eqAVs0 | refine vc_preG0 | refine vc_wkSl ?_ ?_ | refine vc_wkHp ?_ ?_ | refine vc_eqAVs ?_ ?_ | refine vc_preG ?_ ?_ | refine vc_side0 ?_ | refine vc_pure c1 ?_ ?_ ?_
                 | refine vc_call [] c0 ?_ | refine vc_call [false, true] c3 ?_ | refine vc_weakf [] ?_ ?_ ?_ | refine vc_and ?_ ?_ | refine vc_ret [] [] ?_)
          | ((with_reducible first | refine vc_caseD (fun h => ?_) (fun h => ?_) | refine vc_caseN (fun h => ?_) (fun h => ?_)) <;> try (exfalso; omega))
          | ((with_reducible refine vc_case (fun h => ?_) (fun h => ?_)) <;> (try simp only [Bool.cond_true_left, Bool.cond_false_right, Bool.cond_true_right, Bool.cond_false_left, Bool.and_eq_true, Bool.or_eq_true, Bool.and_eq_false_iff, Bool.or_eq_false_iff, Bool.not_eq_true', Bool.not_eq_false', Bool.not_eq_true, Bool.not_eq_false, Bool.not_not, decide_eq_true_eq, decide_eq_false_iff_not, beq_iff_eq, beq_eq_false_iff_ne, bne_iff_ne, bne_eq_false_iff_eq, ne_eq, Classical.not_not, reduceCtorEq, false_or, or_false, true_and, and_true, Bool.false_eq_true, Bool.true_eq_false] at h) <;> try (exfalso; first | omega | (simp at h; done)))))
  all_goals first
    | with_reducible rfl
    | exact ⟨by decide, by decide, by decide⟩
    | (show D.int .u64 (IntKind.u64.wrap ((b.name.length : Nat) : Int)) = _; rw [wrapU64_id (by omega) (by omega)])
    | exact ⟨trivial, trivial, (str_side b.name).1, trivial, trivial, trivial⟩
    | exact ⟨Nat.le_of_eq (Nat.zero_add _), trivial⟩
    | (show D.sl [D.sl (cutD (s.map byteD) 0 ((32 : Nat) : Int)), D.sl ((num8 b.name.length).map byteD), D.sl _, D.sl ((num8 b.serial).map byteD), D.sl (b.key.map byteD)] = _
       rw [e1, str_cut]; rfl)
    | rfl
    | trace_state

theorem rValue_ok : LocalCall Try.prog 27 [.d (digD s), .d (bD b)] [] [] (one [.d (digD (shaB (valB s b)))]) [] := by
  have c1 := rValueBytes_ok s hs b hl hb
  have c2 := rOf_ok (valB s b) (by rw [valB_length hs]; omega)
  refine vc_fn mixed Try.func27 rfl rfl [] (vc_chk rfl) ?_
  repeat' (first
      | ((with_reducible refine vc_chk ?_); first | decide +kernel | rfl)
      | (with_reducible refine vc_side0 ?_; rfl)
      | (with_reducible first
           | refine vc_true ?_ | refine vc_true2 ?_ | refine vc_side ?_ ?_ | refine vc_triv | refine vc_later ?_ | refine vc_caseT ?_ | refine vc_caseF ?_ | refine vc_cons ?_ | refine vc_nil ?_ ?_ | refine vc_seq ?_
              | refine vc_region ?_ | refine vc_cond ?_ | refine vc_block ?_ | refine vc_retc ?_ | refine vc_exit ?_ | refine vc_skip ?_ | refine vc_scope ?_ | refine vc_label ?_ | refine vc_goto ?_ | refine vc_wkSl0
              | refine vc_wkHp0 | refine vc_eqAVs0 | refine vc_preG0 | refine vc_wkSl ?_ ?_ | refine vc_wkHp ?_ ?_ | refine vc_eqAVs ?_ ?_ | refine vc_preG ?_ ?_ | refine vc_side0 ?_ | refine vc_pure c1 ?_ ?_ ?_
              | refine vc_pure c2 ?_ ?_ ?_ | refine vc_weakf [] ?_ ?_ ?_ | refine vc_and ?_ ?_ | refine vc_ret [] [] ?_)
      | ((with_reducible first | refine vc_caseD (fun h => ?_) (fun h => ?_) | refine vc_caseN (fun h => ?_) (fun h => ?_)) <;> try (exfalso; omega))
      | ((with_reducible refine vc_case (fun h => ?_) (fun h => ?_)) <;> (try simp only [Bool.cond_true_left, Bool.cond_false_right, Bool.cond_true_right, Bool.cond_false_left, Bool.and_eq_true, Bool.or_eq_true, Bool.and_eq_false_iff, Bool.or_eq_false_iff, Bool.not_eq_true', Bool.not_eq_false', Bool.not_eq_true, Bool.not_eq_false, Bool.not_not, decide_eq_true_eq, decide_eq_false_iff_not, beq_iff_eq, beq_eq_false_iff_ne, bne_iff_ne, bne_eq_false_iff_eq, ne_eq, Classical.not_not, reduceCtorEq, false_or, or_false, true_and, and_true, Bool.false_eq_true, Bool.true_eq_false] at h) <;> try (exfalso; first | omega | (simp at h; done)))
      | (conv in Vc _ => arg 1; whnf
         first
          | (with_reducible refine vc_side0 ?_; rfl)
          | (with_reducible first
              | refine vc_true ?_ | refine vc_true2 ?_ | refine vc_side ?_ ?_ | refine vc_triv | refine vc_later ?_ | refine vc_caseT ?_ | refine vc_caseF ?_ | refine vc_cons ?_ | refine vc_nil ?_ ?_ | refine vc_seq ?_
                 | refine vc_region ?_ | refine vc_cond ?_ | refine vc_block ?_ | refine vc_retc ?_ | refine vc_exit ?_ | refine vc_skip ?_ | refine vc_scope ?_ | refine vc_label ?_ | refine vc_goto ?_ | refine vc_wkSl0
                 | refine vc_wkHp0 | refine vc_eqAVs0 | refine vc_preG0 | refine vc_wkSl ?_ ?_ | refine vc_wkHp ?_ ?_ | refine vc_eqAVs ?_ ?_ | refine vc_preG ?_ ?_ | refine vc_side0 ?_ | refine vc_pure c1 ?_ ?_ ?_
                 | refine vc_pure c2 ?_ ?_ ?_ | refine vc_weakf [] ?_ ?_ ?_ | refine vc_and ?_ ?_ | refine vc_ret [] [] ?_)
          | ((with_reducible first | refine vc_caseD (fun h => ?_) (fun h => ?_) | refine vc_caseN (fun h => ?_) (fun h => ?_)) <;> try (exfalso; omega))
          | ((with_reducible refine vc_case (fun h => ?_) (fun h => ?_)) <;> (try simp only [Bool.cond_true_left, Bool.cond_false_right, Bool.cond_true_right, Bool.cond_false_left, Bool.and_eq_true, Bool.or_eq_true, Bool.and_eq_false_iff, Bool.or_eq_false_iff, Bool.not_eq_true', Bool.not_eq_false', Bool.not_eq_true, Bool.not_eq_false, Bool.not_not, decide_eq_true_eq, decide_eq_false_iff_not, beq_iff_eq, beq_eq_false_iff_ne, bne_iff_ne, bne_eq_false_iff_eq, ne_eq, Classical.not_not, reduceCtorEq, false_or, or_false, true_and, and_true, Bool.false_eq_true, Bool.true_eq_false] at h) <;> try (exfalso; first | omega | (simp at h; done)))))
  all_goals first
    | with_reducible rfl
    | omega
    | exact ⟨trivial, trivial⟩
    | exact ⟨trivial, trivial, trivial⟩
    | exact ⟨trivial, trivial, trivial, trivial⟩
    | exact ⟨⟨by decide, by decide, by decide⟩, trivial⟩
    | exact ⟨Nat.le_of_eq (Nat.zero_add _), trivial⟩
    | exact ⟨Nat.le_refl _, trivial, trivial⟩
    | (rw [wrap64_id (by omega) (by omega)]; rfl)
    | rfl
    | (exfalso; simp at h; done)
    | skip
end

theorem values_ok (s t : List UInt8) (hs : s.length = 32) (ht : t.length = 32) (a b : Bnd) (ha : a.name.length + a.key.length ≤ 4000) (hb : b.name.length + b.key.length ≤ 4000) :
    LocalCall Try.prog 25 [.d (digD s), .d (bD a), .d (digD t), .d (bD b)] [] [] (one [.d (.sl ((tellA (valB s a) (valB t b)).map byteD)), .d (.sl ((tellB (valB s a) (valB t b)).map byteD)), .d (.bool (pairB (valB s a) (valB t b)))]) [] := by
  have c1 := valueBytes_ok s hs a ha
  have c2 := valueBytes_ok t ht b hb
  have c3 := cpair_ok (valB s a) (valB t b) (by rw [valB_length hs]; omega) (by rw [valB_length ht]; omega)
  refine vc_fn mixed Try.func25 rfl rfl [] (vc_chk rfl) ?_
  repeat' (first
      | ((with_reducible refine vc_chk ?_); first | decide +kernel | rfl)
      | (with_reducible refine vc_side0 ?_; rfl)
      | (with_reducible first
           | refine vc_true ?_ | refine vc_true2 ?_ | refine vc_side ?_ ?_ | refine vc_triv | refine vc_later ?_ | refine vc_caseT ?_ | refine vc_caseF ?_ | refine vc_cons ?_ | refine vc_nil ?_ ?_ | refine vc_seq ?_
              | refine vc_region ?_ | refine vc_cond ?_ | refine vc_block ?_ | refine vc_retc ?_ | refine vc_exit ?_ | refine vc_skip ?_ | refine vc_scope ?_ | refine vc_label ?_ | refine vc_goto ?_ | refine vc_wkSl0
              | refine vc_wkHp0 | refine vc_eqAVs0 | refine vc_preG0 | refine vc_wkSl ?_ ?_ | refine vc_wkHp ?_ ?_ | refine vc_eqAVs ?_ ?_ | refine vc_preG ?_ ?_ | refine vc_side0 ?_ | refine vc_pure c1 ?_ ?_ ?_
              | refine vc_pure c2 ?_ ?_ ?_ | refine vc_pure c3 ?_ ?_ ?_ | refine vc_weakf [] ?_ ?_ ?_ | refine vc_and ?_ ?_ | refine vc_ret [] [] ?_)
      | ((with_reducible first | refine vc_caseD (fun h => ?_) (fun h => ?_) | refine vc_caseN (fun h => ?_) (fun h => ?_)) <;> try (exfalso; omega))
      | ((with_reducible refine vc_case (fun h => ?_) (fun h => ?_)) <;> (try simp only [Bool.cond_true_left, Bool.cond_false_right, Bool.cond_true_right, Bool.cond_false_left, Bool.and_eq_true, Bool.or_eq_true, Bool.and_eq_false_iff, Bool.or_eq_false_iff, Bool.not_eq_true', Bool.not_eq_false', Bool.not_eq_true, Bool.not_eq_false, Bool.not_not, decide_eq_true_eq, decide_eq_false_iff_not, beq_iff_eq, beq_eq_false_iff_ne, bne_iff_ne, bne_eq_false_iff_eq, ne_eq, Classical.not_not, reduceCtorEq, false_or, or_false, true_and, and_true, Bool.false_eq_true, Bool.true_eq_false] at h) <;> try (exfalso; first | omega | (simp at h; done)))
      | (conv in Vc _ => arg 1; whnf
         first
          | (with_reducible refine vc_side0 ?_; rfl)
          | (with_reducible first
              | refine vc_true ?_ | refine vc_true2 ?_ | refine vc_side ?_ ?_ | refine vc_triv | refine vc_later ?_ | refine vc_caseT ?_ | refine vc_caseF ?_ | refine vc_cons ?_ | refine vc_nil ?_ ?_ | refine vc_seq ?_
                 | refine vc_region ?_ | refine vc_cond ?_ | refine vc_block ?_ | refine vc_retc ?_ | refine vc_exit ?_ | refine vc_skip ?_ | refine vc_scope ?_ | refine vc_label ?_ | refine vc_goto ?_ | refine vc_wkSl0
                 | refine vc_wkHp0 | refine vc_eqAVs0 | refine vc_preG0 | refine vc_wkSl ?_ ?_ | refine vc_wkHp ?_ ?_ | refine vc_eqAVs ?_ ?_ | refine vc_preG ?_ ?_ | refine vc_side0 ?_ | refine vc_pure c1 ?_ ?_ ?_
                 | refine vc_pure c2 ?_ ?_ ?_ | refine vc_pure c3 ?_ ?_ ?_ | refine vc_weakf [] ?_ ?_ ?_ | refine vc_and ?_ ?_ | refine vc_ret [] [] ?_)
          | ((with_reducible first | refine vc_caseD (fun h => ?_) (fun h => ?_) | refine vc_caseN (fun h => ?_) (fun h => ?_)) <;> try (exfalso; omega))
          | ((with_reducible refine vc_case (fun h => ?_) (fun h => ?_)) <;> (try simp only [Bool.cond_true_left, Bool.cond_false_right, Bool.cond_true_right, Bool.cond_false_left, Bool.and_eq_true, Bool.or_eq_true, Bool.and_eq_false_iff, Bool.or_eq_false_iff, Bool.not_eq_true', Bool.not_eq_false', Bool.not_eq_true, Bool.not_eq_false, Bool.not_not, decide_eq_true_eq, decide_eq_false_iff_not, beq_iff_eq, beq_eq_false_iff_ne, bne_iff_ne, bne_eq_false_iff_eq, ne_eq, Classical.not_not, reduceCtorEq, false_or, or_false, true_and, and_true, Bool.false_eq_true, Bool.true_eq_false] at h) <;> try (exfalso; first | omega | (simp at h; done)))))
  all_goals first
    | with_reducible rfl
    | omega
    | exact ⟨trivial, trivial⟩
    | exact ⟨trivial, trivial, trivial⟩
    | exact ⟨trivial, trivial, trivial, trivial⟩
    | exact ⟨⟨by decide, by decide, by decide⟩, trivial⟩
    | exact ⟨Nat.le_of_eq (Nat.zero_add _), trivial⟩
    | exact ⟨Nat.le_refl _, trivial, trivial⟩
    | (rw [wrap64_id (by omega) (by omega)]; rfl)
    | rfl
    | (exfalso; simp at h; done)
    | skip

theorem croots_ok (r s : Rt) (hr : wfR r) (hs : wfR s) :
    LocalCall Try.prog 23 [.d (rootD r), .d (rootD s)] [] [] (one [.d (.sl ((tellA (rootB r) (rootB s)).map byteD)), .d (.sl ((tellB (rootB r) (rootB s)).map byteD)), .d (.bool (pairB (rootB r) (rootB s)))]) [] := by
  have c1 := rootBytes_ok r hr
  have c2 := rootBytes_ok s hs
  have c3 := cpair_ok (rootB r) (rootB s) (by rw [rootB_length hr]; decide) (by rw [rootB_length hs]; decide)
  refine vc_fn mixed Try.func23 rfl rfl [] (vc_chk rfl) ?_
  repeat' (first
      | ((with_reducible refine vc_chk ?_); first | decide +kernel | rfl)
      | (with_reducible refine vc_side0 ?_; rfl)
      | (with_reducible first
           | refine vc_true ?_ | refine vc_true2 ?_ | refine vc_side ?_ ?_ | refine vc_triv | refine vc_later ?_ | refine vc_caseT ?_ | refine vc_caseF ?_ | refine vc_cons ?_ | refine vc_nil ?_ ?_ | refine vc_seq ?_
              | refine vc_region ?_ | refine vc_cond ?_ | refine vc_block ?_ | refine vc_retc ?_ | refine vc_exit ?_ | refine vc_skip ?_ | refine vc_scope ?_ | refine vc_label ?_ | refine vc_goto ?_ | refine vc_wkSl0
              | refine vc_wkHp0 | refine vc_eqAVs0 | refine vc_preG0 | refine vc_wkSl ?_ ?_ | refine vc_wkHp ?_ ?_ | refine vc_eqAVs ?_ ?_ | refine vc_preG ?_ ?_ | refine vc_side0 ?_ | refine vc_pure c1 ?_ ?_ ?_
              | refine vc_pure c2 ?_ ?_ ?_ | refine vc_pure c3 ?_ ?_ ?_ | refine vc_weakf [] ?_ ?_ ?_ | refine vc_and ?_ ?_ | refine vc_ret [] [] ?_)
      | ((with_reducible first | refine vc_caseD (fun h => ?_) (fun h => ?_) | refine vc_caseN (fun h => ?_) (fun h => ?_)) <;> try (exfalso; omega))
      | ((with_reducible refine vc_case (fun h => ?_) (fun h => ?_)) <;> (try simp only [Bool.cond_true_left, Bool.cond_false_right, Bool.cond_true_right, Bool.cond_false_left, Bool.and_eq_true, Bool.or_eq_true, Bool.and_eq_false_iff, Bool.or_eq_false_iff, Bool.not_eq_true', Bool.not_eq_false', Bool.not_eq_true, Bool.not_eq_false, Bool.not_not, decide_eq_true_eq, decide_eq_false_iff_not, beq_iff_eq, beq_eq_false_iff_ne, bne_iff_ne, bne_eq_false_iff_eq, ne_eq, Classical.not_not, reduceCtorEq, false_or, or_false, true_and, and_true, Bool.false_eq_true, Bool.true_eq_false] at h) <;> try (exfalso; first | omega | (simp at h; done)))
      | (conv in Vc _ => arg 1; whnf
         first
          | (with_reducible refine vc_side0 ?_; rfl)
          | (with_reducible first
              | refine vc_true ?_ | refine vc_true2 ?_ | refine vc_side ?_ ?_ | refine vc_triv | refine vc_later ?_ | refine vc_caseT ?_ | refine vc_caseF ?_ | refine vc_cons ?_ | refine vc_nil ?_ ?_ | refine vc_seq ?_
                 | refine vc_region ?_ | refine vc_cond ?_ | refine vc_block ?_ | refine vc_retc ?_ | refine vc_exit ?_ | refine vc_skip ?_ | refine vc_scope ?_ | refine vc_label ?_ | refine vc_goto ?_ | refine vc_wkSl0
                 | refine vc_wkHp0 | refine vc_eqAVs0 | refine vc_preG0 | refine vc_wkSl ?_ ?_ | refine vc_wkHp ?_ ?_ | refine vc_eqAVs ?_ ?_ | refine vc_preG ?_ ?_ | refine vc_side0 ?_ | refine vc_pure c1 ?_ ?_ ?_
                 | refine vc_pure c2 ?_ ?_ ?_ | refine vc_pure c3 ?_ ?_ ?_ | refine vc_weakf [] ?_ ?_ ?_ | refine vc_and ?_ ?_ | refine vc_ret [] [] ?_)
          | ((with_reducible first | refine vc_caseD (fun h => ?_) (fun h => ?_) | refine vc_caseN (fun h => ?_) (fun h => ?_)) <;> try (exfalso; omega))
          | ((with_reducible refine vc_case (fun h => ?_) (fun h => ?_)) <;> (try simp only [Bool.cond_true_left, Bool.cond_false_right, Bool.cond_true_right, Bool.cond_false_left, Bool.and_eq_true, Bool.or_eq_true, Bool.and_eq_false_iff, Bool.or_eq_false_iff, Bool.not_eq_true', Bool.not_eq_false', Bool.not_eq_true, Bool.not_eq_false, Bool.not_not, decide_eq_true_eq, decide_eq_false_iff_not, beq_iff_eq, beq_eq_false_iff_ne, bne_iff_ne, bne_eq_false_iff_eq, ne_eq, Classical.not_not, reduceCtorEq, false_or, or_false, true_and, and_true, Bool.false_eq_true, Bool.true_eq_false] at h) <;> try (exfalso; first | omega | (simp at h; done)))))
  all_goals first
    | with_reducible rfl
    | omega
    | exact ⟨trivial, trivial⟩
    | exact ⟨trivial, trivial, trivial⟩
    | exact ⟨trivial, trivial, trivial, trivial⟩
    | exact ⟨⟨by decide, by decide, by decide⟩, trivial⟩
    | exact ⟨Nat.le_of_eq (Nat.zero_add _), trivial⟩
    | exact ⟨Nat.le_refl _, trivial, trivial⟩
    | (rw [wrap64_id (by omega) (by omega)]; rfl)
    | rfl
    | (exfalso; simp at h; done)
    | skip

end Go.Proofs.Ytdceegllpcepnaa

/-
What the references of the path layer do: Cut, Under, Less.
-/
set_option linter.unusedSimpArgs false
set_option linter.unusedVariables false
namespace Go.Proofs.Ytdceegllpcepnaa
open Go.Sym
set_option maxRecDepth 10000
set_option maxHeartbeats 1000000

theorem lt_of_bits {n m : Nat} (i : Nat) (hn : n.testBit i = false) (hm : m.testBit i = true) (h : ∀ j, i < j → n.testBit j = m.testBit j) : n < m := by
  have e : n / 2 ^ (i + 1) = m / 2 ^ (i + 1) := Nat.eq_of_testBit_eq fun k => by
    rw [Nat.testBit_div_two_pow, Nat.testBit_div_two_pow]; exact h _ (by omega)
  rw [Nat.testBit_eq_decide_div_mod_eq] at hn hm
  have hn := of_decide_eq_false hn
  have hm := of_decide_eq_true hm
  rw [Nat.pow_succ, ← Nat.div_div_eq_div_mul, ← Nat.div_div_eq_div_mul] at e
  refine Nat.lt_of_not_le fun hle => ?_
  have := Nat.div_le_div_right (c := 2 ^ i) hle
  omega

theorem lessB_at {a b : List UInt8} {i : Nat} (hi : i < 32) (hI : ∀ j, j < i → a.getD j 0 = b.getD j 0) (hn : a.getD i 0 ≠ b.getD i 0) : lessB a b = decide ((a.getD i 0).toNat < (b.getD i 0).toNat) := by
  have hbit : ∀ (c : List UInt8) k j, j < 8 → bitB c (8 * k + j) = (c.getD k 0).toNat.testBit (7 - j) := fun c k j hj => by
    unfold bitB
    rw [show (8 * k + j) / 8 = k by omega, show (8 * k + j) % 8 = j by omega]
  -- the place where they part
  have hlt : common a b < 256 := by
    refine Nat.lt_of_not_le fun hge => hn ?_
    have : (a.getD i 0).toNat = (b.getD i 0).toNat := by
      rw [← byteOf_self, ← byteOf_self (b.getD i 0)]
      exact byteOf_congr fun j hj => by
        show (a.getD i 0).toNat.testBit (7 - j) = (b.getD i 0).toNat.testBit (7 - j)
        rw [← hbit a i j hj, ← hbit b i j hj]; exact common_eq a b (by omega)
    exact UInt8.toNat_inj.1 this
  have hne := common_ne a b hlt
  have heq := fun j (h : j < common a b) => common_eq a b h
  have hk : common a b / 8 = i := by
    rcases Nat.lt_trichotomy (common a b / 8) i with h | h | h
    · exfalso; apply hne; unfold bitB; rw [hI _ h]
    · exact h
    · exfalso; apply hn
      have : (a.getD i 0).toNat = (b.getD i 0).toNat := by
        rw [← byteOf_self, ← byteOf_self (b.getD i 0)]
        exact byteOf_congr fun j hj => by
          show (a.getD i 0).toNat.testBit (7 - j) = (b.getD i 0).toNat.testBit (7 - j)
          rw [← hbit a i j hj, ← hbit b i j hj]; exact heq _ (by omega)
      exact UInt8.toNat_inj.1 this
  have hm : common a b = 8 * i + common a b % 8 := by omega
  obtain ⟨n, hn0⟩ : ∃ n, n = common a b := ⟨_, rfl⟩
  rw [← hn0] at hlt hne heq hk hm
  have h7 : ∀ k, 7 - n % 8 < k → (a.getD i 0).toNat.testBit k = (b.getD i 0).toNat.testBit k := fun k hk' => by
    by_cases h8 : k < 8
    · have := heq (8 * i + (7 - k)) (by omega)
      rw [hbit a i _ (by omega), hbit b i _ (by omega), show 7 - (7 - k) = k by omega] at this
      exact this
    · have hp : 2 ^ 8 ≤ 2 ^ k := Nat.pow_le_pow_right (by omega) (by omega)
      rw [Nat.testBit_lt_two_pow (Nat.lt_of_lt_of_le (a.getD i 0).toNat_lt hp), Nat.testBit_lt_two_pow (Nat.lt_of_lt_of_le (b.getD i 0).toNat_lt hp)]
  rw [hm, hbit a i _ (by omega), hbit b i _ (by omega)] at hne
  unfold lessB
  rw [← hn0, decide_eq_true hlt, Bool.true_and]
  have hbb : bitB b n = (b.getD i 0).toNat.testBit (7 - n % 8) := by
    have := hbit b i (n % 8) (by omega)
    rw [← hm] at this; exact this
  rw [hbb]
  cases hb1 : (b.getD i 0).toNat.testBit (7 - n % 8) with
  | true =>
    have ha1 : (a.getD i 0).toNat.testBit (7 - n % 8) = false := by
      rw [hb1] at hne
      simpa using hne
    exact (decide_eq_true (lt_of_bits _ ha1 hb1 h7)).symm
  | false =>
    have ha1 : (a.getD i 0).toNat.testBit (7 - n % 8) = true := by
      rw [hb1] at hne
      simpa using hne
    have := lt_of_bits _ hb1 ha1 fun k hk => (h7 k hk).symm
    exact (decide_eq_false (by omega)).symm
theorem lessB_all {a b : List UInt8} (hI : ∀ j, j < 32 → a.getD j 0 = b.getD j 0) : lessB a b = false := by
  unfold lessB
  rw [common_all fun j hj => by unfold bitB; rw [hI (j / 8) (by omega)]]
  rfl

theorem rLess_ok (xs ys : List D) (a b : List UInt8) (hx : xs = a.map byteD) (hy : ys = b.map byteD) (ha : a.length = 32) (hb : b.length = 32) :
    LocalCall Try.prog 58 [.d (.arr 32 1 xs), .d (.arr 32 1 ys)] [] [] (one [.d (.bool (lessB a b))]) [] := by
  subst hx hy
  refine vc_fn mixed Try.func58 rfl rfl [] (vc_chk rfl) ?_
  repeat' (first
      | ((with_reducible refine vc_chk ?_); first | decide +kernel | rfl)
      | (with_reducible refine vc_side0 ?_; rfl)
      | (with_reducible first
           | refine vc_true ?_ | refine vc_true2 ?_ | refine vc_side ?_ ?_ | refine vc_triv | refine vc_later ?_ | refine vc_caseT ?_ | refine vc_caseF ?_ | refine vc_cons ?_ | refine vc_nil ?_ ?_ | refine vc_seq ?_
              | refine vc_region ?_ | refine vc_cond ?_ | refine vc_block ?_ | refine vc_retc ?_ | refine vc_exit ?_ | refine vc_skip ?_ | refine vc_scope ?_ | refine vc_label ?_ | refine vc_goto ?_ | refine vc_wkSl0
              | refine vc_wkHp0 | refine vc_eqAVs0 | refine vc_preG0 | refine vc_wkSl ?_ ?_ | refine vc_wkHp ?_ ?_ | refine vc_eqAVs ?_ ?_ | refine vc_preG ?_ ?_ | refine vc_side0 ?_
              | refine vc_loopI 24 (fun (i : Nat) => [(2, .ptr 1000 []), (3, .ptr 1004 []), (5, .d (.int .i64 (i : Int)))]) (fun _ => [(1000, .var (.d (.arr 32 1 (a.map byteD)))), (1004, .var (.d (.arr 32 1 (b.map byteD))))]) (fun i => 32 - i) (fun i => i ≤ 32 ∧ ∀ j, j < i → a.getD j 0 = b.getD j 0) 0 [] ?_ ?_ ?_ ?_ ?_ (fun i hI => ?_)
              | refine vc_nextI (i + 1) [] ?_ ?_ ?_ ?_ ?_ ?_ | refine vc_weakf [] ?_ ?_ ?_ | refine vc_and ?_ ?_ | refine vc_ret [] [] ?_)
      | ((with_reducible first | refine vc_caseD (fun h => ?_) (fun h => ?_) | refine vc_caseN (fun h => ?_) (fun h => ?_)) <;> try (exfalso; omega))
      | ((with_reducible refine vc_case (fun h => ?_) (fun h => ?_)) <;> (try simp at h) <;> try (exfalso; omega))
      | (conv in Vc _ => arg 1; whnf
         first
          | (with_reducible refine vc_side0 ?_; rfl)
          | (with_reducible first
              | refine vc_true ?_ | refine vc_true2 ?_ | refine vc_side ?_ ?_ | refine vc_triv | refine vc_later ?_ | refine vc_caseT ?_ | refine vc_caseF ?_ | refine vc_cons ?_ | refine vc_nil ?_ ?_ | refine vc_seq ?_
                 | refine vc_region ?_ | refine vc_cond ?_ | refine vc_block ?_ | refine vc_retc ?_ | refine vc_exit ?_ | refine vc_skip ?_ | refine vc_scope ?_ | refine vc_label ?_ | refine vc_goto ?_ | refine vc_wkSl0
                 | refine vc_wkHp0 | refine vc_eqAVs0 | refine vc_preG0 | refine vc_wkSl ?_ ?_ | refine vc_wkHp ?_ ?_ | refine vc_eqAVs ?_ ?_ | refine vc_preG ?_ ?_ | refine vc_side0 ?_
                 | refine vc_loopI 24 (fun (i : Nat) => [(2, .ptr 1000 []), (3, .ptr 1004 []), (5, .d (.int .i64 (i : Int)))]) (fun _ => [(1000, .var (.d (.arr 32 1 (a.map byteD)))), (1004, .var (.d (.arr 32 1 (b.map byteD))))]) (fun i => 32 - i) (fun i => i ≤ 32 ∧ ∀ j, j < i → a.getD j 0 = b.getD j 0) 0 [] ?_ ?_ ?_ ?_ ?_ (fun i hI => ?_)
                 | refine vc_nextI (i + 1) [] ?_ ?_ ?_ ?_ ?_ ?_ | refine vc_weakf [] ?_ ?_ ?_ | refine vc_and ?_ ?_ | refine vc_ret [] [] ?_)
          | ((with_reducible first | refine vc_caseD (fun h => ?_) (fun h => ?_) | refine vc_caseN (fun h => ?_) (fun h => ?_)) <;> try (exfalso; omega))
          | ((with_reducible refine vc_case (fun h => ?_) (fun h => ?_)) <;> (try simp at h) <;> try (exfalso; omega))))
  all_goals first
    | omega
    | exact ⟨Nat.zero_le _, fun j hj => by omega⟩
    | (obtain rfl : i = 32 := by omega
       rw [lessB_all hI.2]; done)
    | skip
  all_goals (try have hga := getD_byte (show i < a.length by omega))
  all_goals (try have hgb := getD_byte (show i < b.length by omega))
  all_goals (try simp only [Int.toNat_natCast, hga, hgb])
  all_goals first
    | with_reducible rfl
    | exact ⟨⟨by omega, trivial⟩, rfl⟩
    | (rw [wrap64_id (by omega) (by omega)]; rfl)
    | skip
  all_goals (try have h2 : ((a.getD i 0).toNat : Int) ≠ (b.getD i 0).toNat := fun e => h (by rw [← List.getElem?_map, ← List.getElem?_map, ← List.getD_eq_getElem?_getD, ← List.getD_eq_getElem?_getD, hga, hgb]; exact e))
  all_goals first
    | (rw [lessB_at (by omega) hI.2 (fun e => h2 (by rw [e]))]
       simp only [byteD, D.toInt, Int.ofNat_lt]; done)
    | skip
  · rfl
  all_goals
    refine ⟨by omega, fun j hj => ?_⟩
    by_cases hji : j < i
    · exact hI.2 j hji
    · obtain rfl : j = i := by omega
      rw [← List.getElem?_map, ← List.getElem?_map, ← List.getD_eq_getElem?_getD, ← List.getD_eq_getElem?_getD, getD_byte (by omega), getD_byte (by omega)] at h
      exact UInt8.toNat_inj.1 (Int.ofNat_inj.1 h)

end Go.Proofs.Ytdceegllpcepnaa
