import Derived.Test.YtpeglanfbmpoeaaJ1
import Derived.Test.YtpeglanfbmpoeaaJ2
import Derived.Test.YtpeglanfbmpoeaaJ3
import Derived.Test.YtpeglanfbmpoeaaJ4
import Derived.Test.YtpeglanfbmpoeaaJ5
import Derived.Test.YtpeglanfbmpoeaaJ6
import Derived.Test.YtpeglanfbmpoeaaJ7
import Derived.Test.YtpeglanfbmpoeaaJ8
import Derived.Test.YtpeglanfbmpoeaaJ9
set_option linter.unusedSimpArgs false
set_option linter.unusedVariables false
/-
Trees by definition: leaves, their root, the way to an index; no program in sight.
-/
set_option linter.unusedSimpArgs false
set_option linter.unusedVariables false
namespace Go.Proofs.Ytpeglanfbmpoeaa
open Go.Sym
set_option maxRecDepth 10000
set_option maxHeartbeats 1000000

/-- Leaves: indexes with values. -/
abbrev Lvs := List (List UInt8 × List UInt8)
def keysL (l : Lvs) : List (List UInt8) := l.map (·.1)
def wfL (l : Lvs) : Prop := ∀ x, x ∈ l → x.1.length = 32 ∧ x.2.length = 32

/-- One leaf more: ahead of the first that does not stand ahead of it; another one of its index goes. -/
def putL (idx val : List UInt8) : Lvs → Lvs
  | [] => [(idx, val)]
  | x :: l => bif lessB x.1 idx then x :: putL idx val l else (idx, val) :: (x :: l).filter fun y => !decide (y.1 = idx)
theorem less_self (a : List UInt8) : lessB a a = false := by
  unfold lessB
  rw [common_all fun j _ => rfl]; rfl
theorem putL_mem (idx val : List UInt8) : ∀ (l : Lvs) (y : List UInt8 × List UInt8), y ∈ putL idx val l → y = (idx, val) ∨ (y ∈ l)
  | [], y, h => by simp [putL] at h; exact .inl h
  | x :: l, y, h => by
    unfold putL at h
    cases hb : lessB x.1 idx with
    | true =>
      rw [hb, cond_true, List.mem_cons] at h
      rcases h with rfl | h
      · exact .inr (by simp)
      · rcases putL_mem idx val l y h with h | h
        · exact .inl h
        · exact .inr (by simp [h])
    | false =>
      rw [hb, cond_false, List.mem_cons] at h
      rcases h with rfl | h
      · exact .inl rfl
      · exact .inr (List.mem_filter.1 h).1
theorem putL_wf {idx val : List UInt8} {l : Lvs} (hi : idx.length = 32) (hv : val.length = 32) (hl : wfL l) : wfL (putL idx val l) := fun y hy => by
  rcases putL_mem idx val l y hy with rfl | h
  · exact ⟨hi, hv⟩
  · exact hl y h
theorem putL_nodup (idx val : List UInt8) : ∀ l : Lvs, (keysL l).Nodup → (keysL (putL idx val l)).Nodup
  | [], _ => by simp [putL, keysL]
  | x :: l, h => by
    have h' : x.1 ∉ keysL l ∧ (keysL l).Nodup := List.nodup_cons.1 h
    unfold putL
    cases hb : lessB x.1 idx with
    | true =>
      rw [cond_true]
      refine List.nodup_cons.2 ⟨fun hm => ?_, putL_nodup idx val l h'.2⟩
      obtain ⟨y, hy, e⟩ := List.mem_map.1 hm
      rcases putL_mem idx val l y hy with rfl | hy
      · simp only at e
        rw [← e, less_self] at hb; cases hb
      · exact h'.1 (List.mem_map.2 ⟨y, hy, e⟩)
    | false =>
      rw [cond_false]
      refine List.nodup_cons.2 ⟨fun hm => ?_, ?_⟩
      · obtain ⟨y, hy, e⟩ := List.mem_map.1 hm
        have := (List.mem_filter.1 hy).2
        simp only [Bool.not_eq_true', decide_eq_false_iff_not] at this
        exact this e
      · exact List.Nodup.sublist ((List.filter_sublist (l := x :: l)).map _) h
theorem putL_length (idx val : List UInt8) : ∀ l : Lvs, (putL idx val l).length ≤ l.length + 1
  | [] => by simp [putL]
  | x :: l => by
    unfold putL
    cases lessB x.1 idx with
    | true => rw [cond_true, List.length_cons, List.length_cons]; have := putL_length idx val l; omega
    | false =>
      rw [cond_false, List.length_cons]
      have := List.length_filter_le (fun y : List UInt8 × List UInt8 => !decide (y.1 = idx)) (x :: l)
      omega

/-- The leaves of two lists, put one by one. -/
def ofL (at' val : List (List UInt8)) : Lvs := (at'.zip val).foldl (fun l x => putL x.1 x.2 l) []

def getL (l : Lvs) (idx : List UInt8) : Option (List UInt8) := (l.find? fun x => decide (x.1 = idx)).map (·.2)

def halfL (l : Lvs) (d : Nat) (on : Bool) : Lvs := l.filter fun x => bitI x.1 (d : Int) == on
theorem halfL_mem {l : Lvs} {d : Nat} {on : Bool} {x : List UInt8 × List UInt8} (h : x ∈ halfL l d on) : x ∈ l ∧ bitI x.1 (d : Int) = on := by
  obtain ⟨h1, h2⟩ := List.mem_filter.1 h
  exact ⟨h1, eq_of_beq h2⟩
theorem halfL_wf {l : Lvs} (h : wfL l) (d : Nat) (on : Bool) : wfL (halfL l d on) := fun x hx => h x (halfL_mem hx).1
theorem halfL_nodup {l : Lvs} (h : (keysL l).Nodup) (d : Nat) (on : Bool) : (keysL (halfL l d on)).Nodup := List.Nodup.sublist (List.filter_sublist.map _) h
theorem halfL_length (l : Lvs) (d : Nat) (on : Bool) : (halfL l d on).length ≤ l.length := List.length_filter_le _ _

/-- All indexes agree in so many bits. -/
def agree (l : Lvs) (d : Nat) : Prop := ∀ x y, x ∈ l → y ∈ l → ∀ j, j < d → bitB x.1 j = bitB y.1 j
theorem agree_zero (l : Lvs) : agree l 0 := fun _ _ _ _ j hj => absurd hj (Nat.not_lt_zero j)
theorem agree_half {l : Lvs} {d : Nat} (h : agree l d) (hd : d < 256) (on : Bool) : agree (halfL l d on) (d + 1) := fun x y hx hy j hj => by
  obtain ⟨h1, h2⟩ := halfL_mem hx
  obtain ⟨h3, h4⟩ := halfL_mem hy
  by_cases e : j = d
  · subst e
    rw [← bitI_nat x.1 hd, ← bitI_nat y.1 hd, h2, h4]
  · exact h x y h1 h3 j (by omega)
theorem agree_all {l : Lvs} (hw : wfL l) (hn : (keysL l).Nodup) (h : agree l 256) : l.length ≤ 1 := by
  match l, hw, hn, h with
  | [], _, _, _ => simp
  | [_], _, _, _ => simp
  | x :: y :: l, hw, hn, h =>
    have e : x.1 = y.1 := dig_ext (hw x (by simp)).1 (hw y (by simp)).1 fun n hn => h x y (by simp) (by simp) n hn
    have := (List.nodup_cons.1 hn).1
    exact absurd (show x.1 ∈ List.map (fun x => x.1) (y :: l) by rw [e]; simp) this

/-- The root of leaves below so many bits (n: what is left of the bits, and one). -/
def rootF : Nat → Nat → Lvs → List UInt8
  | 0, _, _ => zero32
  | _ + 1, _, [] => shaB emptyB
  | _ + 1, _, [x] => shaB (leafB x.1 x.2)
  | n + 1, d, l => shaB (nodeB (rootF n (d + 1) (halfL l d false)) (rootF n (d + 1) (halfL l d true)))
theorem rootF_length : ∀ (n d : Nat) (l : Lvs), (rootF n d l).length = 32
  | 0, _, _ => rfl
  | _ + 1, _, [] => shaB_length _
  | _ + 1, _, [x] => shaB_length _
  | n + 1, d, x :: y :: l => shaB_length _
theorem rootF_two (n d : Nat) {l : Lvs} (h : 2 ≤ l.length) : rootF (n + 1) d l = shaB (nodeB (rootF n (d + 1) (halfL l d false)) (rootF n (d + 1) (halfL l d true))) := by
  match l, h with
  | x :: y :: l, _ => rfl

/-- The way to an index, from a depth on: the digests beside it, and the leaf at its end. -/
def proveF : Nat → Nat → Lvs → List UInt8 → List (List UInt8) × Option (List UInt8 × List UInt8)
  | 0, _, l, _ => ([], l.head?)
  | n + 1, d, l, idx => bif decide (l.length ≤ 1) then ([], l.head?) else
      (rootF n (d + 1) (halfL l d (!bitI idx (d : Int))) :: (proveF n (d + 1) (halfL l d (bitI idx (d : Int))) idx).1, (proveF n (d + 1) (halfL l d (bitI idx (d : Int))) idx).2)

def endO : Option (List UInt8 × List UInt8) → List UInt8
  | some x => leafB x.1 x.2
  | none => emptyB

theorem deep {d : Nat} {l : Lvs} (hw : wfL l) (hn : (keysL l).Nodup) (ha : agree l d) (hl : ¬ l.length ≤ 1) : d < 256 := by
  rcases Nat.lt_or_ge d 256 with h | h
  · exact h
  · exact absurd (agree_all hw hn fun x y hx hy j hj => ha x y hx hy j (by omega)) hl

/-- The way leads from the tree's root. -/
theorem prove_root (idx : List UInt8) : ∀ (n d : Nat) (l : Lvs), d + n = 256 → wfL l → (keysL l).Nodup → agree l d →
    shaB ((wayL idx d (proveF (n + 1) d l idx).1 (endO (proveF (n + 1) d l idx).2)).headD []) = rootF (n + 1) d l := by
  intro n
  induction n with
  | zero =>
    intro d l hd hw hn ha
    have hl : l.length ≤ 1 := agree_all hw hn fun x y hx hy j hj => ha x y hx hy j (by omega)
    unfold proveF
    rw [decide_eq_true hl, cond_true]
    match l, hl with
    | [], _ => rfl
    | [x], _ => rfl
  | succ n ih =>
    intro d l hd hw hn ha
    by_cases hl : l.length ≤ 1
    · unfold proveF
      rw [decide_eq_true hl, cond_true]
      match l, hl with
      | [], _ => rfl
      | [x], _ => rfl
    · have hd2 := deep hw hn ha hl
      have ih := ih (d + 1) (halfL l d (bitI idx (d : Int))) (by omega) (halfL_wf hw d _) (halfL_nodup hn d _) (agree_half ha hd2 _)
      rw [proveF, decide_eq_false hl, cond_false, rootF_two (n + 1) d (by omega)]
      simp only [wayL, List.headD_cons]
      rw [ih]
      unfold stepB
      cases bitI idx (d : Int) <;> rfl

theorem prove_length (idx : List UInt8) : ∀ (n d : Nat) (l : Lvs), d + n = 256 → wfL l → (keysL l).Nodup → agree l d → (proveF (n + 1) d l idx).1.length ≤ n := by
  intro n
  induction n with
  | zero =>
    intro d l hd hw hn ha
    have hl : l.length ≤ 1 := agree_all hw hn fun x y hx hy j hj => ha x y hx hy j (by omega)
    rw [proveF, decide_eq_true hl, cond_true]; exact Nat.le_refl _
  | succ n ih =>
    intro d l hd hw hn ha
    by_cases hl : l.length ≤ 1
    · rw [proveF, decide_eq_true hl, cond_true]; exact Nat.zero_le _
    · have hd2 := deep hw hn ha hl
      have ih := ih (d + 1) (halfL l d (bitI idx (d : Int))) (by omega) (halfL_wf hw d _) (halfL_nodup hn d _) (agree_half ha hd2 _)
      rw [proveF, decide_eq_false hl, cond_false]
      simp only [List.length_cons]; omega

theorem prove_sides (idx : List UInt8) : ∀ (n d : Nat) (l : Lvs) (y : List UInt8), y ∈ (proveF n d l idx).1 → y.length = 32
  | 0, _, _, y, h => by simp [proveF] at h
  | n + 1, d, l, y, h => by
    rw [proveF] at h
    by_cases hl : l.length ≤ 1
    · rw [decide_eq_true hl, cond_true] at h; simp at h
    · rw [decide_eq_false hl, cond_false, List.mem_cons] at h
      rcases h with rfl | h
      · exact rootF_length _ _ _
      · exact prove_sides idx n _ _ y h

theorem common_ge {a b : List UInt8} {m : Nat} (hm : m ≤ 256) (h : ∀ j, j < m → bitB a j = bitB b j) : m ≤ common a b := by
  rcases Nat.lt_or_ge (common a b) m with h1 | h1
  · exact absurd (h _ h1) (common_ne a b (by omega))
  · exact h1

/-- The leaf at the end is one of the tree's, and begins as the index does. -/
theorem prove_leaf (idx : List UInt8) : ∀ (n d : Nat) (l : Lvs), d + n = 256 → wfL l → (keysL l).Nodup → agree l d → (∀ x, x ∈ l → ∀ j, j < d → bitB x.1 j = bitB idx j) → ∀ x, (proveF (n + 1) d l idx).2 = some x →
    x ∈ l ∧ ∀ j, j < d + (proveF (n + 1) d l idx).1.length → bitB x.1 j = bitB idx j := by
  intro n
  induction n with
  | zero =>
    intro d l hd hw hn ha hx x h
    have hl : l.length ≤ 1 := agree_all hw hn fun x y hx hy j hj => ha x y hx hy j (by omega)
    rw [proveF, decide_eq_true hl, cond_true] at h ⊢
    have hm := List.mem_of_mem_head? h
    exact ⟨hm, fun j hj => hx x hm j hj⟩
  | succ n ih =>
    intro d l hd hw hn ha hx x h
    by_cases hl : l.length ≤ 1
    · rw [proveF, decide_eq_true hl, cond_true] at h ⊢
      have hm := List.mem_of_mem_head? h
      exact ⟨hm, fun j hj => hx x hm j hj⟩
    · have hd2 := deep hw hn ha hl
      rw [proveF, decide_eq_false hl, cond_false] at h ⊢
      obtain ⟨h1, h2⟩ := ih (d + 1) (halfL l d (bitI idx (d : Int))) (by omega) (halfL_wf hw d _) (halfL_nodup hn d _) (agree_half ha hd2 _) (fun x hm j hj => by
        obtain ⟨q1, q2⟩ := halfL_mem hm
        by_cases e : j = d
        · subst e; rw [← bitI_nat x.1 hd2, q2, bitI_nat idx hd2]
        · exact hx x q1 j (by omega)) x h
      refine ⟨(halfL_mem h1).1, fun j hj => h2 j ?_⟩
      simp only [List.length_cons] at hj
      omega

theorem find_filter {α : Type} {p q : α → Bool} (h : ∀ x, q x = true → p x = true) : ∀ l : List α, (l.filter p).find? q = l.find? q
  | [] => rfl
  | x :: l => by
    cases hq : q x with
    | true => rw [List.filter_cons_of_pos (h x hq), List.find?_cons_of_pos hq, List.find?_cons_of_pos hq]
    | false =>
      rw [List.find?_cons_of_neg (by simp [hq])]
      cases hp : p x with
      | true => rw [List.filter_cons_of_pos hp, List.find?_cons_of_neg (by simp [hq])]; exact find_filter h l
      | false => rw [List.filter_cons_of_neg (by simp [hp])]; exact find_filter h l
theorem getL_half (l : Lvs) (d : Nat) (idx : List UInt8) : getL (halfL l d (bitI idx (d : Int))) idx = getL l idx := by
  unfold getL halfL
  rw [find_filter fun x hx => by rw [of_decide_eq_true hx]; simp]
theorem getL_le {l : Lvs} (h : l.length ≤ 1) (idx : List UInt8) : getL l idx = l.head?.bind fun x => bif decide (x.1 = idx) then some x.2 else none := by
  match l, h with
  | [], _ => rfl
  | [x], _ =>
    unfold getL
    by_cases e : x.1 = idx
    · rw [List.find?_cons_of_pos (by simp [e])]; simp [e]
    · rw [List.find?_cons_of_neg (by simp [e])]; simp [e]

/-- The leaf at the end says what the tree has. -/
theorem prove_get (idx : List UInt8) : ∀ (n d : Nat) (l : Lvs), d + n = 256 → wfL l → (keysL l).Nodup → agree l d → getL l idx = (proveF (n + 1) d l idx).2.bind fun x => bif decide (x.1 = idx) then some x.2 else none := by
  intro n
  induction n with
  | zero =>
    intro d l hd hw hn ha
    have hl : l.length ≤ 1 := agree_all hw hn fun x y hx hy j hj => ha x y hx hy j (by omega)
    rw [proveF, decide_eq_true hl, cond_true]; exact getL_le hl idx
  | succ n ih =>
    intro d l hd hw hn ha
    by_cases hl : l.length ≤ 1
    · rw [proveF, decide_eq_true hl, cond_true]; exact getL_le hl idx
    · have hd2 := deep hw hn ha hl
      have ih := ih (d + 1) (halfL l d (bitI idx (d : Int))) (by omega) (halfL_wf hw d _) (halfL_nodup hn d _) (agree_half ha hd2 _)
      rw [proveF, decide_eq_false hl, cond_false, ← getL_half l d idx]
      exact ih

/-- The way that a tree tells. -/
def prfO (ys : List (List UInt8)) : Option (List UInt8 × List UInt8) → Prf
  | some x => ⟨ys, 1, x.1, x.2⟩
  | none => ⟨ys, 0, zero32, zero32⟩
def prfL (l : Lvs) (idx : List UInt8) : Prf := prfO (proveF 257 0 l idx).1 (proveF 257 0 l idx).2
def rootL (l : Lvs) : List UInt8 := rootF 257 0 l
theorem prfO_sides (ys : List (List UInt8)) (o : Option (List UInt8 × List UInt8)) : (prfO ys o).sides = ys := by cases o <;> rfl
theorem prfO_end (ys : List (List UInt8)) (o : Option (List UInt8 × List UInt8)) : endB (prfO ys o) = endO o := by cases o <;> rfl

section
variable {l : Lvs} (hw : wfL l) (hn : (keysL l).Nodup)
include hw hn
theorem prfL_root (idx : List UInt8) : rootP idx (prfL l idx) = rootL l := by
  unfold rootP hashedP prfL rootL
  rw [prfO_sides, prfO_end]
  exact prove_root idx 256 0 l rfl hw hn (agree_zero l)
theorem prfL_wf (idx : List UInt8) : wfP (prfL l idx) := by
  have hl := prove_leaf idx 256 0 l rfl hw hn (agree_zero l) (fun x _ j hj => absurd hj (Nat.not_lt_zero j))
  have hs := prove_sides idx 257 0 l
  unfold prfL
  show wfP (prfO (proveF 257 0 l idx).1 (proveF 257 0 l idx).2)
  generalize proveF 257 0 l idx = r at *
  cases h : r.2 with
  | none => exact ⟨hs, rfl, rfl⟩
  | some x => exact ⟨hs, (hw x (hl x h).1).1, (hw x (hl x h).1).2⟩
theorem prfL_len (idx : List UInt8) : (prfL l idx).sides.length ≤ 256 := by
  unfold prfL
  rw [prfO_sides]
  exact prove_length idx 256 0 l rfl hw hn (agree_zero l)
theorem prfL_right (idx : List UInt8) : rightP (prfL l idx) := by
  refine ⟨prfL_len hw hn idx, ?_⟩
  unfold prfL
  cases (proveF 257 0 l idx).2 with
  | none => exact .inr ⟨rfl, rfl, rfl⟩
  | some x => exact .inl rfl
end

end Go.Proofs.Ytpeglanfbmpoeaa

/-
Two unlike texts of one digest.
-/
set_option linter.unusedSimpArgs false
set_option linter.unusedVariables false
namespace Go.Proofs.Ytpeglanfbmpoeaa
open Go.Sym
set_option maxRecDepth 10000
set_option maxHeartbeats 4000000

/-- Two unlike texts of one digest. -/
def pairB (a b : List UInt8) : Bool := !decide (a = b) && decide (shaB a = shaB b)
end Go.Proofs.Ytpeglanfbmpoeaa

/-
Two ways from one root are the same, or two unlike texts have one digest; no program in sight.
-/
set_option linter.unusedSimpArgs false
set_option linter.unusedVariables false
namespace Go.Proofs.Ytpeglanfbmpoeaa
open Go.Sym
set_option maxRecDepth 10000
set_option maxHeartbeats 1000000

/-- Is there a pair at one place of two lists? -/
def twoB : List (List UInt8) → List (List UInt8) → Bool
  | x :: a, y :: b => pairB x y || twoB a b
  | _, _ => false
/-- What may stand at a way's end. -/
def isEnd (b : List UInt8) : Prop := b = emptyB ∨ ∃ a v : List UInt8, a.length = 32 ∧ v.length = 32 ∧ b = leafB a v
theorem endB_isEnd {p : Prf} (hw : wfP p) : isEnd (endB p) := by
  unfold endB
  by_cases h : p.fin = 1
  · rw [decide_eq_true h, cond_true]; exact .inr ⟨_, _, hw.2, hw.3, rfl⟩
  · rw [decide_eq_false h, cond_false]; exact .inl rfl
theorem stepB_head (idx : List UInt8) (d : Nat) (y x : List UInt8) : ∃ r, stepB idx d y x = 78 :: r := by
  unfold stepB
  cases bitI idx (d : Int)
  · exact ⟨_, rfl⟩
  · exact ⟨_, rfl⟩
theorem isEnd_step {idx : List UInt8} {d : Nat} {y x b : List UInt8} (hb : isEnd b) : ¬ b = stepB idx d y x := fun h => by
  obtain ⟨r, hr⟩ := stepB_head idx d y x
  rw [hr] at h
  rcases hb with rfl | ⟨a, v, _, _, rfl⟩
  · exact absurd (List.cons.inj h).1 (by decide)
  · exact absurd (List.cons.inj h).1 (by decide)
theorem stepB_inj {idx : List UInt8} {d : Nat} {y x z w : List UInt8} (hy : y.length = 32) (hx : x.length = 32) (hz : z.length = 32) (hw : w.length = 32) (h : stepB idx d y x = stepB idx d z w) : y = z ∧ x = w := by
  unfold stepB at h
  cases hb : bitI idx (d : Int) with
  | false =>
    rw [hb] at h
    have h := List.append_inj (List.cons.inj h).2 (by rw [hx, hw])
    exact ⟨h.2, h.1⟩
  | true =>
    rw [hb] at h
    exact List.append_inj (List.cons.inj h).2 (by rw [hy, hz])
theorem pair_same {a b : List UInt8} (h : shaB a = shaB b) : pairB a b = true ∨ a = b := by
  by_cases e : a = b
  · exact .inr e
  · refine .inl ?_
    unfold pairB
    rw [decide_eq_false e, decide_eq_true h]; rfl

theorem way_same (idx : List UInt8) : ∀ (ys zs : List (List UInt8)) (d : Nat) (b c : List UInt8), (∀ y, y ∈ ys → y.length = 32) → (∀ z, z ∈ zs → z.length = 32) → isEnd b → isEnd c →
    shaB ((wayL idx d ys b).headD []) = shaB ((wayL idx d zs c).headD []) → twoB (wayL idx d ys b) (wayL idx d zs c) = true ∨ (ys = zs ∧ b = c)
  | [], [], d, b, c, _, _, hb, hc, h => by
    rcases pair_same h with h | h
    · exact .inl (by simp only [wayL, twoB]; rw [show pairB b c = true from h]; rfl)
    · exact .inr ⟨rfl, h⟩
  | [], z :: zs, d, b, c, _, _, hb, hc, h => by
    rcases pair_same h with h | h
    · exact .inl (by simp only [wayL, twoB]; rw [show pairB b (stepB idx d z _) = true from h]; rfl)
    · exact absurd h (isEnd_step hb)
  | y :: ys, [], d, b, c, _, _, hb, hc, h => by
    rcases pair_same h with h | h
    · exact .inl (by simp only [wayL, twoB]; rw [show pairB (stepB idx d y _) c = true from h]; rfl)
    · exact absurd h.symm (isEnd_step hc)
  | y :: ys, z :: zs, d, b, c, hy, hz, hb, hc, h => by
    rcases pair_same h with h | h
    · exact .inl (by simp only [wayL, twoB]; rw [show pairB (stepB idx d y _) (stepB idx d z _) = true from h]; rfl)
    · obtain ⟨e1, e2⟩ := stepB_inj (hy y (by simp)) (shaB_length _) (hz z (by simp)) (shaB_length _) h
      rcases way_same idx ys zs (d + 1) b c (fun y h => hy y (by simp [h])) (fun z h => hz z (by simp [h])) hb hc e2 with h | ⟨h1, h2⟩
      · exact .inl (by simp only [wayL, twoB]; rw [h, Bool.or_true])
      · exact .inr ⟨by rw [e1, h1], h2⟩

theorem prf_same {idx : List UInt8} {p q : Prf} (hp : wfP p) (hq : wfP q) (h : rootP idx p = rootP idx q) : twoB (hashedP idx p) (hashedP idx q) = true ∨ (p.sides = q.sides ∧ endB p = endB q) :=
  way_same idx p.sides q.sides 0 (endB p) (endB q) hp.1 hq.1 (endB_isEnd hp) (endB_isEnd hq) h

/-- A pair found at a place. -/
theorem twoB_drop {a b : List (List UInt8)} {i : Nat} (ha : i < a.length) (hb : i < b.length) : twoB (a.drop i) (b.drop i) = (pairB (a.getD i []) (b.getD i []) || twoB (a.drop (i + 1)) (b.drop (i + 1))) := by
  have e1 : a.drop i = a.getD i [] :: a.drop (i + 1) := by
    rw [List.drop_eq_getElem_cons ha, List.getD_eq_getElem?_getD, List.getElem?_eq_getElem ha]; rfl
  have e2 : b.drop i = b.getD i [] :: b.drop (i + 1) := by
    rw [List.drop_eq_getElem_cons hb, List.getD_eq_getElem?_getD, List.getElem?_eq_getElem hb]; rfl
  rw [e1, e2]; rfl
theorem twoB_end {a b : List (List UInt8)} {i : Nat} (h : a.length ≤ i ∨ b.length ≤ i) : twoB (a.drop i) (b.drop i) = false := by
  rcases h with h | h
  · rw [List.drop_eq_nil_of_le h]; rfl
  · rw [List.drop_eq_nil_of_le h]
    cases a.drop i <;> rfl

/-- What a way that a tree tells proves. -/
theorem prfL_ok {l : Lvs} (hw : wfL l) (hn : (keysL l).Nodup) {idx : List UInt8} (hx : idx.length = 32) :
    okP (rootL l) idx (prfL l idx) = true ∧ (leafP (rootL l) idx (prfL l idx) = (getL l idx).isSome) ∧ valP (rootL l) idx (prfL l idx) = (getL l idx).getD zero32 := by
  have hr := prfL_root hw hn idx
  have hl := prove_leaf idx 256 0 l rfl hw hn (agree_zero l) (fun x _ j hj => absurd hj (Nat.not_lt_zero j))
  have hg := prove_get idx 256 0 l rfl hw hn (agree_zero l)
  have hle := prfL_len hw hn idx
  have h1 : okP (rootL l) idx (prfL l idx) = true := by
    unfold okP underP
    rw [decide_eq_true (prfL_right hw hn idx), decide_eq_true hr, Bool.and_true, Bool.true_and]
    unfold prfL at hle ⊢
    rw [prfO_sides] at hle ⊢
    generalize proveF 257 0 l idx = r at *
    cases h : r.2 with
    | none => rfl
    | some x =>
      have hc := common_ge hle fun j hj => (hl x h).2 j (by omega)
      show (!decide ((1 : Int) = 1) || decide ((common x.1 idx : Int) ≥ (r.1.length : Int))) = true
      rw [decide_eq_true (show (common x.1 idx : Int) ≥ (r.1.length : Int) by omega), Bool.or_true]
  refine ⟨h1, ?_, ?_⟩
  · unfold leafP
    rw [h1, Bool.true_and, hg]
    unfold prfL
    show _ = ((proveF 257 0 l idx).2.bind _).isSome
    generalize proveF 257 0 l idx = r
    cases r.2 with
    | none => rfl
    | some x =>
      show (decide ((1 : Int) = 1) && decide (x.1 = idx)) = (bif decide (x.1 = idx) then some x.2 else none).isSome
      cases decide (x.1 = idx) <;> rfl
  · have h2 : leafP (rootL l) idx (prfL l idx) = (decide ((prfL l idx).fin = 1) && decide ((prfL l idx).index = idx)) := by unfold leafP; rw [h1, Bool.true_and]
    unfold valP
    rw [h2, hg]
    unfold prfL
    show _ = ((proveF 257 0 l idx).2.bind _).getD zero32
    generalize proveF 257 0 l idx = r
    cases r.2 with
    | none => rfl
    | some x =>
      show (bif decide ((1 : Int) = 1) && decide (x.1 = idx) then x.2 else zero32) = (bif decide (x.1 = idx) then some x.2 else none).getD zero32
      cases decide (x.1 = idx) <;> rfl

end Go.Proofs.Ytpeglanfbmpoeaa
