/-
What an operation that calls nothing does to what a frame holds ('aOp'), first part: places and parts.
-/
import Derived.Test.YthedcaopedbpdaaSymc
namespace Go.Sym

/-! ### Parts of data -/

def D.nav : D → List Stp → Option (Prop × D)
  | x, [] => some (True, x)
  | .st fs, .fld i off :: p => bif (D.sizes (fs.take i)).beq off then match fs[i]? with
      | some y => D.nav y p
      | none => none
    else none
  | .arr n e xs, .ix i e' :: p => bif e.beq e' then match D.nav (xs.getD i .nilp) p with
      | some (s, y) => some (i < n ∧ s, y)
      | none => none
    else none
  | _, _ => none

def AV.nav : AV → List Stp → Option (Prop × AV)
  | x, [] => some (True, x)
  | .d x, s :: p => match D.nav x (s :: p) with
    | some (q, y) => some (q, .d y)
    | none => none
  | .st fs, .fld i off :: p => bif (AV.sizes (fs.take i)).beq off then match fs[i]? with
      | some y => AV.nav y p
      | none => none
    else none
  | _, _ => none

def D.set : D → List Stp → D → Option (Prop × D)
  | x, [], y => bif x.size.beq y.size && (x.isAgg == y.isAgg) then some (True, y) else none
  | .st fs, .fld i off :: p, y => bif (D.sizes (fs.take i)).beq off then match fs[i]? with
      | some z => match D.set z p y with
        | some (s, z') => some (s, .st (fs.set i z'))
        | none => none
      | none => none
    else none
  | .arr n e xs, [.ix i e'], y => bif e.beq e' && y.size.beq e then some (i < n, .arr n e (xs.set i y)) else none
  | _, _, _ => none

def AV.set : AV → List Stp → AV → Option (Prop × AV)
  | x, [], y => bif x.size.beq y.size && (x.isAgg == y.isAgg) then some (True, y) else none
  | .d x, s :: p, .d y => match D.set x (s :: p) y with
    | some (q, z) => some (q, .d z)
    | none => none
  | .d (.st fs), [.fld i off], y => bif (D.sizes (fs.take i)).beq off then match fs[i]? with
      | some z => bif z.size.beq y.size && (z.isAgg == y.isAgg) then some (True, .st ((fs.map AV.d).set i y)) else none
      | none => none
    else none
  | .st fs, .fld i off :: p, y => bif (AV.sizes (fs.take i)).beq off then match fs[i]? with
      | some z => match AV.set z p y with
        | some (s, z') => some (s, .st (fs.set i z'))
        | none => none
      | none => none
    else none
  | _, _, _ => none

theorem AV.set_fld {fs : List D} {i off : Nat} {y : AV} (hy : ∀ y', y ≠ .d y') : AV.set (.d (.st fs)) [.fld i off] y =
    bif (D.sizes (fs.take i)).beq off then match fs[i]? with
      | some z => bif z.size.beq y.size && (z.isAgg == y.isAgg) then some (True, .st ((fs.map AV.d).set i y)) else none
      | none => none
    else none := by
  cases y <;> first | exact absurd rfl (hy _) | rfl

theorem AV.set_nil {x y : AV} : AV.set x [] y = bif x.size.beq y.size && (x.isAgg == y.isAgg) then some (True, y) else none := by
  cases x <;> rfl

/-- Cells and a part of them. -/
def Part (R : List Value → List Value → Prop) (cs : List Value) (off : Nat) : Prop := ∃ pre c post, cs = pre ++ c ++ post ∧ pre.length = off ∧ R cs c

theorem RepL.get {X : Nat → Prop} {w : World} : ∀ {fs : List D} {cs : List Value} {i : Nat} {y : D}, RepL X w fs cs → fs[i]? = some y →
    ∃ pre c post, cs = pre ++ c ++ post ∧ pre.length = D.sizes (fs.take i) ∧ RepD X w y c ∧ ∀ y' c', RepD X w y' c' → RepL X w (fs.set i y') (pre ++ c' ++ post)
  | _, _, _, _, .nil, h => by simp at h
  | _, _, 0, y, .cons (x := x) (cs := cs) h hs, hi => by
    simp only [List.getElem?_cons_zero, Option.some.injEq] at hi
    subst hi
    exact ⟨[], _, cs, by simp, rfl, h, fun y' c' h' => by simpa using RepL.cons h' hs⟩
  | _, _, i + 1, y, .cons (c := c0) h hs, hi => by
    simp only [List.getElem?_cons_succ] at hi
    obtain ⟨pre, c, post, e1, e2, e3, e4⟩ := RepL.get hs hi
    refine ⟨c0 ++ pre, c, post, by rw [e1]; simp, ?_, e3, fun y' c' h' => ?_⟩
    · rw [List.length_append, e2, h.length]; rfl
    · have := RepL.cons h (e4 y' c' h')
      simpa using this

theorem RepCs.get {ρ : Nat → Option Nat} {X : Nat → Prop} {w : World} : ∀ {fs : List AV} {cs : List Value} {i : Nat} {y : AV}, RepCs ρ X w fs cs → fs[i]? = some y →
    ∃ pre c post, cs = pre ++ c ++ post ∧ pre.length = AV.sizes (fs.take i) ∧ RepC ρ X w y c ∧ ∀ y' c', RepC ρ X w y' c' → RepCs ρ X w (fs.set i y') (pre ++ c' ++ post)
  | _, _, _, _, .nil, h => by simp at h
  | _, _, 0, y, .cons (x := x) (cs := cs) h hs, hi => by
    simp only [List.getElem?_cons_zero, Option.some.injEq] at hi
    subst hi
    exact ⟨[], _, cs, by simp, rfl, h, fun y' c' h' => by simpa using RepCs.cons h' hs⟩
  | _, _, i + 1, y, .cons (c := c0) h hs, hi => by
    simp only [List.getElem?_cons_succ] at hi
    obtain ⟨pre, c, post, e1, e2, e3, e4⟩ := RepCs.get hs hi
    refine ⟨c0 ++ pre, c, post, by rw [e1]; simp, ?_, e3, fun y' c' h' => ?_⟩
    · rw [List.length_append, e2, h.length]; rfl
    · have := RepCs.cons h (e4 y' c' h')
      simpa using this

theorem RepL.toC {ρ : Nat → Option Nat} {X : Nat → Prop} {w : World} : ∀ {fs : List D} {cs : List Value}, RepL X w fs cs → RepCs ρ X w (fs.map AV.d) cs
  | _, _, .nil => .nil
  | _, _, .cons h hs => .cons (.d h) (RepL.toC hs)

theorem D.sizes_set {i : Nat} {y : D} : ∀ {xs : List D} {e : Nat}, (∀ x, x ∈ xs → x.size = e) → y.size = e → ∀ x, x ∈ xs.set i y → x.size = e := by
  intro xs e h hy x hx
  rcases List.mem_or_eq_of_mem_set hx with h1 | h1
  · exact h x h1
  · rw [h1]; exact hy

theorem D.nav_rep {X : Nat → Prop} {w : World} : ∀ {p : List Stp} {x y : D} {s : Prop} {cs : List Value}, D.nav x p = some (s, y) → s → RepD X w x cs →
    ∃ pre c post, cs = pre ++ c ++ post ∧ pre.length = pOff p ∧ RepD X w y c := by
  intro p
  induction p with
  | nil =>
    intro x y s cs h _ hr
    simp only [D.nav, Option.some.injEq, Prod.mk.injEq] at h
    obtain ⟨_, rfl⟩ := h
    exact ⟨[], cs, [], by simp, rfl, hr⟩
  | cons st p ih =>
    intro x y s cs h hs hr
    cases x <;> cases st <;> simp only [D.nav] at h <;> try (cases h)
    · rename_i fs i off
      cases hb : (D.sizes (fs.take i)).beq off <;> simp only [hb, cond_true, cond_false] at h <;> try (cases h)
      have hoff := Nat.eq_of_beq_eq_true hb
      split at h <;> try (cases h)
      rename_i z hz
      cases hr with
      | st hl =>
        obtain ⟨pre, c, post, e1, e2, e3, _⟩ := RepL.get hl hz
        obtain ⟨pre', c', post', f1, f2, f3⟩ := ih h hs e3
        refine ⟨pre ++ pre', c', post' ++ post, by rw [e1, f1]; simp, ?_, f3⟩
        rw [List.length_append, e2, f2, hoff]; rfl
    · rename_i n e xs i e'
      cases hb : e.beq e' <;> simp only [hb, cond_true, cond_false] at h <;> try (cases h)
      have he := Nat.eq_of_beq_eq_true hb
      subst he
      split at h <;> try (cases h)
      rename_i s' y' hn
      obtain ⟨hi, hs'⟩ := hs
      cases hr with
      | arr hlen hsz hl =>
        have hx : xs[i]? = some (xs.getD i .nilp) := by
          rw [List.getD_eq_getElem?_getD, List.getElem?_eq_getElem (by omega)]; rfl
        obtain ⟨pre, c, post, e1, e2, e3, _⟩ := RepL.get hl hx
        obtain ⟨pre', c', post', f1, f2, f3⟩ := ih hn hs' e3
        refine ⟨pre ++ pre', c', post' ++ post, by rw [e1, f1]; simp, ?_, f3⟩
        rw [List.length_append, e2, f2, D.sizes_const _ (fun y hy => hsz y (List.mem_of_mem_take hy)), List.length_take, Nat.min_eq_left (by omega)]
        rfl

theorem AV.nav_rep {ρ : Nat → Option Nat} {X : Nat → Prop} {w : World} : ∀ {p : List Stp} {x y : AV} {s : Prop} {cs : List Value}, AV.nav x p = some (s, y) → s → RepC ρ X w x cs →
    ∃ pre c post, cs = pre ++ c ++ post ∧ pre.length = pOff p ∧ RepC ρ X w y c := by
  intro p
  induction p with
  | nil =>
    intro x y s cs h _ hr
    have : x = y := by cases x <;> simp only [AV.nav, Option.some.injEq, Prod.mk.injEq] at h <;> exact h.2
    subst this
    exact ⟨[], cs, [], by simp, rfl, hr⟩
  | cons st p ih =>
    intro x y s cs h hs hr
    cases x with
    | d x =>
      simp only [AV.nav] at h
      split at h <;> try (cases h)
      rename_i hn
      cases hr with
      | d hr =>
        obtain ⟨pre, c, post, e1, e2, e3⟩ := D.nav_rep hn hs hr
        exact ⟨pre, c, post, e1, e2, .d e3⟩
    | st fs =>
      cases st <;> simp only [AV.nav] at h <;> try (cases h)
      rename_i i off
      cases hb : (AV.sizes (fs.take i)).beq off <;> simp only [hb, cond_true, cond_false] at h <;> try (cases h)
      have hoff := Nat.eq_of_beq_eq_true hb
      split at h <;> try (cases h)
      rename_i z hz
      cases hr with
      | st hl =>
        obtain ⟨pre, c, post, e1, e2, e3, _⟩ := RepCs.get hl hz
        obtain ⟨pre', c', post', f1, f2, f3⟩ := ih h hs e3
        refine ⟨pre ++ pre', c', post' ++ post, by rw [e1, f1]; simp, ?_, f3⟩
        rw [List.length_append, e2, f2, hoff]; rfl
    | _ => cases st <;> simp only [AV.nav] at h <;> cases h

theorem D.set_rep {X : Nat → Prop} {w : World} : ∀ {p : List Stp} {x y z : D} {s : Prop} {cs : List Value}, D.set x p y = some (s, z) → s → RepD X w x cs →
    ∃ pre c post, cs = pre ++ c ++ post ∧ pre.length = pOff p ∧ c.length = y.size ∧ ∀ c', RepD X w y c' → RepD X w z (pre ++ c' ++ post) := by
  intro p
  induction p with
  | nil =>
    intro x y z s cs h _ hr
    simp only [D.set] at h
    cases hb : x.size.beq y.size && (x.isAgg == y.isAgg) <;> simp only [hb, cond_true, cond_false] at h <;> try (cases h)
    simp only [Bool.and_eq_true] at hb
    have := Nat.eq_of_beq_eq_true hb.1
    exact ⟨[], cs, [], by simp, rfl, by rw [hr.length, this], fun c' h' => by simpa using h'⟩
  | cons st p ih =>
    intro x y z s cs h hs hr
    cases x <;> cases st <;> try (simp only [D.set] at h; cases h; done)
    · rename_i fs i off
      simp only [D.set] at h
      cases hb : (D.sizes (fs.take i)).beq off <;> simp only [hb, cond_true, cond_false] at h <;> try (cases h)
      have hoff := Nat.eq_of_beq_eq_true hb
      split at h <;> try (cases h)
      rename_i u hu
      split at h <;> try (cases h)
      rename_i hset
      cases hr with
      | st hl =>
        obtain ⟨pre, c, post, e1, e2, e3, e4⟩ := RepL.get hl hu
        obtain ⟨pre', c', post', f1, f2, f3, f4⟩ := ih hset hs e3
        refine ⟨pre ++ pre', c', post' ++ post, by rw [e1, f1]; simp, by rw [List.length_append, e2, f2, hoff]; rfl, f3, fun d hd => ?_⟩
        have := e4 _ _ (f4 d hd)
        exact .st (by simpa using this)
    · rename_i n e xs i e'
      cases p with
      | cons _ _ => simp only [D.set] at h; cases h
      | nil =>
        simp only [D.set] at h
        cases hb : e.beq e' && y.size.beq e <;> simp only [hb, cond_true, cond_false] at h <;> try (cases h)
        simp only [Bool.and_eq_true] at hb
        have he := Nat.eq_of_beq_eq_true hb.1
        have hy := Nat.eq_of_beq_eq_true hb.2
        subst he
        cases hr with
        | arr hlen hsz hl =>
          have hi : i < n := hs
          have hx : xs[i]? = some (xs.getD i .nilp) := by
            rw [List.getD_eq_getElem?_getD, List.getElem?_eq_getElem (by omega)]; rfl
          obtain ⟨pre, c, post, e1, e2, e3, e4⟩ := RepL.get hl hx
          refine ⟨pre, c, post, e1, ?_, ?_, fun d hd => .arr (by simpa using hlen) (D.sizes_set hsz hy) (e4 _ _ hd)⟩
          · rw [e2, D.sizes_const _ (fun y hy => hsz y (List.mem_of_mem_take hy)), List.length_take, Nat.min_eq_left (by omega)]
            simp [pOff, Stp.off]
          · rw [e3.length, hsz _ (List.mem_of_getElem? hx), hy]

theorem AV.set_rep {ρ : Nat → Option Nat} {X : Nat → Prop} {w : World} : ∀ {p : List Stp} {x y z : AV} {s : Prop} {cs : List Value}, AV.set x p y = some (s, z) → s → RepC ρ X w x cs →
    ∃ pre c post, cs = pre ++ c ++ post ∧ pre.length = pOff p ∧ c.length = y.size ∧ ∀ c', RepC ρ X w y c' → RepC ρ X w z (pre ++ c' ++ post) := by
  intro p
  induction p with
  | nil =>
    intro x y z s cs h _ hr
    have h : (bif x.size.beq y.size && (x.isAgg == y.isAgg) then some (True, y) else none) = some (s, z) := by cases x <;> simpa only [AV.set] using h
    cases hb : x.size.beq y.size && (x.isAgg == y.isAgg) <;> simp only [hb, cond_true, cond_false] at h <;> try (cases h)
    simp only [Bool.and_eq_true] at hb
    have := Nat.eq_of_beq_eq_true hb.1
    exact ⟨[], cs, [], by simp, rfl, by rw [hr.length, this], fun c' h' => by simpa using h'⟩
  | cons st p ih =>
    intro x y z s cs h hs hr
    have one : ∀ (fs : List D) (i off : Nat), x = .d (.st fs) → st = .fld i off → p = [] → (∀ y', y ≠ .d y') →
        ∃ pre c post, cs = pre ++ c ++ post ∧ pre.length = pOff (st :: p) ∧ c.length = y.size ∧ ∀ c', RepC ρ X w y c' → RepC ρ X w z (pre ++ c' ++ post) := by
      rintro fs i off rfl rfl rfl hy
      have h : (bif (D.sizes (fs.take i)).beq off then match fs[i]? with
        | some z => bif z.size.beq y.size && (z.isAgg == y.isAgg) then some (True, AV.st ((fs.map AV.d).set i y)) else none
        | none => none
        else none) = some (s, z) := by cases y <;> first | exact absurd rfl (hy _) | simpa only [AV.set] using h
      cases hb : (D.sizes (fs.take i)).beq off <;> simp only [hb, cond_true, cond_false] at h <;> try (cases h)
      have hoff := Nat.eq_of_beq_eq_true hb
      split at h <;> try (cases h)
      rename_i u hu
      cases hb2 : u.size.beq y.size && (u.isAgg == y.isAgg) <;> simp only [hb2, cond_true, cond_false] at h <;> try (cases h)
      simp only [Bool.and_eq_true] at hb2
      have hsz := Nat.eq_of_beq_eq_true hb2.1
      cases hr with
      | d hr =>
        cases hr with
        | st hl =>
          have hu' : (fs.map AV.d)[i]? = some (.d u) := by simp [hu]
          obtain ⟨pre, c, post, e1, e2, e3, e4⟩ := RepCs.get (RepL.toC (ρ := ρ) hl) hu'
          refine ⟨pre, c, post, e1, ?_, ?_, fun d hd => .st (e4 _ _ hd)⟩
          · rw [e2, ← hoff, ← List.map_take]
            simp only [pOff, Stp.off, Nat.add_zero]
            generalize fs.take i = l
            induction l with
            | nil => rfl
            | cons a l ih => show AV.size (.d a) + AV.sizes _ = D.size a + D.sizes l; rw [ih]; rfl
          · rw [e3.length]; exact hsz
    cases x with
    | d x =>
      by_cases hy : ∃ y', y = .d y'
      · obtain ⟨y, rfl⟩ := hy
        simp only [AV.set] at h
        split at h <;> try (cases h)
        rename_i hn
        cases hr with
        | d hr =>
          obtain ⟨pre, c, post, e1, e2, e3, e4⟩ := D.set_rep hn hs hr
          exact ⟨pre, c, post, e1, e2, e3, fun c' h' => by cases h' with | d h' => exact .d (e4 c' h')⟩
      · have hy : ∀ y', y ≠ .d y' := fun y' e => hy ⟨y', e⟩
        cases x with
        | st fs =>
          cases st with
          | fld i off =>
            cases p with
            | nil => exact one fs i off rfl rfl rfl hy
            | cons _ _ => cases y <;> first | exact absurd rfl (hy _) | (simp only [AV.set] at h; cases h)
          | ix _ _ => cases y <;> first | exact absurd rfl (hy _) | (simp only [AV.set] at h; cases h)
        | _ => cases y <;> first | exact absurd rfl (hy _) | (simp only [AV.set] at h; cases h)
    | st fs =>
      cases st <;> simp only [AV.set] at h <;> try (cases h)
      rename_i i off
      cases hb : (AV.sizes (fs.take i)).beq off <;> simp only [hb, cond_true, cond_false] at h <;> try (cases h)
      have hoff := Nat.eq_of_beq_eq_true hb
      split at h <;> try (cases h)
      rename_i u hu
      split at h <;> try (cases h)
      rename_i hset
      cases hr with
      | st hl =>
        obtain ⟨pre, c, post, e1, e2, e3, e4⟩ := RepCs.get hl hu
        obtain ⟨pre', c', post', f1, f2, f3, f4⟩ := ih hset hs e3
        refine ⟨pre ++ pre', c', post' ++ post, by rw [e1, f1]; simp, by rw [List.length_append, e2, f2, hoff]; rfl, f3, fun d hd => ?_⟩
        have := e4 _ _ (f4 d hd)
        exact .st (by simpa using this)
    | _ => simp only [AV.set] at h; cases h

end Go.Sym
