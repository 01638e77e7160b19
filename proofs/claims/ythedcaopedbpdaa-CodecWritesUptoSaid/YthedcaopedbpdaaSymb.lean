/-
Words for what a frame and the memory that it owns hold ('St'), how they are read ('Sim'), and the one law by which a step keeps that reading.
-/
import Derived.Test.YthedcaopedbpdaaSyma
namespace Go.Sym

inductive Stp where
  | fld (i off : Nat)
  | ix (i e : Nat)

def Stp.off : Stp → Nat
  | .fld _ o => o
  | .ix i e => i * e

def pOff : List Stp → Nat
  | [] => 0
  | s :: p => s.off + pOff p

theorem pOff_append : ∀ (p q : List Stp), pOff (p ++ q) = pOff p + pOff q
  | [], q => by simp [pOff]
  | s :: p, q => by simp [pOff, pOff_append p q]; omega

/-- What a slot holds: plain data; references into what is owned, by name. -/
inductive AV where
  | d (x : D)
  | ptr (o : Nat) (p : List Stp)
  | sl (o : Nat) (p : List Stp) (e off len : Nat)
  | st (fs : List AV)
  | dptr (x : D)
  | fn (f : Fn) (cs : List AV)
  | cst (v : Value)
  | tup (vs : List AV)
  | top
  deriving Inhabited

inductive AObj where
  | var (x : AV)
  | row (e : Nat) (xs : List D)
  | dead
  deriving Inhabited

def AObj.alive : AObj → Bool
  | .dead => false
  | _ => true

mutual
def AV.size : AV → Nat
  | .d x => x.size
  | .st fs => AV.sizes fs
  | _ => 1
def AV.sizes : List AV → Nat
  | [] => 0
  | x :: xs => AV.size x + AV.sizes xs
end

mutual
def AV.names : AV → List Nat
  | .ptr o _ => [o]
  | .sl o _ _ _ _ => [o]
  | .st fs => AV.namesL fs
  | .fn _ cs => AV.namesL cs
  | .tup vs => AV.namesL vs
  | _ => []
def AV.namesL : List AV → List Nat
  | [] => []
  | x :: xs => AV.names x ++ AV.namesL xs
end

def AObj.names : AObj → List Nat
  | .var x => x.names
  | _ => []

def AV.isAgg : AV → Bool
  | .d x => x.isAgg
  | .st _ => true
  | _ => false

structure St where
  n : Nat
  sl : Nat → AV
  hp : Nat → Option AObj

mutual
inductive RepC (ρ : Nat → Option Nat) (X : Nat → Prop) (w : World) : AV → List Value → Prop
  | d {x : D} {cs : List Value} : RepD X w x cs → RepC ρ X w (.d x) cs
  | ptr {o b : Nat} (p : List Stp) : ρ o = some b → RepC ρ X w (.ptr o p) [.pointer (some ⟨b, pOff p, none⟩)]
  | sl {o b : Nat} {p : List Stp} {e off len cap q : Nat} {c : Array Value} {T : TypeId} {z : Nat × Nat} : ρ o = some b → w.heap[b]? = some (.cells c T z) →
      pOff p + (off + cap) * e ≤ c.size → len ≤ cap → (cap = 0 ∨ q = pOff p + off * e) → RepC ρ X w (.sl o p e off len) [.slice (some ⟨b, q, none⟩) len cap]
  | slnil {o : Nat} {p : List Stp} {e off : Nat} : ρ o = none → RepC ρ X w (.sl o p e off 0) [.slice none 0 0]
  | st {fs : List AV} {cs : List Value} : RepCs ρ X w fs cs → RepC ρ X w (.st fs) cs
  | dptr {b q : Nat} {x : D} {cs : List Value} : ¬ X b → b < w.heap.size → RowAt w b q cs → RepD X w x cs → RepC ρ X w (.dptr x) [.pointer (some ⟨b, q, none⟩)]
  | fn {f : Fn} {fs : List AV} {cs : List Value} : RepCs ρ X w fs cs → RepC ρ X w (.fn f fs) [.func f #[] cs.toArray]
  | top {v : Value} : isCell v = true → RepC ρ X w .top [v]
  | cst {v : Value} : isCell v = true → RepC ρ X w (.cst v) [v]
inductive RepCs (ρ : Nat → Option Nat) (X : Nat → Prop) (w : World) : List AV → List Value → Prop
  | nil : RepCs ρ X w [] []
  | cons {x : AV} {xs : List AV} {c cs : List Value} : RepC ρ X w x c → RepCs ρ X w xs cs → RepCs ρ X w (x :: xs) (c ++ cs)
end

mutual
theorem RepC.length {ρ : Nat → Option Nat} {X : Nat → Prop} {w : World} : ∀ {x : AV} {cs : List Value}, RepC ρ X w x cs → cs.length = x.size
  | _, _, .d h => h.length
  | _, _, .ptr _ _ | _, _, .sl _ _ _ _ _ | _, _, .slnil _ | _, _, .dptr _ _ _ _ | _, _, .fn _ | _, _, .top _ | _, _, .cst _ => rfl
  | _, _, .st h => RepCs.length h
theorem RepCs.length {ρ : Nat → Option Nat} {X : Nat → Prop} {w : World} : ∀ {xs : List AV} {cs : List Value}, RepCs ρ X w xs cs → cs.length = AV.sizes xs
  | _, _, .nil => rfl
  | _, _, .cons h hs => by rw [List.length_append, RepC.length h, RepCs.length hs]; rfl
end

mutual
theorem RepC.cell {ρ : Nat → Option Nat} {X : Nat → Prop} {w : World} : ∀ {x : AV} {cs : List Value}, RepC ρ X w x cs → ∀ v, v ∈ cs → isCell v = true
  | _, _, .d h, v, hv => h.cell v hv
  | _, _, .ptr _ _, _, h | _, _, .sl _ _ _ _ _, _, h | _, _, .slnil _, _, h | _, _, .dptr _ _ _ _, _, h | _, _, .fn _, _, h => by simp only [List.mem_singleton] at h; subst h; rfl
  | _, _, .top k, _, h => by simp only [List.mem_singleton] at h; subst h; exact k
  | _, _, .cst k, _, h => by simp only [List.mem_singleton] at h; subst h; exact k
  | _, _, .st h, v, hv => RepCs.cell h v hv
theorem RepCs.cell {ρ : Nat → Option Nat} {X : Nat → Prop} {w : World} : ∀ {xs : List AV} {cs : List Value}, RepCs ρ X w xs cs → ∀ v, v ∈ cs → isCell v = true
  | _, _, .nil, v, hv => by simp at hv
  | _, _, .cons h hs, v, hv => by
    rcases List.mem_append.1 hv with hv | hv
    · exact RepC.cell h v hv
    · exact RepCs.cell hs v hv
end

/-- What is asked of two worlds, two readings of names and two owners' sets, that a reading goes on. -/
structure Goes (ρ ρ' : Nat → Option Nat) (X X' Y : Nat → Prop) (w w' : World) : Prop where
  ext : Ext Y w w'
  off : ∀ b, b < w.heap.size → ¬ X b → ¬ Y b
  own : ∀ b, b < w.heap.size → X' b → X b

mutual
theorem RepC.mono {ρ ρ' : Nat → Option Nat} {X X' Y : Nat → Prop} {w w' : World} (g : Goes ρ ρ' X X' Y w w') :
    ∀ {x : AV} {cs : List Value}, (∀ o, o ∈ x.names → ρ' o = ρ o) → RepC ρ X w x cs → RepC ρ' X' w' x cs
  | _, _, _, .d h => .d (h.mono g.ext g.off g.own)
  | .ptr o p, [.pointer _], hn, .ptr _ h => .ptr p (by rw [hn o (by simp [AV.names])]; exact h)
  | .sl o _ _ _ _, [.slice _ _ _], hn, .slnil h => .slnil (by rw [hn o (by simp [AV.names])]; exact h)
  | .sl o _ _ _ _, [.slice _ _ _], hn, .sl h0 h1 h2 h3 h4 => by
    obtain ⟨c', hc', hs⟩ := g.ext.shape _ _ _ _ h1
    exact .sl (by rw [hn o (by simp [AV.names])]; exact h0) hc' (by rw [hs]; exact h2) h3 h4
  | _, _, hn, .st h => .st (RepCs.mono g (by simpa [AV.names] using hn) h)
  | _, _, _, .dptr h1 h2 h3 h4 => .dptr (fun hx => h1 (g.own _ h2 hx)) (Nat.lt_of_lt_of_le h2 g.ext.size)
      (fun i v hv => by rw [cell?_of_heap (g.ext.keep _ h2 (g.off _ h2 h1))]; exact h3 i v hv) (h4.mono g.ext g.off g.own)
  | _, _, hn, .fn h => .fn (RepCs.mono g (by simpa [AV.names] using hn) h)
  | _, _, _, .top h => .top h
  | _, _, _, .cst h => .cst h
theorem RepCs.mono {ρ ρ' : Nat → Option Nat} {X X' Y : Nat → Prop} {w w' : World} (g : Goes ρ ρ' X X' Y w w') :
    ∀ {xs : List AV} {cs : List Value}, (∀ o, o ∈ AV.namesL xs → ρ' o = ρ o) → RepCs ρ X w xs cs → RepCs ρ' X' w' xs cs
  | _, _, _, .nil => .nil
  | _, _, hn, .cons h hs => .cons (RepC.mono g (fun o ho => hn o (by simp [AV.namesL, ho])) h) (RepCs.mono g (fun o ho => hn o (by simp [AV.namesL, ho])) hs)
end

/-- A slot's value. -/
def RepA1 (ρ : Nat → Option Nat) (X : Nat → Prop) (w : World) (x : AV) (v : Value) : Prop := ∃ cs, RepC ρ X w x cs ∧ v = wrapV x.isAgg cs

def RepT (ρ : Nat → Option Nat) (X : Nat → Prop) (w : World) : List AV → List Value → Prop
  | [], [] => True
  | x :: xs, v :: vs => RepA1 ρ X w x v ∧ RepT ρ X w xs vs
  | _, _ => False

def RepA (ρ : Nat → Option Nat) (X : Nat → Prop) (w : World) : AV → Value → Prop
  | .top, _ => True
  | .tup vs, v => ∃ us : List Value, v = .tuple us.toArray ∧ RepT ρ X w vs us
  | x, v => RepA1 ρ X w x v

theorem RepA1.mono {ρ ρ' : Nat → Option Nat} {X X' Y : Nat → Prop} {w w' : World} (g : Goes ρ ρ' X X' Y w w') {x : AV} {v : Value}
    (hn : ∀ o, o ∈ x.names → ρ' o = ρ o) (h : RepA1 ρ X w x v) : RepA1 ρ' X' w' x v :=
  let ⟨cs, h1, h2⟩ := h
  ⟨cs, h1.mono g hn, h2⟩

theorem RepT.mono {ρ ρ' : Nat → Option Nat} {X X' Y : Nat → Prop} {w w' : World} (g : Goes ρ ρ' X X' Y w w') : ∀ {xs : List AV} {vs : List Value},
    (∀ o, o ∈ AV.namesL xs → ρ' o = ρ o) → RepT ρ X w xs vs → RepT ρ' X' w' xs vs
  | [], [], _, _ => trivial
  | _ :: _, _ :: _, hn, ⟨h, hs⟩ => ⟨h.mono g (fun o ho => hn o (by simp [AV.namesL, ho])), RepT.mono g (fun o ho => hn o (by simp [AV.namesL, ho])) hs⟩
  | [], _ :: _, _, h => h.elim
  | _ :: _, [], _, h => h.elim

theorem RepA.mono {ρ ρ' : Nat → Option Nat} {X X' Y : Nat → Prop} {w w' : World} (g : Goes ρ ρ' X X' Y w w') {x : AV} {v : Value}
    (hn : ∀ o, o ∈ x.names → ρ' o = ρ o) (h : RepA ρ X w x v) : RepA ρ' X' w' x v := by
  cases x with
  | top => trivial
  | tup vs => obtain ⟨us, h1, h2⟩ := h; exact ⟨us, h1, h2.mono g (by simpa [AV.names] using hn)⟩
  | d _ => exact RepA1.mono g hn h
  | ptr _ _ => exact RepA1.mono g hn h
  | sl _ _ _ _ _ => exact RepA1.mono g hn h
  | st _ => exact RepA1.mono g hn h
  | dptr _ => exact RepA1.mono g hn h
  | fn _ _ => exact RepA1.mono g hn h
  | cst _ => exact RepA1.mono g hn h

def unfrozen (z : Nat × Nat) (n : Nat) : Prop := z.2 ≤ z.1 ∨ n ≤ z.1

/-- What is owned, at its place. -/
def ObjAt (ρ : Nat → Option Nat) (X : Nat → Prop) (w : World) (o : Nat) : AObj → Prop
  | .var x => ∃ (b : Nat) (cs : List Value) (T : TypeId) (z : Nat × Nat), ρ o = some b ∧ w.heap[b]? = some (.cells cs.toArray T z) ∧ unfrozen z cs.length ∧ RepC ρ X w x cs
  | .row e xs => (ρ o = none ∧ xs = []) ∨ ∃ (b : Nat) (cs rest : List Value) (T : TypeId) (z : Nat × Nat), ρ o = some b ∧ w.heap[b]? = some (.cells (cs ++ rest).toArray T z) ∧ unfrozen z (cs ++ rest).length ∧
      RepL X w xs cs ∧ ∀ x, x ∈ xs → x.size = e
  | .dead => True

theorem ObjAt.mono {ρ ρ' : Nat → Option Nat} {X X' Y : Nat → Prop} {w w' : World} (g : Goes ρ ρ' X X' Y w w') {o : Nat} {x : AObj} (ho : ρ' o = ρ o) (hb : ∀ b, ρ o = some b → w'.heap[b]? = w.heap[b]?)
    (hn : ∀ o, o ∈ x.names → ρ' o = ρ o) (h : ObjAt ρ X w o x) : ObjAt ρ' X' w' o x := by
  cases x with
  | var x => obtain ⟨b, cs, T, z, h0, h1, h2, h3⟩ := h; exact ⟨b, cs, T, z, by rw [ho, h0], by rw [hb b h0, h1], h2, h3.mono g hn⟩
  | row e xs =>
    rcases h with ⟨h1, h2⟩ | ⟨b, cs, rest, T, z, h0, h1, h2, h3, h4⟩
    · exact .inl ⟨by rw [ho, h1], h2⟩
    · exact .inr ⟨b, cs, rest, T, z, by rw [ho, h0], by rw [hb b h0, h1], h2, h3.mono g.ext g.off g.own, h4⟩
  | dead => trivial

theorem ObjAt.lt {ρ : Nat → Option Nat} {X : Nat → Prop} {w : World} {o b : Nat} {x : AObj} (h : ObjAt ρ X w o x) (ha : x.alive = true) (hb : ρ o = some b) : b < w.heap.size := by
  have key : ∀ (y : Obj), w.heap[b]? = some y → b < w.heap.size := fun y hy => (Array.getElem?_eq_some_iff.1 hy).1
  cases x with
  | var x =>
    obtain ⟨b', cs, T, z, h0, h1, _⟩ := h
    rw [hb] at h0; cases h0; exact key _ h1
  | row e xs =>
    rcases h with ⟨h1, _⟩ | ⟨b', cs, rest, T, z, h0, h1, _⟩
    · rw [hb] at h1; cases h1
    · rw [hb] at h0; cases h0; exact key _ h1
  | dead => cases ha

/-- The reading of a frame and of the memory that it owns. -/
structure Sim (S : St) (ρ : Nat → Option Nat) (X : Nat → Prop) (a : Act) (w : World) : Prop where
  n : a.tmps.size = S.n
  slots : ∀ t v, a.tmps[t]? = some v → RepA ρ X w (S.sl t) v
  objs : ∀ o x, S.hp o = some x → ObjAt ρ X w o x
  inj : ∀ o o' x x' b, S.hp o = some x → x.alive = true → S.hp o' = some x' → x'.alive = true → ρ o = some b → ρ o' = some b → o = o'
  own : ∀ o x b, S.hp o = some x → x.alive = true → ρ o = some b → X b
  closedS : ∀ t o, o ∈ (S.sl t).names → S.hp o ≠ none
  closedH : ∀ o x, S.hp o = some x → ∀ o', o' ∈ x.names → S.hp o' ≠ none

def lkp {α : Type} : List (Nat × α) → Nat → Option α
  | [], _ => none
  | (k, v) :: l, t => bif k.beq t then some v else lkp l t

theorem lkp_mem {α : Type} : ∀ {l : List (Nat × α)} {t : Nat} {v : α}, lkp l t = some v → (t, v) ∈ l
  | [], _, _, h => by cases h
  | (k, u) :: l, t, v, h => by
    simp only [lkp] at h
    cases hb : k.beq t with
    | true =>
      rw [hb] at h
      simp only [cond_true, Option.some.injEq] at h
      have := Nat.eq_of_beq_eq_true hb
      subst this; subst h; simp
    | false => rw [hb] at h; exact List.mem_cons_of_mem _ (lkp_mem h)

/-- A slot written, things written (or made). -/
def St.put (S : St) (dst : Option Tmp) (r : AV) : St :=
  match dst with
  | none => S
  | some d => { S with sl := fun t => bif d.beq t then r else S.sl t }
def St.write (S : St) (ws : List (Nat × AObj)) : St := { S with hp := fun o => match lkp ws o with | some x => some x | none => S.hp o }
def St.upd (S : St) (dst : Option Tmp) (r : AV) (ws : List (Nat × AObj)) : St := (S.write ws).put dst r

theorem St.hp_put (S : St) (dst : Option Tmp) (r : AV) : (S.put dst r).hp = S.hp := by cases dst <;> rfl
theorem St.n_put (S : St) (dst : Option Tmp) (r : AV) : (S.put dst r).n = S.n := by cases dst <;> rfl
theorem St.sl_put (S : St) (dst : Option Tmp) (r : AV) (t : Nat) : (S.put dst r).sl t = r ∧ dst = some t ∨ (S.put dst r).sl t = S.sl t ∧ dst ≠ some t := by
  cases dst with
  | none => exact .inr ⟨rfl, by simp⟩
  | some d =>
    simp only [St.put]
    cases hb : d.beq t with
    | true => have := Nat.eq_of_beq_eq_true hb; subst this; exact .inl ⟨by simp, rfl⟩
    | false => exact .inr ⟨by simp, fun h => by cases h; simp at hb⟩

theorem St.hp_upd (S : St) (dst : Option Tmp) (r : AV) (ws : List (Nat × AObj)) (o : Nat) :
    (S.upd dst r ws).hp o = match lkp ws o with | some x => some x | none => S.hp o := by
  simp only [St.upd, St.hp_put, St.write]

/-- **A step keeps the reading.** -/
theorem Sim.step {S : St} {ρ ρ' : Nat → Option Nat} {X X' Y : Nat → Prop} {a : Act} {w w' : World} (hs : Sim S ρ X a w) {dst : Option Tmp} {r : AV} {v : Value} {ws : List (Nat × AObj)}
    (hext : Ext Y w w') (hY : ∀ b, Y b → ∃ o x y, lkp ws o = some y ∧ S.hp o = some x ∧ x.alive = true ∧ ρ o = some b)
    (hρ : ∀ o, S.hp o ≠ none → ρ' o = ρ o) (hX : ∀ b, b < w.heap.size → X' b → X b)
    (hX2 : ∀ o x b, lkp ws o = none → S.hp o = some x → x.alive = true → ρ o = some b → X' b)
    (hobj : ∀ o x, lkp ws o = some x → ObjAt ρ' X' w' o x)
    (hown : ∀ o x b, lkp ws o = some x → x.alive = true → ρ' o = some b → X' b)
    (hdist : ∀ o x o' x' b, lkp ws o = some x → x.alive = true → lkp ws o' = some x' → x'.alive = true → ρ' o = some b → ρ' o' = some b → o = o')
    (hsep : ∀ o x o' x' b, lkp ws o = some x → x.alive = true → lkp ws o' = none → S.hp o' = some x' → x'.alive = true → ρ' o = some b → ρ o' = some b → False)
    (hnm : ∀ o x, lkp ws o = some x → ∀ o', o' ∈ x.names → S.hp o' ≠ none ∨ lkp ws o' ≠ none)
    (hr : RepA ρ' X' w' r v) (hrn : ∀ o, o ∈ r.names → S.hp o ≠ none ∨ lkp ws o ≠ none) :
    Sim (S.upd dst r ws) ρ' X' (a.put dst v) w' := by
  have hYX : ∀ b, Y b → X b := fun b hb => by obtain ⟨o, x, y, _, h2, h3, h4⟩ := hY b hb; exact hs.own o x b h2 h3 h4
  have g : Goes ρ ρ' X X' Y w w' := ⟨hext, fun b _ hx hy => hx (hYX b hy), fun b hb hx => hX b hb hx⟩
  have hdom : ∀ o, (S.hp o ≠ none ∨ lkp ws o ≠ none) → (S.upd dst r ws).hp o ≠ none := fun o ho => by
    rw [St.hp_upd]
    cases hl : lkp ws o with
    | some x => simp
    | none => rcases ho with ho | ho
              · exact ho
              · exact absurd hl ho
  have hold : ∀ o x, S.hp o = some x → lkp ws o = none → ObjAt ρ' X' w' o x := fun o x ho hl => by
    have hn : S.hp o ≠ none := by rw [ho]; simp
    cases ha : x.alive with
    | false => cases x <;> first | trivial | cases ha
    | true =>
      refine (hs.objs o x ho).mono g (hρ o hn) (fun b hb => hext.keep _ ((hs.objs o x ho).lt ha hb) fun hy => ?_) (fun o' ho' => hρ o' (hs.closedH o x ho o' ho'))
      obtain ⟨o2, x2, y2, h1, h2, h3, h4⟩ := hY _ hy
      have := hs.inj _ _ _ _ _ h2 h3 ho ha h4 hb
      subst this
      rw [hl] at h1; cases h1
  refine ⟨?_, ?_, ?_, ?_, ?_, ?_, ?_⟩
  · simp only [St.upd, St.n_put, St.write]
    rw [← hs.n]
    cases dst <;> simp [Act.put]
  · intro t u ht
    have key : (S.upd dst r ws).sl t = S.sl t → a.tmps[t]? = some u → RepA ρ' X' w' ((S.upd dst r ws).sl t) u := fun e h => by
      rw [e]; exact (hs.slots t u h).mono g (fun o ho => hρ o (hs.closedS t o ho))
    rcases St.sl_put (S.write ws) dst r t with ⟨h1, h2⟩ | ⟨h1, h2⟩
    · subst h2
      have e : (S.upd (some t) r ws).sl t = r := h1
      rw [e]
      simp only [Act.put, Array.getElem?_setIfInBounds] at ht
      simp only [if_true] at ht
      split at ht
      · cases ht; exact hr
      · cases ht
    · refine key h1 ?_
      cases dst with
      | none => exact ht
      | some d =>
        have hne : d ≠ t := fun e => h2 (by rw [e])
        simpa [Act.put, Array.getElem?_setIfInBounds_ne hne] using ht
  · intro o x hx
    rw [St.hp_upd] at hx
    cases hl : lkp ws o with
    | some y => simp only [hl, Option.some.injEq] at hx; subst hx; exact hobj o y hl
    | none => simp only [hl] at hx; exact hold o x hx hl
  · intro o o' x x' b hx ha hx' ha' he he'
    rw [St.hp_upd] at hx hx'
    cases hl : lkp ws o with
    | some y =>
      simp only [hl, Option.some.injEq] at hx; subst hx
      cases hl' : lkp ws o' with
      | some y' => simp only [hl', Option.some.injEq] at hx'; subst hx'; exact hdist _ _ _ _ _ hl ha hl' ha' he he'
      | none =>
        simp only [hl'] at hx'
        rw [hρ o' (by rw [hx']; simp)] at he'
        exact (hsep _ _ _ _ _ hl ha hl' hx' ha' he he').elim
    | none =>
      simp only [hl] at hx
      cases hl' : lkp ws o' with
      | some y' =>
        simp only [hl', Option.some.injEq] at hx'; subst hx'
        rw [hρ o (by rw [hx]; simp)] at he
        exact (hsep _ _ _ _ _ hl' ha' hl hx ha he' he).elim
      | none =>
        simp only [hl'] at hx'
        rw [hρ o (by rw [hx]; simp)] at he
        rw [hρ o' (by rw [hx']; simp)] at he'
        exact hs.inj _ _ _ _ _ hx ha hx' ha' he he'
  · intro o x b hx ha hb
    rw [St.hp_upd] at hx
    cases hl : lkp ws o with
    | some y => simp only [hl, Option.some.injEq] at hx; subst hx; exact hown o y b hl ha hb
    | none =>
      simp only [hl] at hx
      rw [hρ o (by rw [hx]; simp)] at hb
      exact hX2 o x b hl hx ha hb
  · intro t o ho
    rcases St.sl_put (S.write ws) dst r t with ⟨h1, _⟩ | ⟨h1, _⟩
    · have e : (S.upd dst r ws).sl t = r := h1
      rw [e] at ho
      exact hdom o (hrn o ho)
    · have e : (S.upd dst r ws).sl t = S.sl t := h1
      rw [e] at ho
      exact hdom o (.inl (hs.closedS t o ho))
  · intro o x hx o' ho'
    rw [St.hp_upd] at hx
    cases hl : lkp ws o with
    | some y => simp only [hl, Option.some.injEq] at hx; subst hx; exact hdom o' (hnm o y hl o' ho')
    | none => simp only [hl] at hx; exact hdom o' (.inl (hs.closedH o x hx o' ho'))

end Go.Sym
