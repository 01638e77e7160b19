/-
Calls by what they are said to do; regions, step by step ('Tr'), in the order of the text and in any order that the edges let.
-/
import Derived.Test.YthedcaopedbpdaaSymo
namespace Go.Sym

/-! ### Owned memory by itself -/

structure HSim (hp : Nat → Option AObj) (ρ : Nat → Option Nat) (X : Nat → Prop) (w : World) : Prop where
  objs : ∀ o x, hp o = some x → ObjAt ρ X w o x
  inj : ∀ o o' x x' b, hp o = some x → x.alive = true → hp o' = some x' → x'.alive = true → ρ o = some b → ρ o' = some b → o = o'
  own : ∀ o x b, hp o = some x → x.alive = true → ρ o = some b → X b
  closed : ∀ o x, hp o = some x → ∀ o', o' ∈ x.names → hp o' ≠ none

theorem Sim.heap {S : St} {ρ : Nat → Option Nat} {X : Nat → Prop} {a : Act} {w : World} (hs : Sim S ρ X a w) : HSim S.hp ρ X w := ⟨hs.objs, hs.inj, hs.own, hs.closedH⟩

def wr (hp : Nat → Option AObj) (ws : List (Nat × AObj)) : Nat → Option AObj := fun o => match lkp ws o with
  | some x => some x
  | none => hp o

/-- What is asked of owned memory from one world to the next. -/
structure HEvo (hp hp' : Nat → Option AObj) (ρ ρ' : Nat → Option Nat) (X X' : Nat → Prop) (w w' : World) : Prop where
  ext : Ext (fun b => ∃ o x, hp o = some x ∧ x.alive = true ∧ ρ o = some b) w w'
  xs : ∀ b, b < w.heap.size → (X' b → X b) ∧ (X b → X' b ∨ ∃ o x, hp o = some x ∧ x.alive = true ∧ ρ o = some b)
  own : ∀ o x b, hp' o = some x → x.alive = true → ρ' o = some b → w.heap.size ≤ b ∨ ∃ o' x', hp o' = some x' ∧ x'.alive = true ∧ ρ o' = some b
  same : ∀ n, hp n ≠ none → ρ' n = ρ n

/-- A call hands back what reads as 'r', and leaves what is owned as told by 'ws'. -/
def CallOK (P : Program) (f : FuncId) (args : List AV) (hp : Nat → Option AObj) (r : AV) (ws : List (Nat × AObj)) : Prop :=
  ∀ (ρ : Nat → Option Nat) (X : Nat → Prop) (w : World) (vs : List Value), HSim hp ρ X w → RepT ρ X w args vs → (∀ n, n ∈ AV.namesL args → hp n ≠ none) →
    Calls P f vs.toArray w fun e w' => ∃ v, e = .returned v ∧ ∃ ρ' X', HSim (wr hp ws) ρ' X' w' ∧ HEvo hp (wr hp ws) ρ ρ' X X' w w' ∧ RepA ρ' X' w' r v ∧ ∀ n, n ∈ r.names → wr hp ws n ≠ none

/-- A call panics with a value, and leaves what is owned as told by 'ws'. -/
def PanOK (P : Program) (f : FuncId) (args : List AV) (hp : Nat → Option AObj) (pv : Value) (ws : List (Nat × AObj)) : Prop :=
  ∀ (ρ : Nat → Option Nat) (X : Nat → Prop) (w : World) (vs : List Value), HSim hp ρ X w → RepT ρ X w args vs → (∀ n, n ∈ AV.namesL args → hp n ≠ none) →
    Calls P f vs.toArray w fun e w' => e = .panicked [{ v := pv, recovered := false }] ∧ ∃ ρ' X', HSim (wr hp ws) ρ' X' w' ∧ HEvo hp (wr hp ws) ρ ρ' X X' w w'

theorem wr_ne {hp : Nat → Option AObj} {ws : List (Nat × AObj)} {n : Nat} (h : hp n ≠ none) : wr hp ws n ≠ none := by
  unfold wr
  split
  · simp
  · exact h

theorem St.hp_upd' (S : St) (dst : Option Tmp) (r : AV) (ws : List (Nat × AObj)) : (S.upd dst r ws).hp = wr S.hp ws := by
  funext o
  rw [St.hp_upd]; rfl

/-- From what holds behind a call to the frame behind it. -/
theorem Sim.call {S : St} {ρ ρ' : Nat → Option Nat} {X X' : Nat → Prop} {a : Act} {w w' : World} (hs : Sim S ρ X a w) {dst : Option Tmp} {r : AV} {v : Value} {ws : List (Nat × AObj)}
    (hh : HSim (wr S.hp ws) ρ' X' w') (he : HEvo S.hp (wr S.hp ws) ρ ρ' X X' w w') (hr : RepA ρ' X' w' r v) (hrn : ∀ n, n ∈ r.names → wr S.hp ws n ≠ none) :
    Sim (S.upd dst r ws) ρ' X' (a.put dst v) w' ∧ Evo S (S.upd dst r ws) ρ ρ' X X' w w' := by
  have g : Goes ρ ρ' X X' _ w w' := ⟨he.ext, fun b _ hx hy => by obtain ⟨o, x, h1, h2, h3⟩ := hy; exact hx (hs.own o x b h1 h2 h3), fun b hb h => (he.xs b hb).1 h⟩
  have hhp := St.hp_upd' S dst r ws
  refine ⟨⟨?_, ?_, ?_, ?_, ?_, ?_, ?_⟩, ⟨he.ext, he.xs, fun o x b h1 h2 h3 => he.own o x b (by rw [← hhp]; exact h1) h2 h3, he.same⟩⟩
  · simp only [St.upd, St.n_put, St.write]
    rw [← hs.n]
    cases dst <;> simp [Act.put]
  · intro t u ht
    rcases St.sl_put (S.write ws) dst r t with ⟨h1, h2⟩ | ⟨h1, h2⟩
    · subst h2
      have e : (S.upd (some t) r ws).sl t = r := h1
      rw [e]
      simp only [Act.put, Array.getElem?_setIfInBounds, if_true] at ht
      split at ht
      · cases ht; exact hr
      · cases ht
    · have e : (S.upd dst r ws).sl t = S.sl t := h1
      rw [e]
      have ht' : a.tmps[t]? = some u := by
        cases dst with
        | none => exact ht
        | some d =>
          have hne : d ≠ t := fun e => h2 (by rw [e])
          simpa [Act.put, Array.getElem?_setIfInBounds_ne hne] using ht
      exact (hs.slots t u ht').mono g (fun o ho => he.same o (hs.closedS t o ho))
  · intro o x hx; rw [hhp] at hx; exact hh.objs o x hx
  · intro o o' x x' b h1 h2 h3 h4 h5 h6; rw [hhp] at h1 h3; exact hh.inj o o' x x' b h1 h2 h3 h4 h5 h6
  · intro o x b h1 h2 h3; rw [hhp] at h1; exact hh.own o x b h1 h2 h3
  · intro t o ho
    rw [hhp]
    rcases St.sl_put (S.write ws) dst r t with ⟨h1, _⟩ | ⟨h1, _⟩
    · have e : (S.upd dst r ws).sl t = r := h1
      rw [e] at ho; exact hrn o ho
    · have e : (S.upd dst r ws).sl t = S.sl t := h1
      rw [e] at ho; exact wr_ne (hs.closedS t o ho)
  · intro o x h1 o' ho'; rw [hhp] at h1 ⊢; exact hh.closed o x h1 o' ho'

/-! ### What is handed over as data -/

mutual
def toD (hp : Nat → Option AObj) : AV → Option (Prop × D × List Nat)
  | .d .nils => some (True, .sl [], [])
  | .d x => some (True, x, [])
  | .sl o p e off len => match elsOf hp (.sl o p e off len) with
    | some (s, xs) => some (s, .sl xs, [o])
    | none => none
  | .st fs => match toDs hp fs with
    | some (s, ys, fz) => some (s, .st ys, fz)
    | none => none
  | _ => none
def toDs (hp : Nat → Option AObj) : List AV → Option (Prop × List D × List Nat)
  | [] => some (True, [], [])
  | x :: xs => match toD hp x, toDs hp xs with
    | some (s, y, fz), some (s', ys, fz') => some (s ∧ s', y :: ys, fz ++ fz')
    | _, _ => none
end

def cvt (hp : Nat → Option AObj) : List Bool → List AV → Option (Prop × List AV × List Nat)
  | _, [] => some (True, [], [])
  | [], x :: xs => match cvt hp [] xs with
    | some (s, ys, fz) => bif x.plain then some (s, x :: ys, fz) else none
    | none => none
  | m :: ms, x :: xs => match cvt hp ms xs with
    | some (s, ys, fz) => bif m then match toD hp x with
        | some (s', y, fz') => some (s' ∧ s, .d y :: ys, fz' ++ fz)
        | none => none
      else bif x.plain then some (s, x :: ys, fz) else none
    | none => none

/-- Names let go. -/
def deads (fz : List Nat) : List (Nat × AObj) := fz.map fun n => (n, .dead)

theorem lkp_deads {fz : List Nat} {n : Nat} {x : AObj} (h : lkp (deads fz) n = some x) : x = .dead ∧ n ∈ fz := by
  have := lkp_mem h
  simp [deads] at this
  obtain ⟨m, h1, rfl, h3⟩ := this
  exact ⟨h3.symm, h1⟩

theorem lkp_deads_mem {fz : List Nat} {n : Nat} (h : n ∈ fz) : lkp (deads fz) n = some .dead := by
  induction fz with
  | nil => cases h
  | cons m fz ih =>
    simp only [deads, List.map_cons, lkp]
    cases hb : m.beq n with
    | true => rfl
    | false =>
      rcases List.mem_cons.1 h with rfl | h
      · simp at hb
      · exact ih h

/-- What is owned, less some of it. -/
def less (hp : Nat → Option AObj) (ρ : Nat → Option Nat) (X : Nat → Prop) (fz : List Nat) : Nat → Prop := fun b => X b ∧ ¬ ∃ o x, o ∈ fz ∧ hp o = some x ∧ x.alive = true ∧ ρ o = some b

theorem Sim.kill {S : St} {ρ : Nat → Option Nat} {X : Nat → Prop} {a : Act} {w : World} (hs : Sim S ρ X a w) (fz : List Nat) :
    Sim (S.write (deads fz)) ρ (less S.hp ρ X fz) a w := by
  have g : Goes ρ ρ X (less S.hp ρ X fz) (fun _ => False) w w := ⟨.refl _ _, fun _ _ _ h => h, fun _ _ h => h.1⟩
  have hhp : ∀ o x, (S.write (deads fz)).hp o = some x → (x = .dead ∧ o ∈ fz) ∨ (S.hp o = some x ∧ o ∉ fz) := fun o x h => by
    simp only [St.write] at h
    cases hl : lkp (deads fz) o with
    | some y => simp only [hl, Option.some.injEq] at h; subst h; exact .inl (lkp_deads hl)
    | none =>
      simp only [hl] at h
      refine .inr ⟨h, fun hm => ?_⟩
      rw [lkp_deads_mem hm] at hl; cases hl
  have hdom : ∀ o, S.hp o ≠ none → (S.write (deads fz)).hp o ≠ none := fun o h => wr_ne (ws := deads fz) h
  refine ⟨hs.n, fun t v h => (hs.slots t v h).mono g (fun _ _ => rfl), fun o x h => ?_, fun o o' x x' b h1 h2 h3 h4 h5 h6 => ?_, fun o x b h1 h2 h3 => ?_, fun t o ho => hdom o (hs.closedS t o ho), fun o x h o' ho' => ?_⟩
  · rcases hhp o x h with ⟨rfl, _⟩ | ⟨h, _⟩
    · trivial
    · exact (hs.objs o x h).mono g rfl (fun _ _ => rfl) (fun _ _ => rfl)
  · rcases hhp o x h1 with ⟨rfl, _⟩ | ⟨h1, _⟩
    · cases h2
    · rcases hhp o' x' h3 with ⟨rfl, _⟩ | ⟨h3, _⟩
      · cases h4
      · exact hs.inj o o' x x' b h1 h2 h3 h4 h5 h6
  · rcases hhp o x h1 with ⟨rfl, _⟩ | ⟨h1, hn⟩
    · cases h2
    · refine ⟨hs.own o x b h1 h2 h3, ?_⟩
      rintro ⟨o', x', hm, k1, k2, k3⟩
      have := hs.inj _ _ _ _ _ h1 h2 k1 k2 h3 k3
      subst this; exact hn hm
  · rcases hhp o x h with ⟨rfl, _⟩ | ⟨h, _⟩
    · cases ho'
    · exact hdom o' (hs.closedH o x h o' ho')

theorem elsOf_some {hp : Nat → Option AObj} {o : Nat} {p : List Stp} {e off len : Nat} {s : Prop} {xs : List D} (h : elsOf hp (.sl o p e off len) = some (s, xs)) : ∃ x, hp o = some x ∧ x.alive = true := by
  simp only [elsOf] at h
  split at h
  · exact ⟨_, by assumption, rfl⟩
  · exact ⟨_, by assumption, rfl⟩
  · cases h

mutual
theorem toDC_rep {S : St} {ρ : Nat → Option Nat} {X : Nat → Prop} {a : Act} {w : World} (hs : Sim S ρ X a w) {F : List Nat} : ∀ {x : AV} {s : Prop} {y : D} {fz : List Nat} {cs : List Value}, toD S.hp x = some (s, y, fz) → s → (∀ n, n ∈ fz → n ∈ F) →
    RepC ρ X w x cs → RepD (less S.hp ρ X F) w y cs ∧ y.isAgg = x.isAgg
  | .d x, s, y, fz, cs, h, _, _, hc => by
    cases hc with
    | d hc =>
      cases x with
      | nils =>
        simp only [toD, Option.some.injEq, Prod.mk.injEq] at h
        obtain ⟨_, rfl, _⟩ := h
        cases hc
        exact ⟨.slnil, rfl⟩
      | _ =>
        simp only [toD, Option.some.injEq, Prod.mk.injEq] at h
        obtain ⟨_, rfl, _⟩ := h
        exact ⟨hc.mono (Ext.refl (fun _ => False) w) (fun _ _ _ h => h) (fun _ _ h => h.1), rfl⟩
  | .sl o p e off len, s, y, fz, cs, h, hside, hF, hc => by
    have hv := repA_of_c hc
    obtain ⟨v, rfl⟩ := List.length_eq_one_iff.1 (show cs.length = 1 from hc.length)
    have hv : RepA ρ X w (.sl o p e off len) v := hv
    simp only [toD] at h
    split at h <;> cases h
    rename_i hels
    obtain ⟨ob, ho1, ho2⟩ := elsOf_some hels
    refine ⟨?_, rfl⟩
    rcases elsOf_rep hs (fun _ _ h => h) hels hside hv with ⟨rfl, ad, cap, rfl⟩ | ⟨b, q, cap, cs, e', rfl, k1, k2, k3, k4, k5⟩
    · exact .slnil
    · have hb : ρ o = some b := by
        rcases repA_sl hv with ⟨_, _, g1⟩ | ⟨b', _, _, _, _, _, g0, g1, _⟩
        · cases g1
        · cases g1; exact g0
      exact .sl (fun hx => hx.2 ⟨o, ob, hF o (by simp), ho1, ho2, hb⟩) k5 k3 k4 k1 (k2.mono (Ext.refl (fun _ => False) w) (fun _ _ _ h => h) (fun _ _ h => h.1))
  | .st fs, s, y, fz, cs, h, hside, hF, hc => by
    simp only [toD] at h
    split at h <;> cases h
    rename_i hds
    cases hc with
    | st hc => exact ⟨.st (toDCs_rep hs hds hside hF hc), rfl⟩
  | .ptr _ _, s, y, fz, cs, h, _, _, _ => by simp only [toD] at h; cases h
  | .dptr _, s, y, fz, cs, h, _, _, _ => by simp only [toD] at h; cases h
  | .fn _ _, s, y, fz, cs, h, _, _, _ => by simp only [toD] at h; cases h
  | .tup _, s, y, fz, cs, h, _, _, _ => by simp only [toD] at h; cases h
  | .top, s, y, fz, cs, h, _, _, _ => by simp only [toD] at h; cases h
  | .cst _, s, y, fz, cs, h, _, _, _ => by simp only [toD] at h; cases h
theorem toDCs_rep {S : St} {ρ : Nat → Option Nat} {X : Nat → Prop} {a : Act} {w : World} (hs : Sim S ρ X a w) {F : List Nat} : ∀ {xs : List AV} {s : Prop} {ys : List D} {fz : List Nat} {cs : List Value}, toDs S.hp xs = some (s, ys, fz) → s → (∀ n, n ∈ fz → n ∈ F) →
    RepCs ρ X w xs cs → RepL (less S.hp ρ X F) w ys cs
  | [], s, ys, fz, cs, h, _, _, hc => by
    simp only [toDs, Option.some.injEq, Prod.mk.injEq] at h
    obtain ⟨_, rfl, _⟩ := h
    cases hc; exact .nil
  | x :: xs, s, ys, fz, cs, h, hside, hF, hc => by
    simp only [toDs] at h
    split at h <;> cases h
    rename_i h1 h2
    cases hc with
    | cons hx hxs => exact .cons (toDC_rep hs h1 hside.1 (fun n hn => hF n (List.mem_append.2 (.inl hn))) hx).1 (toDCs_rep hs h2 hside.2 (fun n hn => hF n (List.mem_append.2 (.inr hn))) hxs)
end

theorem toD_plain {hp : Nat → Option AObj} {x : AV} {s : Prop} {y : D} {fz : List Nat} (h : toD hp x = some (s, y, fz)) : x ≠ .top ∧ ∀ vs, x ≠ .tup vs := by
  refine ⟨fun e => ?_, fun vs e => ?_⟩ <;> subst e <;> simp only [toD] at h <;> cases h

theorem toD_rep {S : St} {ρ : Nat → Option Nat} {X : Nat → Prop} {a : Act} {w : World} (hs : Sim S ρ X a w) {x : AV} {s : Prop} {y : D} {fz F : List Nat} (h : toD S.hp x = some (s, y, fz)) (hside : s) (hF : ∀ n, n ∈ fz → n ∈ F) {v : Value}
    (hv : RepA ρ X w x v) : RepA1 ρ (less S.hp ρ X F) w (.d y) v := by
  have hv1 : RepA1 ρ X w x v := by
    obtain ⟨p1, p2⟩ := toD_plain h
    cases x with
    | top => exact absurd rfl p1
    | tup vs => exact absurd rfl (p2 vs)
    | _ => exact hv
  obtain ⟨cs, h1, h2⟩ := hv1
  obtain ⟨k1, k2⟩ := toDC_rep hs h hside hF h1
  exact ⟨cs, .d k1, by rw [h2]; show _ = wrapV y.isAgg cs; rw [k2]⟩

mutual
theorem toD_names {hp : Nat → Option AObj} : ∀ {x : AV} {s : Prop} {y : D} {fz : List Nat}, toD hp x = some (s, y, fz) → ∀ n, n ∈ fz → n ∈ x.names
  | .d x, s, y, fz, h, n, hn => by
    cases x <;> (simp only [toD, Option.some.injEq, Prod.mk.injEq] at h; obtain ⟨_, _, rfl⟩ := h; cases hn)
  | .sl o p e off len, s, y, fz, h, n, hn => by
    simp only [toD] at h
    split at h <;> cases h
    exact hn
  | .st fs, s, y, fz, h, n, hn => by
    simp only [toD] at h
    split at h <;> cases h
    rename_i hds
    simp only [AV.names]
    exact toDs_names hds n hn
  | .ptr _ _, s, y, fz, h, _, _ => by simp only [toD] at h; cases h
  | .dptr _, s, y, fz, h, _, _ => by simp only [toD] at h; cases h
  | .fn _ _, s, y, fz, h, _, _ => by simp only [toD] at h; cases h
  | .tup _, s, y, fz, h, _, _ => by simp only [toD] at h; cases h
  | .top, s, y, fz, h, _, _ => by simp only [toD] at h; cases h
  | .cst _, s, y, fz, h, _, _ => by simp only [toD] at h; cases h
theorem toDs_names {hp : Nat → Option AObj} : ∀ {xs : List AV} {s : Prop} {ys : List D} {fz : List Nat}, toDs hp xs = some (s, ys, fz) → ∀ n, n ∈ fz → n ∈ AV.namesL xs
  | [], s, ys, fz, h, n, hn => by
    simp only [toDs, Option.some.injEq, Prod.mk.injEq] at h
    obtain ⟨_, _, rfl⟩ := h
    cases hn
  | x :: xs, s, ys, fz, h, n, hn => by
    simp only [toDs] at h
    split at h <;> cases h
    rename_i h1 h2
    simp only [AV.namesL, List.mem_append]
    rcases List.mem_append.1 hn with hn | hn
    · exact .inl (toD_names h1 n hn)
    · exact .inr (toDs_names h2 n hn)
end

theorem cvt_rep {S : St} {ρ : Nat → Option Nat} {X : Nat → Prop} {a : Act} {w : World} (hs : Sim S ρ X a w) {F : List Nat} : ∀ {ms : List Bool} {xs ys : List AV} {s : Prop} {fz : List Nat} {vs : List Value}, cvt S.hp ms xs = some (s, ys, fz) → s →
    (∀ n, n ∈ fz → n ∈ F) → xs.length = vs.length → (∀ (i : Nat) (x : AV) (v : Value), xs[i]? = some x → vs[i]? = some v → RepA ρ X w x v) → RepT ρ (less S.hp ρ X F) w ys vs := by
  have g : Goes ρ ρ X (less S.hp ρ X F) (fun _ => False) w w := ⟨.refl _ _, fun _ _ _ h => h, fun _ _ h => h.1⟩
  intro ms xs
  induction xs generalizing ms with
  | nil =>
    intro ys s fz vs h _ _ hl _
    have : vs = [] := List.eq_nil_of_length_eq_zero hl.symm
    subst this
    have : ys = [] := by cases ms <;> (simp only [cvt, Option.some.injEq, Prod.mk.injEq] at h; exact h.2.1.symm)
    subst this; trivial
  | cons x xs ih =>
    intro ys s fz vs h hside hF hl hr
    cases vs with
    | nil => cases hl
    | cons v vs =>
      have hx := hr 0 x v rfl rfl
      have keep : x.plain = true → RepA1 ρ (less S.hp ρ X F) w x v := fun hp => by
        obtain ⟨cs, c1, c2, _⟩ := repA_cells hp hx
        exact ⟨cs, c1.mono g (fun _ _ => rfl), c2⟩
      cases ms with
      | nil =>
        simp only [cvt] at h
        split at h <;> try (cases h; done)
        rename_i s' ys' fz' hrest
        cases hp : x.plain <;> simp only [hp, cond_true, cond_false] at h <;> cases h
        exact ⟨keep hp, ih hrest hside hF (by simpa using hl) (fun i y u h1 h2 => hr (i + 1) y u (by simpa using h1) (by simpa using h2))⟩
      | cons m ms =>
        simp only [cvt] at h
        split at h <;> try (cases h; done)
        rename_i s' ys' fz' hrest
        cases m with
        | true =>
          simp only [cond_true] at h
          split at h <;> cases h
          rename_i s2 y fz2 htd
          exact ⟨toD_rep hs htd hside.1 (fun n hn => hF n (List.mem_append.2 (.inl hn))) hx, ih hrest hside.2 (fun n hn => hF n (List.mem_append.2 (.inr hn))) (by simpa using hl) (fun i y u h1 h2 => hr (i + 1) y u (by simpa using h1) (by simpa using h2))⟩
        | false =>
          simp only [cond_false] at h
          cases hp : x.plain <;> simp only [hp, cond_true, cond_false] at h <;> cases h
          exact ⟨keep hp, ih hrest hside hF (by simpa using hl) (fun i y u h1 h2 => hr (i + 1) y u (by simpa using h1) (by simpa using h2))⟩

theorem cvt_names {hp : Nat → Option AObj} {n : Nat} : ∀ {xs : List AV} {ms : List Bool} {ys : List AV} {s : Prop} {fz : List Nat}, cvt hp ms xs = some (s, ys, fz) → (n ∈ AV.namesL ys → n ∈ AV.namesL xs) ∧ (n ∈ fz → n ∈ AV.namesL xs)
  | [], ms, ys, s, fz, h => by
    have : ys = [] ∧ fz = [] := by cases ms <;> (simp only [cvt, Option.some.injEq, Prod.mk.injEq] at h; exact ⟨h.2.1.symm, h.2.2.symm⟩)
    obtain ⟨rfl, rfl⟩ := this
    exact ⟨id, fun h => by cases h⟩
  | x :: xs, ms, ys, s, fz, h => by
    simp only [AV.namesL, List.mem_append]
    cases ms with
    | nil =>
      simp only [cvt] at h
      split at h <;> try (cases h; done)
      rename_i hrest
      cases hp : x.plain <;> simp only [hp, cond_true, cond_false] at h <;> cases h
      have ih := cvt_names (n := n) hrest
      refine ⟨fun h => ?_, fun h => .inr (ih.2 h)⟩
      simp only [AV.namesL, List.mem_append] at h
      exact h.imp id ih.1
    | cons m ms =>
      simp only [cvt] at h
      split at h <;> try (cases h; done)
      rename_i hrest
      have ih := cvt_names (n := n) hrest
      cases m with
      | true =>
        simp only [cond_true] at h
        split at h <;> cases h
        rename_i s2 y fz2 htd
        refine ⟨fun h => ?_, fun h => ?_⟩
        · simp only [AV.namesL, AV.names, List.nil_append] at h
          exact .inr (ih.1 h)
        · rcases List.mem_append.1 h with h | h
          · exact .inl (toD_names htd n h)
          · exact .inr (ih.2 h)
      | false =>
        simp only [cond_false] at h
        cases hp : x.plain <;> simp only [hp, cond_true, cond_false] at h <;> cases h
        refine ⟨fun h => ?_, fun h => .inr (ih.2 h)⟩
        simp only [AV.namesL, List.mem_append] at h
        exact h.imp id ih.1

end Go.Sym
