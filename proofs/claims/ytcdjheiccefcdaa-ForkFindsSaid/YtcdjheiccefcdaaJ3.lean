import Derived.Test.YtcdjheiccefcdaaJ2
import Derived.OrdersIn
import Derived.RangeFuncRecord
import Derived.Scope
set_option linter.unusedSimpArgs false
set_option linter.unusedVariables false
/-
What is handed over as data; slices cut with a bound, slices of what is owned, the smaller of two numbers.
-/
set_option linter.unusedSimpArgs false
set_option linter.unusedVariables false
namespace Go.Sym

def wr (hp : Nat → Option AObj) (ws : List (Nat × AObj)) : Nat → Option AObj := fun o => match lkp ws o with
  | some x => some x
  | none => hp o

theorem wr_ne {hp : Nat → Option AObj} {ws : List (Nat × AObj)} {n : Nat} (h : hp n ≠ none) : wr hp ws n ≠ none := by
  unfold wr
  split
  · simp
  · exact h

/-! ### What is handed over as data -/

mutual
def toD (hp : Nat → Option AObj) : AV → Option (Prop × D × List Nat)
  | .d .nils => some (True, .sl [], [])
  | .d x => some (True, x, [])
  | .sl o p e off len => match elsOf hp (.sl o p e off len) with
    | some (s, xs) => some (s, .sl xs, [o])
    | none => none
  | .st fs => match toDs hp fs with
    | some (s, ys, fz) => some (s, .st ys, fz)
    | none => none
  | _ => none
def toDs (hp : Nat → Option AObj) : List AV → Option (Prop × List D × List Nat)
  | [] => some (True, [], [])
  | x :: xs => match toD hp x, toDs hp xs with
    | some (s, y, fz), some (s', ys, fz') => some (s ∧ s', y :: ys, fz ++ fz')
    | _, _ => none
end

def cvt (hp : Nat → Option AObj) : List Bool → List AV → Option (Prop × List AV × List Nat)
  | _, [] => some (True, [], [])
  | [], x :: xs => match cvt hp [] xs with
    | some (s, ys, fz) => bif x.plain then some (s, x :: ys, fz) else none
    | none => none
  | m :: ms, x :: xs => match cvt hp ms xs with
    | some (s, ys, fz) => bif m then match toD hp x with
        | some (s', y, fz') => some (s' ∧ s, .d y :: ys, fz' ++ fz)
        | none => none
      else bif x.plain then some (s, x :: ys, fz) else none
    | none => none

/-- Names let go. -/
def deads (fz : List Nat) : List (Nat × AObj) := fz.map fun n => (n, .dead)

theorem lkp_deads {fz : List Nat} {n : Nat} {x : AObj} (h : lkp (deads fz) n = some x) : x = .dead ∧ n ∈ fz := by
  have := lkp_mem h
  simp [deads] at this
  obtain ⟨m, h1, rfl, h3⟩ := this
  exact ⟨h3.symm, h1⟩

theorem lkp_deads_mem {fz : List Nat} {n : Nat} (h : n ∈ fz) : lkp (deads fz) n = some .dead := by
  induction fz with
  | nil => cases h
  | cons m fz ih =>
    simp only [deads, List.map_cons, lkp]
    cases hb : m.beq n with
    | true => rfl
    | false =>
      rcases List.mem_cons.1 h with rfl | h
      · simp at hb
      · exact ih h

/-- What is owned, less some of it. -/
def less (hp : Nat → Option AObj) (ρ : Nat → Option Nat) (X : Nat → Prop) (fz : List Nat) : Nat → Prop := fun b => X b ∧ ¬ ∃ o x, o ∈ fz ∧ hp o = some x ∧ x.alive = true ∧ ρ o = some b

theorem Sim.kill {S : St} {ρ : Nat → Option Nat} {X : Nat → Prop} {a : Act} {w : World} (hs : Sim S ρ X a w) (fz : List Nat) :
    Sim (S.write (deads fz)) ρ (less S.hp ρ X fz) a w := by
  have g : Goes ρ ρ X (less S.hp ρ X fz) (fun _ => False) w w := ⟨.refl _ _, fun _ _ _ h => h, fun _ _ h => h.1⟩
  have hhp : ∀ o x, (S.write (deads fz)).hp o = some x → (x = .dead ∧ o ∈ fz) ∨ (S.hp o = some x ∧ o ∉ fz) := fun o x h => by
    simp only [St.write] at h
    cases hl : lkp (deads fz) o with
    | some y => simp only [hl, Option.some.injEq] at h; subst h; exact .inl (lkp_deads hl)
    | none =>
      simp only [hl] at h
      refine .inr ⟨h, fun hm => ?_⟩
      rw [lkp_deads_mem hm] at hl; cases hl
  have hdom : ∀ o, S.hp o ≠ none → (S.write (deads fz)).hp o ≠ none := fun o h => wr_ne (ws := deads fz) h
  refine ⟨hs.n, fun t v h => (hs.slots t v h).mono g (fun _ _ => rfl), fun o x h => ?_, fun o o' x x' b h1 h2 h3 h4 h5 h6 => ?_, fun o x b h1 h2 h3 => ?_, fun t o ho => hdom o (hs.closedS t o ho), fun o x h o' ho' => ?_⟩
  · rcases hhp o x h with ⟨rfl, _⟩ | ⟨h, _⟩
    · trivial
    · exact (hs.objs o x h).mono g rfl (fun _ _ => rfl) (fun _ _ => rfl)
  · rcases hhp o x h1 with ⟨rfl, _⟩ | ⟨h1, _⟩
    · cases h2
    · rcases hhp o' x' h3 with ⟨rfl, _⟩ | ⟨h3, _⟩
      · cases h4
      · exact hs.inj o o' x x' b h1 h2 h3 h4 h5 h6
  · rcases hhp o x h1 with ⟨rfl, _⟩ | ⟨h1, hn⟩
    · cases h2
    · refine ⟨hs.own o x b h1 h2 h3, ?_⟩
      rintro ⟨o', x', hm, k1, k2, k3⟩
      have := hs.inj _ _ _ _ _ h1 h2 k1 k2 h3 k3
      subst this; exact hn hm
  · rcases hhp o x h with ⟨rfl, _⟩ | ⟨h, _⟩
    · cases ho'
    · exact hdom o' (hs.closedH o x h o' ho')

theorem elsOf_some {hp : Nat → Option AObj} {o : Nat} {p : List Stp} {e off len : Nat} {s : Prop} {xs : List D} (h : elsOf hp (.sl o p e off len) = some (s, xs)) : ∃ x, hp o = some x ∧ x.alive = true := by
  simp only [elsOf] at h
  split at h
  · exact ⟨_, by assumption, rfl⟩
  · exact ⟨_, by assumption, rfl⟩
  · cases h

mutual
theorem toDC_rep {S : St} {ρ : Nat → Option Nat} {X : Nat → Prop} {a : Act} {w : World} (hs : Sim S ρ X a w) {F : List Nat} : ∀ {x : AV} {s : Prop} {y : D} {fz : List Nat} {cs : List Value}, toD S.hp x = some (s, y, fz) → s → (∀ n, n ∈ fz → n ∈ F) →
    RepC ρ X w x cs → RepD (less S.hp ρ X F) w y cs ∧ y.isAgg = x.isAgg
  | .d x, s, y, fz, cs, h, _, _, hc => by
    cases hc with
    | d hc =>
      cases x with
      | nils =>
        simp only [toD, Option.some.injEq, Prod.mk.injEq] at h
        obtain ⟨_, rfl, _⟩ := h
        cases hc
        exact ⟨.slnil, rfl⟩
      | _ =>
        simp only [toD, Option.some.injEq, Prod.mk.injEq] at h
        obtain ⟨_, rfl, _⟩ := h
        exact ⟨hc.mono (Ext.refl (fun _ => False) w) (fun _ _ _ h => h) (fun _ _ h => h.1), rfl⟩
  | .sl o p e off len, s, y, fz, cs, h, hside, hF, hc => by
    have hv := repA_of_c hc
    obtain ⟨v, rfl⟩ := List.length_eq_one_iff.1 (show cs.length = 1 from hc.length)
    have hv : RepA ρ X w (.sl o p e off len) v := hv
    simp only [toD] at h
    split at h <;> cases h
    rename_i hels
    obtain ⟨ob, ho1, ho2⟩ := elsOf_some hels
    refine ⟨?_, rfl⟩
    rcases elsOf_rep hs (fun _ _ h => h) hels hside hv with ⟨rfl, ad, cap, rfl⟩ | ⟨b, q, cap, cs, e', rfl, k1, k2, k3, k4, k5⟩
    · exact .slnil
    · have hb : ρ o = some b := by
        rcases repA_sl hv with ⟨_, _, g1⟩ | ⟨b', _, _, _, _, _, g0, g1, _⟩
        · cases g1
        · cases g1; exact g0
      exact .sl (fun hx => hx.2 ⟨o, ob, hF o (by simp), ho1, ho2, hb⟩) k5 k3 k4 k1 (k2.mono (Ext.refl (fun _ => False) w) (fun _ _ _ h => h) (fun _ _ h => h.1))
  | .st fs, s, y, fz, cs, h, hside, hF, hc => by
    simp only [toD] at h
    split at h <;> cases h
    rename_i hds
    cases hc with
    | st hc => exact ⟨.st (toDCs_rep hs hds hside hF hc), rfl⟩
  | .ptr _ _, s, y, fz, cs, h, _, _, _ => by simp only [toD] at h; cases h
  | .dptr _, s, y, fz, cs, h, _, _, _ => by simp only [toD] at h; cases h
  | .fn _ _, s, y, fz, cs, h, _, _, _ => by simp only [toD] at h; cases h
  | .tup _, s, y, fz, cs, h, _, _, _ => by simp only [toD] at h; cases h
  | .top, s, y, fz, cs, h, _, _, _ => by simp only [toD] at h; cases h
  | .cst _, s, y, fz, cs, h, _, _, _ => by simp only [toD] at h; cases h
theorem toDCs_rep {S : St} {ρ : Nat → Option Nat} {X : Nat → Prop} {a : Act} {w : World} (hs : Sim S ρ X a w) {F : List Nat} : ∀ {xs : List AV} {s : Prop} {ys : List D} {fz : List Nat} {cs : List Value}, toDs S.hp xs = some (s, ys, fz) → s → (∀ n, n ∈ fz → n ∈ F) →
    RepCs ρ X w xs cs → RepL (less S.hp ρ X F) w ys cs
  | [], s, ys, fz, cs, h, _, _, hc => by
    simp only [toDs, Option.some.injEq, Prod.mk.injEq] at h
    obtain ⟨_, rfl, _⟩ := h
    cases hc; exact .nil
  | x :: xs, s, ys, fz, cs, h, hside, hF, hc => by
    simp only [toDs] at h
    split at h <;> cases h
    rename_i h1 h2
    cases hc with
    | cons hx hxs => exact .cons (toDC_rep hs h1 hside.1 (fun n hn => hF n (List.mem_append.2 (.inl hn))) hx).1 (toDCs_rep hs h2 hside.2 (fun n hn => hF n (List.mem_append.2 (.inr hn))) hxs)
end

theorem toD_plain {hp : Nat → Option AObj} {x : AV} {s : Prop} {y : D} {fz : List Nat} (h : toD hp x = some (s, y, fz)) : x ≠ .top ∧ ∀ vs, x ≠ .tup vs := by
  refine ⟨fun e => ?_, fun vs e => ?_⟩ <;> subst e <;> simp only [toD] at h <;> cases h

theorem toD_rep {S : St} {ρ : Nat → Option Nat} {X : Nat → Prop} {a : Act} {w : World} (hs : Sim S ρ X a w) {x : AV} {s : Prop} {y : D} {fz F : List Nat} (h : toD S.hp x = some (s, y, fz)) (hside : s) (hF : ∀ n, n ∈ fz → n ∈ F) {v : Value}
    (hv : RepA ρ X w x v) : RepA1 ρ (less S.hp ρ X F) w (.d y) v := by
  have hv1 : RepA1 ρ X w x v := by
    obtain ⟨p1, p2⟩ := toD_plain h
    cases x with
    | top => exact absurd rfl p1
    | tup vs => exact absurd rfl (p2 vs)
    | _ => exact hv
  obtain ⟨cs, h1, h2⟩ := hv1
  obtain ⟨k1, k2⟩ := toDC_rep hs h hside hF h1
  exact ⟨cs, .d k1, by rw [h2]; show _ = wrapV y.isAgg cs; rw [k2]⟩

mutual
theorem toD_names {hp : Nat → Option AObj} : ∀ {x : AV} {s : Prop} {y : D} {fz : List Nat}, toD hp x = some (s, y, fz) → ∀ n, n ∈ fz → n ∈ x.names
  | .d x, s, y, fz, h, n, hn => by
    cases x <;> (simp only [toD, Option.some.injEq, Prod.mk.injEq] at h; obtain ⟨_, _, rfl⟩ := h; cases hn)
  | .sl o p e off len, s, y, fz, h, n, hn => by
    simp only [toD] at h
    split at h <;> cases h
    exact hn
  | .st fs, s, y, fz, h, n, hn => by
    simp only [toD] at h
    split at h <;> cases h
    rename_i hds
    simp only [AV.names]
    exact toDs_names hds n hn
  | .ptr _ _, s, y, fz, h, _, _ => by simp only [toD] at h; cases h
  | .dptr _, s, y, fz, h, _, _ => by simp only [toD] at h; cases h
  | .fn _ _, s, y, fz, h, _, _ => by simp only [toD] at h; cases h
  | .tup _, s, y, fz, h, _, _ => by simp only [toD] at h; cases h
  | .top, s, y, fz, h, _, _ => by simp only [toD] at h; cases h
  | .cst _, s, y, fz, h, _, _ => by simp only [toD] at h; cases h
theorem toDs_names {hp : Nat → Option AObj} : ∀ {xs : List AV} {s : Prop} {ys : List D} {fz : List Nat}, toDs hp xs = some (s, ys, fz) → ∀ n, n ∈ fz → n ∈ AV.namesL xs
  | [], s, ys, fz, h, n, hn => by
    simp only [toDs, Option.some.injEq, Prod.mk.injEq] at h
    obtain ⟨_, _, rfl⟩ := h
    cases hn
  | x :: xs, s, ys, fz, h, n, hn => by
    simp only [toDs] at h
    split at h <;> cases h
    rename_i h1 h2
    simp only [AV.namesL, List.mem_append]
    rcases List.mem_append.1 hn with hn | hn
    · exact .inl (toD_names h1 n hn)
    · exact .inr (toDs_names h2 n hn)
end

theorem cvt_rep {S : St} {ρ : Nat → Option Nat} {X : Nat → Prop} {a : Act} {w : World} (hs : Sim S ρ X a w) {F : List Nat} : ∀ {ms : List Bool} {xs ys : List AV} {s : Prop} {fz : List Nat} {vs : List Value}, cvt S.hp ms xs = some (s, ys, fz) → s →
    (∀ n, n ∈ fz → n ∈ F) → xs.length = vs.length → (∀ (i : Nat) (x : AV) (v : Value), xs[i]? = some x → vs[i]? = some v → RepA ρ X w x v) → RepT ρ (less S.hp ρ X F) w ys vs := by
  have g : Goes ρ ρ X (less S.hp ρ X F) (fun _ => False) w w := ⟨.refl _ _, fun _ _ _ h => h, fun _ _ h => h.1⟩
  intro ms xs
  induction xs generalizing ms with
  | nil =>
    intro ys s fz vs h _ _ hl _
    have : vs = [] := List.eq_nil_of_length_eq_zero hl.symm
    subst this
    have : ys = [] := by cases ms <;> (simp only [cvt, Option.some.injEq, Prod.mk.injEq] at h; exact h.2.1.symm)
    subst this; trivial
  | cons x xs ih =>
    intro ys s fz vs h hside hF hl hr
    cases vs with
    | nil => cases hl
    | cons v vs =>
      have hx := hr 0 x v rfl rfl
      have keep : x.plain = true → RepA1 ρ (less S.hp ρ X F) w x v := fun hp => by
        obtain ⟨cs, c1, c2, _⟩ := repA_cells hp hx
        exact ⟨cs, c1.mono g (fun _ _ => rfl), c2⟩
      cases ms with
      | nil =>
        simp only [cvt] at h
        split at h <;> try (cases h; done)
        rename_i s' ys' fz' hrest
        cases hp : x.plain <;> simp only [hp, cond_true, cond_false] at h <;> cases h
        exact ⟨keep hp, ih hrest hside hF (by simpa using hl) (fun i y u h1 h2 => hr (i + 1) y u (by simpa using h1) (by simpa using h2))⟩
      | cons m ms =>
        simp only [cvt] at h
        split at h <;> try (cases h; done)
        rename_i s' ys' fz' hrest
        cases m with
        | true =>
          simp only [cond_true] at h
          split at h <;> cases h
          rename_i s2 y fz2 htd
          exact ⟨toD_rep hs htd hside.1 (fun n hn => hF n (List.mem_append.2 (.inl hn))) hx, ih hrest hside.2 (fun n hn => hF n (List.mem_append.2 (.inr hn))) (by simpa using hl) (fun i y u h1 h2 => hr (i + 1) y u (by simpa using h1) (by simpa using h2))⟩
        | false =>
          simp only [cond_false] at h
          cases hp : x.plain <;> simp only [hp, cond_true, cond_false] at h <;> cases h
          exact ⟨keep hp, ih hrest hside hF (by simpa using hl) (fun i y u h1 h2 => hr (i + 1) y u (by simpa using h1) (by simpa using h2))⟩

theorem cvt_names {hp : Nat → Option AObj} {n : Nat} : ∀ {xs : List AV} {ms : List Bool} {ys : List AV} {s : Prop} {fz : List Nat}, cvt hp ms xs = some (s, ys, fz) → (n ∈ AV.namesL ys → n ∈ AV.namesL xs) ∧ (n ∈ fz → n ∈ AV.namesL xs)
  | [], ms, ys, s, fz, h => by
    have : ys = [] ∧ fz = [] := by cases ms <;> (simp only [cvt, Option.some.injEq, Prod.mk.injEq] at h; exact ⟨h.2.1.symm, h.2.2.symm⟩)
    obtain ⟨rfl, rfl⟩ := this
    exact ⟨id, fun h => by cases h⟩
  | x :: xs, ms, ys, s, fz, h => by
    simp only [AV.namesL, List.mem_append]
    cases ms with
    | nil =>
      simp only [cvt] at h
      split at h <;> try (cases h; done)
      rename_i hrest
      cases hp : x.plain <;> simp only [hp, cond_true, cond_false] at h <;> cases h
      have ih := cvt_names (n := n) hrest
      refine ⟨fun h => ?_, fun h => .inr (ih.2 h)⟩
      simp only [AV.namesL, List.mem_append] at h
      exact h.imp id ih.1
    | cons m ms =>
      simp only [cvt] at h
      split at h <;> try (cases h; done)
      rename_i hrest
      have ih := cvt_names (n := n) hrest
      cases m with
      | true =>
        simp only [cond_true] at h
        split at h <;> cases h
        rename_i s2 y fz2 htd
        refine ⟨fun h => ?_, fun h => ?_⟩
        · simp only [AV.namesL, AV.names, List.nil_append] at h
          exact .inr (ih.1 h)
        · rcases List.mem_append.1 h with h | h
          · exact .inl (toD_names htd n h)
          · exact .inr (ih.2 h)
      | false =>
        simp only [cond_false] at h
        cases hp : x.plain <;> simp only [hp, cond_true, cond_false] at h <;> cases h
        refine ⟨fun h => ?_, fun h => .inr (ih.2 h)⟩
        simp only [AV.namesL, List.mem_append] at h
        exact h.imp id ih.1

theorem lkp_append {α : Type} : ∀ (l m : List (Nat × α)) (n : Nat), lkp (l ++ m) n = match lkp l n with
    | some x => some x
    | none => lkp m n
  | [], _, _ => rfl
  | (k, v) :: l, m, n => by
    simp only [List.cons_append, lkp]
    cases k.beq n with
    | true => rfl
    | false => exact lkp_append l m n

theorem St.upd_append (S : St) (dst : Option Tmp) (r : AV) (ws ds : List (Nat × AObj)) : (S.write ds).upd dst r ws = S.upd dst r (ws ++ ds) := by
  have : (S.write ds).write ws = S.write (ws ++ ds) := by
    simp only [St.write]
    congr 1
    funext o
    rw [lkp_append]
    cases lkp ws o <;> rfl
  simp only [St.upd, this]


/-- What was let go ahead of a step. -/
theorem Evo.killed {S S2 : St} {ρ ρ' : Nat → Option Nat} {X X' : Nat → Prop} {w w' : World} {fz : List Nat} (h2 : Evo (S.write (deads fz)) S2 ρ ρ' (less S.hp ρ X fz) X' w w') : Evo S S2 ρ ρ' X X' w w' := by
  have hal : ∀ o x, (S.write (deads fz)).hp o = some x → x.alive = true → S.hp o = some x := fun o x h ha => by
    simp only [St.write] at h
    cases hl : lkp (deads fz) o with
    | some y => simp only [hl, Option.some.injEq] at h; subst h; rw [(lkp_deads hl).1] at ha; cases ha
    | none => simpa only [hl] using h
  refine ⟨h2.ext.mono fun b _ hb => ?_, fun b hb => ⟨fun h => ((h2.xs b hb).1 h).1, fun h => ?_⟩, fun o x b k1 k2 k3 => ?_, fun n hn => h2.same n (wr_ne (ws := deads fz) hn)⟩
  · obtain ⟨o, x, k1, k2, k3⟩ := hb; exact ⟨o, x, hal o x k1 k2, k2, k3⟩
  · by_cases hl : less S.hp ρ X fz b
    · rcases (h2.xs b hb).2 hl with h | ⟨o, x, k1, k2, k3⟩
      · exact .inl h
      · exact .inr ⟨o, x, hal o x k1 k2, k2, k3⟩
    · right
      have : ∃ o x, o ∈ fz ∧ S.hp o = some x ∧ x.alive = true ∧ ρ o = some b := Classical.byContradiction fun hn => hl ⟨h, hn⟩
      obtain ⟨o, x, _, k1, k2, k3⟩ := this
      exact ⟨o, x, k1, k2, k3⟩
  · rcases h2.own o x b k1 k2 k3 with h | ⟨o', x', k1, k2, k3⟩
    · exact .inl h
    · exact .inr ⟨o', x', hal o' x' k1 k2, k2, k3⟩

/-! ### A slice written out, of slices of what is owned -/

theorem elsOf_le {hp hp' : Nat → Option AObj} (hle : ∀ n x, hp n = some x → hp' n = some x) {x : AV} {r : Prop × List D} (h : elsOf hp x = some r) : elsOf hp' x = some r := by
  unfold elsOf at h ⊢
  split at h <;> try (cases h; done)
  · exact h
  · exact h
  · rename_i o p e off len
    cases ho : hp o with
    | none => rw [ho] at h; cases h
    | some y => rw [ho] at h; rw [hle _ _ ho]; exact h
  · exact h

mutual
theorem toD_le {hp hp' : Nat → Option AObj} (hle : ∀ n x, hp n = some x → hp' n = some x) : ∀ {x : AV} {r : Prop × D × List Nat}, toD hp x = some r → toD hp' x = some r
  | .d x, r, h => by cases x <;> simpa only [toD] using h
  | .sl o p e off len, r, h => by
    simp only [toD] at h ⊢
    split at h
    · rename_i s xs hx; rw [elsOf_le hle hx]; exact h
    · cases h
  | .st fs, r, h => by
    simp only [toD] at h ⊢
    split at h
    · rename_i s ys fz hx; rw [toDs_le hle hx]; exact h
    · cases h
  | .ptr _ _, r, h => by simp only [toD] at h; cases h
  | .dptr _, r, h => by simp only [toD] at h; cases h
  | .fn _ _, r, h => by simp only [toD] at h; cases h
  | .tup _, r, h => by simp only [toD] at h; cases h
  | .top, r, h => by simp only [toD] at h; cases h
  | .cst _, r, h => by simp only [toD] at h; cases h
theorem toDs_le {hp hp' : Nat → Option AObj} (hle : ∀ n x, hp n = some x → hp' n = some x) : ∀ {xs : List AV} {r : Prop × List D × List Nat}, toDs hp xs = some r → toDs hp' xs = some r
  | [], r, h => by simpa only [toDs] using h
  | x :: xs, r, h => by
    simp only [toDs] at h ⊢
    split at h
    · rename_i s y fz s' ys fz' h1 h2; rw [toD_le hle h1, toDs_le hle h2]; exact h
    · cases h
end

theorem toDs_at {hp : Nat → Option AObj} : ∀ {l : List AV} {s : Prop} {ys : List D} {fz : List Nat}, toDs hp l = some (s, ys, fz) → s → ys.length = l.length ∧ ∀ (j : Nat) (y : D) (x : AV), ys[j]? = some y → l[j]? = some x → ∃ s' fz', toD hp x = some (s', y, fz') ∧ s' ∧ ∀ n, n ∈ fz' → n ∈ fz
  | [], s, ys, fz, h, _ => by
    simp only [toDs, Option.some.injEq, Prod.mk.injEq] at h
    obtain ⟨_, rfl, _⟩ := h
    exact ⟨rfl, fun j y x h => by simp at h⟩
  | x :: xs, s, ys, fz, h, hs => by
    simp only [toDs] at h
    split at h <;> cases h
    rename_i s1 y fz1 s2 ys fz2 h1 h2
    obtain ⟨e, ih⟩ := toDs_at h2 hs.2
    refine ⟨by simp [e], fun j y' x' k1 k2 => ?_⟩
    cases j with
    | zero =>
      simp only [List.getElem?_cons_zero, Option.some.injEq] at k1 k2
      subst k1 k2
      exact ⟨s1, fz1, h1, hs.1, fun n hn => List.mem_append_left _ hn⟩
    | succ j =>
      simp only [List.getElem?_cons_succ] at k1 k2
      obtain ⟨s', fz', g1, g2, g3⟩ := ih j y' x' k1 k2
      exact ⟨s', fz', g1, g2, fun n hn => List.mem_append_right _ (g3 n hn)⟩

def aBuildSliceF (P : Program) (nm : Nat) (T : TypeId) (len : Nat) (hp : Nat → Option AObj) (parts : List (Nat × AV)) : Option Res :=
  match dsOf (parts.map (·.2)) with
  | some _ => aBuildSlice P nm T len parts
  | none => match toDs hp (parts.map (·.2)) with
    | some (s, xs, fz) => match aBuildSlice P nm T len ((parts.map (·.1)).zip (xs.map AV.d)) with
      | some res => some ⟨s, res.r, res.ws ++ deads fz⟩
      | none => none
    | none => none

theorem dsOf_map : ∀ (xs : List D), dsOf (xs.map AV.d) = some xs
  | [] => rfl
  | x :: xs => by simp only [List.map_cons, dsOf, dsOf_map xs]

theorem aBuildSliceF_sound {P : Program} {T : TypeId} {len : Nat} {o : Oper} {parts : Array (Nat × Operand)} {S : St} {res : Res} {nm : Nat} {hp : Nat → Option AObj} (hle : ∀ n x, hp n = some x → S.hp n = some x) (ho : o.op = .buildSlice T len parts)
    (h : aBuildSliceF P nm T len hp (parts.toList.map fun p => (p.1, S.ev p.2)) = some res) (hside : res.side) (hf : S.hp nm = none) : StepsTo P o S (S.upd o.dst res.r res.ws) := by
  unfold aBuildSliceF at h
  split at h
  · exact aBuildSlice_sound ho h hf
  · split at h <;> try (cases h; done)
    rename_i s xs fz hds
    have hds := toDs_le hle hds
    split at h <;> cases h
    rename_i r1 hb
    obtain ⟨hl, hat⟩ := toDs_at hds hside
    have hl : xs.length = parts.toList.length := by simpa using hl
    have hz1 : (((parts.toList.map fun p => (p.1, S.ev p.2)).map (·.1)).zip (xs.map AV.d)).map (·.1) = parts.toList.map (·.1) := by
      rw [List.map_map, List.map_fst_zip (by simp [hl])]
      rfl
    have hz2 : (((parts.toList.map fun p => (p.1, S.ev p.2)).map (·.1)).zip (xs.map AV.d)).map (·.2) = xs.map AV.d := by
      rw [List.map_snd_zip (by simp [hl])]
    have hxs : dsOf ((((parts.toList.map fun p => (p.1, S.ev p.2)).map (·.1)).zip (xs.map AV.d)).map (·.2)) = some xs := by rw [hz2, dsOf_map]
    intro ρ X a w hs
    have hk := hs.kill fz
    have hnone : (S.write (deads fz)).hp nm = none := by
      simp only [St.write]
      cases hlk : lkp (deads fz) nm with
      | none => exact hf
      | some y =>
        have hm := (lkp_deads hlk).2
        have := toDs_names hds nm hm
        obtain ⟨q, hq, hq2⟩ : ∃ q, q ∈ parts.toList ∧ nm ∈ (S.ev q.2).names := by
          have key : ∀ l : List (Nat × Operand), nm ∈ AV.namesL ((l.map fun p => (p.1, S.ev p.2)).map (·.2)) → ∃ q, q ∈ l ∧ nm ∈ (S.ev q.2).names := by
            intro l
            induction l with
            | nil => intro h; cases h
            | cons q l ih =>
              intro h
              simp only [List.map_cons, AV.namesL, List.mem_append] at h
              rcases h with h | h
              · exact ⟨q, by simp, h⟩
              · obtain ⟨q', h1, h2⟩ := ih h; exact ⟨q', by simp [h1], h2⟩
          exact key _ this
        exact absurd hf (hs.evNames q.2 nm hq2)
    obtain ⟨v, w', k1, ρ', X', k2, k3⟩ := buildSlice_core (nm := nm) (S := S.write (deads fz)) ho hb hz1 hxs hnone hk (fun j x q h1 h2 => by
      have h3 : ((parts.toList.map fun p => (p.1, S.ev p.2)).map (·.2))[j]? = some (S.ev q.2) := by
        rw [List.map_map, List.getElem?_map, h2]; rfl
      obtain ⟨s', fz', g1, g2, g3⟩ := hat j x _ h1 h3
      exact toD_rep hs g1 g2 g3 (hs.ev q.2))
    unfold Does
    rw [k1]
    rw [St.upd_append] at k2 k3
    exact ⟨ρ', X', k2, k3.killed⟩

/-! ### The smaller of two numbers -/

def aMin : AV → AV → Option Res
  | .d (.int k x), .d (.int k' y) => if k = k' then some ⟨True, .d (.int k (min x y)), []⟩ else none
  | _, _ => none

theorem aMin_sound {P : Program} {tys : Array TypeId} {o : Oper} {x y : Operand} {S : St} {res : Res} (ho : o.op = .call { callee := .builtin .min, args := #[x, y], argTypes := tys }) (h : aMin (S.ev x) (S.ev y) = some res) : StepsTo P o S (S.upd o.dst res.r res.ws) := by
  unfold aMin at h
  split at h <;> try (cases h; done)
  rename_i k a k' b hx hy
  split at h <;> cases h
  rename_i hk
  subst hk
  refine steps_value fun ρ X e w hs => ⟨.int k (min a b), ?_, ⟨_, .d (.int k (min a b)), rfl⟩, fun m hm => by cases hm⟩
  have h1 := hs.ev x
  have h2 := hs.ev y
  rw [hx] at h1; rw [hy] at h2
  have hm : (if b < a then b else a) = min a b := by
    split <;> omega
  refine run_builtin ho ?_
  simp only [builtin, List.map_toArray, List.map_cons, List.map_nil, repA_int h1, repA_int h2]
  refine run_map ?_
  simp only [Builtin.min_, List.foldlM_cons, List.foldlM_nil, Builtin.min2, hm]
  rfl

/-! ### A slice cut, with a bound -/

def bdOf : Option AV → Option Int
  | some (.d (.int _ i)) => some i
  | _ => none

def aSlice3 (P : Program) (T : TypeId) (x : AV) (lo hi mx : Option AV) : Option Res :=
  match P.underlying T with
  | some (.slice el) => bif (szOf P el).beq 0 then none else match x with
    | .d (.sl xs) => match loOf lo, bdOf hi, bdOf mx with
      | some l, some h, some m => some ⟨(0 ≤ l ∧ l ≤ h ∧ h ≤ m ∧ m ≤ xs.length) ∧ ∀ y, y ∈ xs → y.size = szOf P el, .d (.sl (cutD xs l h)), []⟩
      | _, _, _ => none
    | .sl o p e off len => match loOf lo, bdOf hi, bdOf mx with
      | some l, some h, some m => bif (szOf P el).beq e then some ⟨0 ≤ l ∧ l ≤ h ∧ h ≤ m ∧ m ≤ len, .sl o p e (off + l.toNat) (h.toNat - l.toNat), []⟩ else none
      | _, _, _ => none
    | _ => none
  | _ => none

theorem bdOf_rep {hi : Option Operand} {S : St} {ρ : Nat → Option Nat} {X : Nat → Prop} {a : Act} {w : World} (hs : Sim S ρ X a w) {l : Int} (h : bdOf (hi.map S.ev) = some l) : ∃ k, hi.map a.eval = some (.int k l) := by
  cases hi with
  | none => cases h
  | some x =>
    simp only [Option.map_some] at h ⊢
    generalize hx : S.ev x = y at h
    unfold bdOf at h
    split at h <;> cases h
    rename_i k h'
    have := hs.ev x
    cases h'
    rw [hx] at this
    exact ⟨k, by rw [repA_int this]⟩

theorem run_sliceBounds3 {P : Program} {b : Bool} {len cap : Nat} {lo hi mx : Option Value} {l h m : Int} (w : World) (hl : lo = none ∧ l = 0 ∨ ∃ k, lo = some (.int k l)) (hh : ∃ k, hi = some (.int k h)) (hm : ∃ k, mx = some (.int k m))
    (h0 : 0 ≤ l) (h1 : l ≤ h) (h2 : h ≤ m) (h3 : m ≤ cap) : (Instr.sliceBounds b len cap lo hi mx).run P w = .ok (l.toNat, h.toNat, m.toNat) w := by
  have bd : ∀ (k : IntKind) (i : Int) (y : Nat) (c : BoundsCode), 0 ≤ i → i ≤ y → (Instr.sliceBound (.int k i) y c).run P w = .ok i.toNat w := fun k i y c h0 h1 => by
    simp only [Instr.sliceBound, asIntOf]
    rw [run_bind_ok (run_pure _ w)]
    dsimp only
    rw [if_pos ⟨h0, h1⟩]; rfl
  obtain ⟨k1, rfl⟩ := hh
  obtain ⟨k2, rfl⟩ := hm
  simp only [Instr.sliceBounds]
  rw [run_bind_ok (bd k2 m cap _ (by omega) h3), run_bind_ok (bd k1 h m.toNat _ (by omega) (by omega))]
  rcases hl with ⟨rfl, rfl⟩ | ⟨k', rfl⟩
  · rw [run_bind_ok (run_pure 0 w)]; rfl
  · rw [run_bind_ok (bd k' l h.toNat _ h0 (by omega))]; rfl

theorem aSlice3_sound {P : Program} {T : TypeId} {o : Oper} {x : Operand} {lo hi mx : Option Operand} {S : St} {res : Res} (ho : o.op = .slice T x lo hi mx)
    (h : aSlice3 P T (S.ev x) (lo.map S.ev) (hi.map S.ev) (mx.map S.ev) = some res) (hside : res.side) : StepsTo P o S (S.upd o.dst res.r res.ws) := by
  unfold aSlice3 at h
  split at h <;> try (cases h; done)
  rename_i el hu
  cases hz : (szOf P el).beq 0 <;> simp only [hz, cond_true, cond_false] at h <;> try (cases h; done)
  have hne : szOf P el ≠ 0 := fun e => by rw [e] at hz; cases hz
  have run : ∀ (w : World) (ev : Operand → Value) (base : Option Addr) (len cap : Nat) (l k m : Int), ev x = .slice base len cap → (lo.map ev = none ∧ l = 0 ∨ ∃ k, lo.map ev = some (.int k l)) →
      (∃ j, hi.map ev = some (.int j k)) → (∃ j, mx.map ev = some (.int j m)) → 0 ≤ l → l ≤ k → k ≤ m → m ≤ cap →
      (execOp ev o).run P w = .ok (.value (.slice (if m.toNat = l.toNat then base else base.map (·.add (l.toNat * szOf P el))) (k.toNat - l.toNat) (m.toNat - l.toNat))) w := by
    intro w ev base len cap l k m hx hl hk hm h0 h1 h2 h3
    simp only [execOp, ho]
    refine run_map ?_
    simp only [Instr.sliceAt]
    rw [run_bind_ok (run_underlying hu w)]
    dsimp only
    simp only [Instr.slice, hx]
    rw [run_bind_ok (run_underlying hu w)]
    dsimp only
    rw [run_bind_ok (run_sliceBounds3 w hl hk hm h0 h1 h2 h3)]
    dsimp only
    rw [run_bind_ok (szOf_run hne w)]
    rfl
  split at h <;> try (cases h; done)
  · rename_i xs hx
    split at h <;> try (cases h; done)
    rename_i l k m hl hk hm
    cases h
    obtain ⟨⟨h0, h1, h2, h3⟩, hsz⟩ := hside
    refine steps_value fun ρ X a w hs => ?_
    have he := hs.ev x
    rw [hx] at he
    obtain ⟨cs, g1, g2⟩ := repA_d he
    cases g1 with
    | slnil =>
      simp only [List.length_nil] at h3
      obtain rfl : l = 0 := by omega
      obtain rfl : k = 0 := by omega
      obtain rfl : m = 0 := by omega
      rename_i ad cap
      refine ⟨_, run w a.eval ad 0 cap 0 0 0 g2 (loOf_rep hs hl) (bdOf_rep hs hk) (bdOf_rep hs hm) (by omega) (by omega) (by omega) (by omega), ?_, fun m hm => by cases hm⟩
      exact ⟨_, .d .slnil, rfl⟩
    | sl a1 a2 a3 a4 a5 a6 =>
      rename_i b off cap e cs
      refine ⟨_, run w a.eval (some ⟨b, off, none⟩) xs.length cap l k m g2 (loOf_rep hs hl) (bdOf_rep hs hk) (bdOf_rep hs hm) h0 h1 h2 (by omega), ?_, fun m hm => by cases hm⟩
      obtain ⟨pre, c, post, e1, e2, e3, e4, e5⟩ := a6.cut a3 (l := l.toNat) (k := k.toNat) (by omega) (by omega)
      have hlen : (cutD xs l k).length = k.toNat - l.toNat := e5
      by_cases hemp : cutD xs l k = []
      · rw [hemp] at hlen ⊢
        rw [← hlen]
        show RepA ρ X w (.d (.sl [])) (.slice _ 0 _)
        exact ⟨_, .d .slnil, rfl⟩
      · have hes : e = szOf P el := by
          cases xs with
          | nil => exact absurd (by unfold cutD; simp) hemp
          | cons y ys => rw [← hsz y (by simp)]; exact (a3 y (by simp)).symm
        subst hes
        have hpos : 0 < (cutD xs l k).length := List.length_pos_iff.2 hemp
        rw [← hlen]
        rw [e1] at a5
        have h5 := a5.part
        rw [e2] at h5
        rw [if_neg (by omega)]
        simp only [Option.map_some, addr_add]
        exact ⟨_, .d (.sl a1 a2 e4 (by omega) h5 e3), rfl⟩
  · rename_i n p e off len hx
    split at h <;> try (cases h; done)
    rename_i l k m hl hk hm
    cases hb : (szOf P el).beq e <;> simp only [hb, cond_true, cond_false] at h <;> cases h
    have hes := Nat.eq_of_beq_eq_true hb
    obtain ⟨h0, h1, h2, h3⟩ := hside
    refine steps_value fun ρ X a w hs => ?_
    have he := hs.ev x
    have hnm := hs.evNames x
    rw [hx] at he hnm
    rcases repA_sl he with ⟨g0, rfl, g1⟩ | ⟨b, cap, q, c, T', z, g0, g1, g2, g3, g4, g5⟩
    · obtain rfl : l = 0 := by omega
      obtain rfl : k = 0 := by omega
      obtain rfl : m = 0 := by omega
      refine ⟨_, run w a.eval none 0 0 0 0 0 g1 (loOf_rep hs hl) (bdOf_rep hs hk) (bdOf_rep hs hm) (by omega) (by omega) (by omega) (by omega), ?_, fun m hm => hnm m hm⟩
      exact ⟨_, .slnil g0, rfl⟩
    refine ⟨_, run w a.eval _ len cap l k m g1 (loOf_rep hs hl) (bdOf_rep hs hk) (bdOf_rep hs hm) h0 h1 h2 (by omega), ?_, fun m hm => hnm m hm⟩
    have hb2 : pOff p + (off + l.toNat + (m.toNat - l.toNat)) * e ≤ c.size := by
      have : off + l.toNat + (m.toNat - l.toNat) ≤ off + cap := by omega
      have := Nat.mul_le_mul_right e this
      omega
    split
    · exact ⟨_, .sl g0 g2 hb2 (by omega) (.inl (by omega)), rfl⟩
    · simp only [Option.map_some, addr_add]
      refine ⟨_, .sl g0 g2 hb2 (by omega) ?_, rfl⟩
      rcases g5 with g5 | g5
      · exact .inl (by omega)
      · right; rw [g5, hes, Nat.add_mul]; omega

end Go.Sym

/-
What an operation that calls nothing does to what a frame holds: all of it ('aOp'); what it looks at.
-/
set_option linter.unusedSimpArgs false
set_option linter.unusedVariables false
namespace Go.Sym

def aBinA (P : Program) (op : BinOp) (T : TypeId) (x y : AV) : Option Res :=
  match x, y with
  | .d a, .d b => match aBin P op T a b with
    | some (s, z) => some ⟨s, .d z, []⟩
    | none => aCmp P op T (.d a) (.d b)
  | x, y => aCmp P op T x y

def aBuiltin (P : Program) (nm : Nat) (b : Builtin) (tys : Array TypeId) (hp : Nat → Option AObj) (ins : List AV) : Option Res :=
  match b, ins, tys.toList with
  | .len, [x], [T] => aLen P T x
  | .append, [s, x], [_, _] => aAppend P nm tys hp s x
  | .copy, [d, x], [T, _] => aCopy P T hp d x
  | .min, [x, y], _ => aMin x y
  | _, _, _ => none

def aOp (P : Program) (nm : Nat) (op : Op) (ev : Operand → AV) (hp : Nat → Option AObj) : Option Res :=
  match op with
  | .move x => aMove (ev x)
  | .assign x => aMove (ev x)
  | .pick c a b => aPick (ev c) (ev a) (ev b)
  | .alloc T => aAlloc P nm T
  | .box _ x => aBox nm (ev x)
  | .build T parts => aBuild P T (parts.toList.map fun p => (p.1, ev p.2))
  | .buildSlice T len parts => aBuildSliceF P nm T len hp (parts.toList.map fun p => (p.1, ev p.2))
  | .load T a => aLoad P T hp (ev a)
  | .store T a v => aStore P T hp (ev a) (ev v)
  | .nilCheck x => aNilCheck (ev x)
  | .binOp op T x y _ => aBinA P op T (ev x) (ev y)
  | .unOp op _ x => aUn op (ev x)
  | .convert s d x => aConv P nm s d hp (ev x)
  | .makeFunc fn first caps => aMakeFunc fn first (caps.toList.map ev)
  | .makeInterface T x => aMakeIface P T (ev x)
  | .makeSlice T l c => aMakeSlice P nm T (ev l) (ev c)
  | .slice T x lo hi mx => match mx with
    | none => aSlice P T hp (ev x) (lo.map ev) (hi.map ev)
    | some _ => aSlice3 P T (ev x) (lo.map ev) (hi.map ev) (mx.map ev)
  | .fieldAddr T x f => aFieldAddr P T f (ev x)
  | .field T x f => aField P T f (ev x)
  | .indexAddr T x i => aIndexAddr P T (ev x) (ev i)
  | .index T x i => aIndex P T (ev x) (ev i)
  | .extract x i => aExtract i (ev x)
  | .call c => match c.callee with
    | .builtin b => aBuiltin P nm b c.argTypes hp (c.args.toList.map ev)
    | _ => none
  | _ => none

theorem aOp_sound {P : Program} {nm : Nat} {o : Oper} {S : St} {hp : Nat → Option AObj} {res : Res} (hle : ∀ n x, hp n = some x → S.hp n = some x) (h : aOp P nm o.op S.ev hp = some res) (hside : res.side) (hf : S.hp nm = none) :
    StepsTo P o S (S.upd o.dst res.r res.ws) := by
  cases ho : o.op <;> rw [ho] at h <;> simp only [aOp] at h <;> try (cases h; done)
  case move x => exact aMove_sound (.inl ho) h
  case assign x => exact aMove_sound (.inr ho) h
  case pick c a b => exact aPick_sound ho h
  case alloc T => exact aAlloc_sound ho h hf
  case box T x => exact aBox_sound ho h hf
  case build T parts => exact aBuild_sound ho h hside
  case buildSlice T len parts => exact aBuildSliceF_sound hle ho h hside hf
  case load T a => exact aLoad_sound hle ho h hside
  case store T a v => exact aStore_sound hle ho h hside
  case nilCheck x => exact aNilCheck_sound ho h
  case binOp op T x y T2 =>
    unfold aBinA at h
    split at h
    · rename_i a b hx hy
      split at h
      · rename_i s z hb
        cases h
        refine steps_value fun ρ X e w hs => ?_
        have h1 := hs.ev x
        have h2 := hs.ev y
        rw [hx] at h1; rw [hy] at h2
        obtain ⟨t, ht, hr⟩ := aBin_run (P := P) hb hside (w := w) (repA_d h1) (repA_d h2) x y
        refine ⟨t, ?_, ?_, fun m hm => by cases hm⟩
        · simp only [execOp, ho]
          exact run_map ht
        · obtain ⟨cs, c1, c2⟩ := hr
          rw [c2]; exact repA_mk c1
      · rw [← hx, ← hy] at h
        exact aCmp_sound ho h hside
    · exact aCmp_sound ho h hside
  case unOp op T x => exact aUn_sound ho h
  case convert s d x => exact aConv_sound hle ho h hside hf
  case makeFunc fn first caps => exact aMakeFunc_sound ho h
  case makeInterface T x => exact aMakeIface_sound ho h
  case makeSlice T l c => exact aMakeSlice_sound ho h hside hf
  case slice T x lo hi mx =>
    cases mx with
    | none => exact aSlice_sound hle ho h hside
    | some _ => exact aSlice3_sound ho h hside
  case fieldAddr T x f => exact aFieldAddr_sound ho h hside
  case field T x f => exact aField_sound ho h hside
  case indexAddr T x i => exact aIndexAddr_sound ho h hside
  case index T x i => exact aIndex_sound ho h hside
  case extract x i => exact aExtract_sound ho h
  case call c =>
    obtain ⟨callee, args, tys⟩ := c
    cases callee <;> simp only at h <;> try (cases h; done)
    rename_i b
    unfold aBuiltin at h
    split at h <;> try (cases h; done)
    · rename_i x T hins htys
      have ha : ∃ y, args = #[y] ∧ S.ev y = x := by
        cases args with
        | mk l =>
          simp only at hins
          match l, hins with
          | [y], hins => simp only [List.map_cons, List.map_nil, List.cons.injEq, and_true] at hins; exact ⟨y, rfl, hins⟩
      obtain ⟨y, rfl, rfl⟩ := ha
      refine aLen_sound ho ?_ h
      cases tys with
      | mk l => simp only at htys; subst htys; rfl
    · rename_i s x T T2 hins htys
      have ha : ∃ u v, args = #[u, v] ∧ S.ev u = s ∧ S.ev v = x := by
        cases args with
        | mk l =>
          simp only at hins
          match l, hins with
          | [u, v], hins => simp only [List.map_cons, List.map_nil, List.cons.injEq, and_true] at hins; exact ⟨u, v, rfl, hins⟩
      obtain ⟨u, v, rfl, rfl, rfl⟩ := ha
      refine aAppend_sound hle ho ?_ h hside hf
      cases tys with
      | mk l => simp only at htys; subst htys; rfl
    · rename_i d x T T2 hins htys
      have ha : ∃ u v, args = #[u, v] ∧ S.ev u = d ∧ S.ev v = x := by
        cases args with
        | mk l =>
          simp only at hins
          match l, hins with
          | [u, v], hins => simp only [List.map_cons, List.map_nil, List.cons.injEq, and_true] at hins; exact ⟨u, v, rfl, hins⟩
      obtain ⟨u, v, rfl, rfl, rfl⟩ := ha
      refine aCopy_sound hle ho (T2 := T2) ?_ h hside
      cases tys with
      | mk l => simp only at htys; subst htys; rfl
    · rename_i x y hins
      have ha : ∃ u v, args = #[u, v] ∧ S.ev u = x ∧ S.ev v = y := by
        cases args with
        | mk l =>
          simp only at hins
          match l, hins with
          | [u, v], hins => simp only [List.map_cons, List.map_nil, List.cons.injEq, and_true] at hins; exact ⟨u, v, rfl, hins⟩
      obtain ⟨u, v, rfl, rfl, rfl⟩ := ha
      exact aMin_sound ho h

theorem aOp_congr {P : Program} {nm : Nat} {op : Op} {ev ev' : Operand → AV} {hp : Nat → Option AObj} (h : ∀ x, x ∈ op.operands → ev x = ev' x) : aOp P nm op ev hp = aOp P nm op ev' hp := by
  cases op <;> simp only [aOp] <;> simp only [Op.operands] at h
  case build T parts =>
    congr 1
    exact List.map_congr_left fun p hp => by rw [h p.2 (by simp; exact ⟨p.1, by simpa using hp⟩)]
  case buildSlice T len parts =>
    congr 1
    exact List.map_congr_left fun p hp => by rw [h p.2 (by simp; exact ⟨p.1, by simpa using hp⟩)]
  case makeFunc fn first caps =>
    congr 1
    exact List.map_congr_left fun p hp => h p (by simp; right; simpa using hp)
  case slice T x lo hi mx =>
    cases mx with
    | some m =>
      have e1 : ev x = ev' x := h x (by simp)
      have e2 : ev m = ev' m := h m (by simp)
      have e3 : lo.map ev = lo.map ev' := by
        cases lo with
        | none => rfl
        | some a => simp only [Option.map_some]; rw [h a (by simp)]
      have e4 : hi.map ev = hi.map ev' := by
        cases hi with
        | none => rfl
        | some a => simp only [Option.map_some]; rw [h a (by simp)]
      simp only [Option.map_some, e1, e2, e3, e4]
    | none =>
      rw [h x (by simp)]
      cases lo with
      | none => cases hi with
        | none => rfl
        | some b => simp only [Option.map_some, Option.map_none]; rw [h b (by simp)]
      | some a => cases hi with
        | none => simp only [Option.map_some, Option.map_none]; rw [h a (by simp)]
        | some b => simp only [Option.map_some]; rw [h a (by simp), h b (by simp)]
  case call c =>
    obtain ⟨callee, args, tys⟩ := c
    cases callee <;> simp only
    congr 1
    exact List.map_congr_left fun p hp => h p (by simp [Call.operands]; simpa using hp)
  all_goals first
    | rfl
    | (rw [h _ (by simp)]; done)
    | (rename_i x y; rw [h x (by simp), h y (by simp)]; done)
    | (rename_i a x y; rw [h x (by simp), h y (by simp)]; done)
    | (rename_i a x y b; rw [h x (by simp), h y (by simp)]; done)
    | (rename_i a b x y c; rw [h x (by simp), h y (by simp)]; done)
    | (rename_i a b x; rw [h x (by simp)]; done)
    | (rename_i a x; rw [h x (by simp)]; done)
    | (rename_i c x y; rw [h c (by simp), h x (by simp), h y (by simp)]; done)
    | skip

/-- A heap of which only some names are seen. -/
def rst (hp : Nat → Option AObj) (l : List Nat) : Nat → Option AObj := fun n => bif l.contains n then hp n else none

theorem rst_le {hp : Nat → Option AObj} {l : List Nat} {n : Nat} {x : AObj} (h : rst hp l n = some x) : hp n = some x := by
  unfold rst at h
  cases hb : l.contains n <;> simp only [hb, cond_true, cond_false] at h
  · cases h
  · exact h

theorem rst_congr {hp hp' : Nat → Option AObj} {l : List Nat} (h : ∀ n, n ∈ l → hp n = hp' n) : rst hp l = rst hp' l := by
  funext n
  unfold rst
  cases hb : l.contains n with
  | false => rfl
  | true => simp only [cond_true]; exact h n (by simpa using hb)

/-- Does it look at memory? -/
def readsMem : Op → Bool
  | .load _ _ => true
  | .store _ _ _ => true
  | .convert _ _ _ => true
  | .slice _ _ _ _ _ => true
  | .buildSlice _ _ _ => true
  | .call _ => true
  | _ => false

def opNames (S : St) (op : Op) : List Nat := bif readsMem op then AV.namesL (op.operands.toList.map S.ev) else []

end Go.Sym

/-
Calls by what they are said to do; regions, step by step ('Tr'), in the order of the text and in any order that the edges let.
-/
set_option linter.unusedSimpArgs false
set_option linter.unusedVariables false
namespace Go.Sym

/-! ### Owned memory by itself -/

structure HSim (hp : Nat → Option AObj) (ρ : Nat → Option Nat) (X : Nat → Prop) (w : World) : Prop where
  objs : ∀ o x, hp o = some x → ObjAt ρ X w o x
  inj : ∀ o o' x x' b, hp o = some x → x.alive = true → hp o' = some x' → x'.alive = true → ρ o = some b → ρ o' = some b → o = o'
  own : ∀ o x b, hp o = some x → x.alive = true → ρ o = some b → X b
  closed : ∀ o x, hp o = some x → ∀ o', o' ∈ x.names → hp o' ≠ none

theorem Sim.heap {S : St} {ρ : Nat → Option Nat} {X : Nat → Prop} {a : Act} {w : World} (hs : Sim S ρ X a w) : HSim S.hp ρ X w := ⟨hs.objs, hs.inj, hs.own, hs.closedH⟩

/-- What is asked of owned memory from one world to the next. -/
structure HEvo (hp hp' : Nat → Option AObj) (ρ ρ' : Nat → Option Nat) (X X' : Nat → Prop) (w w' : World) : Prop where
  ext : Ext (fun b => ∃ o x, hp o = some x ∧ x.alive = true ∧ ρ o = some b) w w'
  xs : ∀ b, b < w.heap.size → (X' b → X b) ∧ (X b → X' b ∨ ∃ o x, hp o = some x ∧ x.alive = true ∧ ρ o = some b)
  own : ∀ o x b, hp' o = some x → x.alive = true → ρ' o = some b → w.heap.size ≤ b ∨ ∃ o' x', hp o' = some x' ∧ x'.alive = true ∧ ρ o' = some b
  same : ∀ n, hp n ≠ none → ρ' n = ρ n

/-- A call hands back what reads as 'r', and leaves what is owned as told by 'ws'. -/
def CallOK (P : Program) (f : FuncId) (args : List AV) (hp : Nat → Option AObj) (r : AV) (ws : List (Nat × AObj)) : Prop :=
  ∀ (ρ : Nat → Option Nat) (X : Nat → Prop) (w : World) (vs : List Value), HSim hp ρ X w → RepT ρ X w args vs → (∀ n, n ∈ AV.namesL args → hp n ≠ none) →
    Calls P f vs.toArray w fun e w' => ∃ v, e = .returned v ∧ ∃ ρ' X', HSim (wr hp ws) ρ' X' w' ∧ HEvo hp (wr hp ws) ρ ρ' X X' w w' ∧ RepA ρ' X' w' r v ∧ ∀ n, n ∈ r.names → wr hp ws n ≠ none

/-- A call panics with a value, and leaves what is owned as told by 'ws'. -/
def PanOK (P : Program) (f : FuncId) (args : List AV) (hp : Nat → Option AObj) (pv : Value) (ws : List (Nat × AObj)) : Prop :=
  ∀ (ρ : Nat → Option Nat) (X : Nat → Prop) (w : World) (vs : List Value), HSim hp ρ X w → RepT ρ X w args vs → (∀ n, n ∈ AV.namesL args → hp n ≠ none) →
    Calls P f vs.toArray w fun e w' => e = .panicked [{ v := pv, recovered := false }] ∧ ∃ ρ' X', HSim (wr hp ws) ρ' X' w' ∧ HEvo hp (wr hp ws) ρ ρ' X X' w w'

theorem St.hp_upd' (S : St) (dst : Option Tmp) (r : AV) (ws : List (Nat × AObj)) : (S.upd dst r ws).hp = wr S.hp ws := by
  funext o
  rw [St.hp_upd]; rfl

/-- From what holds behind a call to the frame behind it. -/
theorem Sim.call {S : St} {ρ ρ' : Nat → Option Nat} {X X' : Nat → Prop} {a : Act} {w w' : World} (hs : Sim S ρ X a w) {dst : Option Tmp} {r : AV} {v : Value} {ws : List (Nat × AObj)}
    (hh : HSim (wr S.hp ws) ρ' X' w') (he : HEvo S.hp (wr S.hp ws) ρ ρ' X X' w w') (hr : RepA ρ' X' w' r v) (hrn : ∀ n, n ∈ r.names → wr S.hp ws n ≠ none) :
    Sim (S.upd dst r ws) ρ' X' (a.put dst v) w' ∧ Evo S (S.upd dst r ws) ρ ρ' X X' w w' := by
  have g : Goes ρ ρ' X X' _ w w' := ⟨he.ext, fun b _ hx hy => by obtain ⟨o, x, h1, h2, h3⟩ := hy; exact hx (hs.own o x b h1 h2 h3), fun b hb h => (he.xs b hb).1 h⟩
  have hhp := St.hp_upd' S dst r ws
  refine ⟨⟨?_, ?_, ?_, ?_, ?_, ?_, ?_⟩, ⟨he.ext, he.xs, fun o x b h1 h2 h3 => he.own o x b (by rw [← hhp]; exact h1) h2 h3, he.same⟩⟩
  · simp only [St.upd, St.n_put, St.write]
    rw [← hs.n]
    cases dst <;> simp [Act.put]
  · intro t u ht
    rcases St.sl_put (S.write ws) dst r t with ⟨h1, h2⟩ | ⟨h1, h2⟩
    · subst h2
      have e : (S.upd (some t) r ws).sl t = r := h1
      rw [e]
      simp only [Act.put, Array.getElem?_setIfInBounds, if_true] at ht
      split at ht
      · cases ht; exact hr
      · cases ht
    · have e : (S.upd dst r ws).sl t = S.sl t := h1
      rw [e]
      have ht' : a.tmps[t]? = some u := by
        cases dst with
        | none => exact ht
        | some d =>
          have hne : d ≠ t := fun e => h2 (by rw [e])
          simpa [Act.put, Array.getElem?_setIfInBounds_ne hne] using ht
      exact (hs.slots t u ht').mono g (fun o ho => he.same o (hs.closedS t o ho))
  · intro o x hx; rw [hhp] at hx; exact hh.objs o x hx
  · intro o o' x x' b h1 h2 h3 h4 h5 h6; rw [hhp] at h1 h3; exact hh.inj o o' x x' b h1 h2 h3 h4 h5 h6
  · intro o x b h1 h2 h3; rw [hhp] at h1; exact hh.own o x b h1 h2 h3
  · intro t o ho
    rw [hhp]
    rcases St.sl_put (S.write ws) dst r t with ⟨h1, _⟩ | ⟨h1, _⟩
    · have e : (S.upd dst r ws).sl t = r := h1
      rw [e] at ho; exact hrn o ho
    · have e : (S.upd dst r ws).sl t = S.sl t := h1
      rw [e] at ho; exact wr_ne (hs.closedS t o ho)
  · intro o x h1 o' ho'; rw [hhp] at h1 ⊢; exact hh.closed o x h1 o' ho'

end Go.Sym

/-
One operation of a region, calls too, by what it looks at: a local step; what is asked of the operations one behind the other ('vcOps').
-/
set_option linter.unusedSimpArgs false
set_option linter.unusedVariables false
namespace Go.Sym

structure Foot where
  rd : List Nat
  wr : List Nat
  nw : List Nat

/-- Two frames are one where an operation looks. -/
structure Agree (ops : Array Oper) (o : Oper) (φ : Foot) (S S' : St) : Prop where
  n : S'.n = S.n
  sl : ∀ t, t ∈ o.looksAt ops → S'.sl t = S.sl t
  rd : ∀ n, n ∈ φ.rd → S'.hp n = S.hp n
  wr : ∀ n, n ∈ φ.wr → S'.hp n = S.hp n
  nw : ∀ n, n ∈ φ.nw → S'.hp n = none

def OpStep (P : Program) (ops : Array Oper) (o : Oper) (S : St) (r : AV) (ws : List (Nat × AObj)) : Prop :=
  ∀ (ρ : Nat → Option Nat) (X : Nat → Prop) (a : Act) (w : World), Sim S ρ X a w →
    (Region.wanted o (yielded ops a.tmps) = true → Does P o a w (fun v w' => ∃ ρ' X', Sim (S.upd o.dst r ws) ρ' X' (a.put o.dst v) w' ∧ Evo S (S.upd o.dst r ws) ρ ρ' X X' w w') (fun _ _ => False)) ∧
    (Region.wanted o (yielded ops a.tmps) = false → r = .tup [] ∧ ws = [])

def OpPan (P : Program) (ops : Array Oper) (o : Oper) (S : St) (pv : Value) (ws : List (Nat × AObj)) : Prop :=
  ∀ (ρ : Nat → Option Nat) (X : Nat → Prop) (a : Act) (w : World), Sim S ρ X a w →
    Region.wanted o (yielded ops a.tmps) = true ∧
    Does P o a w (fun _ _ => False) (fun v w' => v = pv ∧ ∃ ρ' X', Sim (S.upd none .top ws) ρ' X' a w' ∧ Evo S (S.upd none .top ws) ρ ρ' X X' w w')

def LStep (P : Program) (ops : Array Oper) (i : Nat) (S : St) (φ : Foot) (r : AV) (ws : List (Nat × AObj)) : Prop :=
  ∃ o, ops[i]? = some o ∧ (∀ c, o.op ≠ .defer c) ∧ (∀ n, lkp ws n ≠ none → n ∈ φ.wr ∨ n ∈ φ.nw) ∧ (∀ n, n ∈ φ.nw → S.hp n = none) ∧ ∀ S', Agree ops o φ S S' → OpStep P ops o S' r ws

def LPan (P : Program) (ops : Array Oper) (i : Nat) (S : St) (φ : Foot) (pv : Value) (ws : List (Nat × AObj)) : Prop :=
  ∃ o, ops[i]? = some o ∧ (∀ c, o.op ≠ .defer c) ∧ (∀ n, n ∈ φ.nw → S.hp n = none) ∧ ∀ S', Agree ops o φ S S' → OpPan P ops o S' pv ws

/-! ### Calls -/

def calleeOf (S : St) : Op → Option (FuncId × List AV)
  | .call c => match c.callee with
    | .value x => match S.ev x with
      | .fn (.func f) caps => bif caps.all AV.single then some (f, c.args.toList.map S.ev ++ caps) else none
      | _ => none
    | _ => none
  | _ => none

def callable (P : Program) (f : FuncId) : Bool := match P.funcs[f]? with
  | some fn => fn.body.isSome && fn.name != "runtime.NumGoroutine"
  | none => false

theorem callable_run {P : Program} {f : FuncId} (h : callable P f = true) (args : Array Value) (w : World) : (callFunc f args).run P w = .ok (.enter f args) w := by
  unfold callable at h
  split at h <;> try (cases h; done)
  rename_i fn hf
  simp only [Bool.and_eq_true, bne_iff_ne, ne_eq] at h
  simp only [callFunc, program]
  rw [Sem.run_bind]
  simp only [Sem.run, Result.andThen, hf]
  have h1 : (fn.name == "runtime.NumGoroutine") = false := by simpa using h.2
  have h2 : fn.body.isNone = false := by cases hb : fn.body <;> simp [hb] at h ⊢
  simp [h1, h2]

def LocalCall (P : Program) (f : FuncId) (args : List AV) (pre : List (Nat × AObj)) (nw : List Nat) (r : AV) (ws : List (Nat × AObj)) : Prop :=
  ∀ hp : Nat → Option AObj, (∀ p, p ∈ pre → hp p.1 = some p.2) → (∀ n, n ∈ nw → hp n = none) → CallOK P f args hp r ws

def LocalPan (P : Program) (f : FuncId) (args : List AV) (pre : List (Nat × AObj)) (nw : List Nat) (pv : Value) (ws : List (Nat × AObj)) : Prop :=
  ∀ hp : Nat → Option AObj, (∀ p, p ∈ pre → hp p.1 = some p.2) → (∀ n, n ∈ nw → hp n = none) → PanOK P f args hp pv ws

def preOK (hp : Nat → Option AObj) : List (Nat × AObj) → Prop
  | [] => True
  | p :: l => hp p.1 = some p.2 ∧ preOK hp l

theorem preOK_spec {hp : Nat → Option AObj} : ∀ {l : List (Nat × AObj)}, preOK hp l → ∀ p, p ∈ l → hp p.1 = some p.2
  | [], _, p, h => by cases h
  | q :: l, ⟨h1, h2⟩, p, h => by
    rcases List.mem_cons.1 h with rfl | h
    · exact h1
    · exact preOK_spec h2 p h

/-- The names are as they must be. -/
def okNames (hp : Nat → Option AObj) (pre : List (Nat × AObj)) (fz nw : List Nat) (ws : List (Nat × AObj)) : Bool :=
  ws.all (fun p => (pre.map (·.1)).contains p.1 || nw.contains p.1) && pre.all (fun p => !fz.contains p.1) && nw.all (fun n => (hp n).isNone)

theorem elsOf_congr {hp hp' : Nat → Option AObj} {x : AV} (h : ∀ n, n ∈ x.names → hp' n = hp n) : elsOf hp' x = elsOf hp x := by
  cases x with
  | sl o p e off len => simp only [elsOf, h o (by simp [AV.names])]
  | d y => cases y <;> rfl
  | cst v => cases v <;> first | rfl | (rename_i a n c; cases n <;> rfl)
  | _ => rfl

mutual
theorem toD_congr {hp hp' : Nat → Option AObj} : ∀ {x : AV}, (∀ n, n ∈ x.names → hp' n = hp n) → toD hp' x = toD hp x
  | .sl o p e off len, h => by simp only [toD, elsOf_congr h]
  | .d y, _ => by cases y <;> simp only [toD]
  | .st fs, h => by simp only [toD]; rw [toDs_congr (xs := fs) (by simpa only [AV.names] using h)]
  | .ptr _ _, _ => by simp only [toD]
  | .dptr _, _ => by simp only [toD]
  | .fn _ _, _ => by simp only [toD]
  | .tup _, _ => by simp only [toD]
  | .top, _ => by simp only [toD]
  | .cst _, _ => by simp only [toD]
theorem toDs_congr {hp hp' : Nat → Option AObj} : ∀ {xs : List AV}, (∀ n, n ∈ AV.namesL xs → hp' n = hp n) → toDs hp' xs = toDs hp xs
  | [], _ => by simp only [toDs]
  | x :: xs, h => by
    simp only [toDs]
    rw [toD_congr (x := x) fun n hn => h n (by simp [AV.namesL, hn]), toDs_congr (xs := xs) fun n hn => h n (by simp [AV.namesL, hn])]
end

theorem cvt_congr {hp hp' : Nat → Option AObj} : ∀ {xs : List AV} {ms : List Bool}, (∀ n, n ∈ AV.namesL xs → hp' n = hp n) → cvt hp' ms xs = cvt hp ms xs
  | [], ms, _ => by cases ms <;> rfl
  | x :: xs, [], h => by simp only [cvt, cvt_congr (xs := xs) (ms := []) fun n hn => h n (by simp [AV.namesL, hn])]
  | x :: xs, m :: ms, h => by
    simp only [cvt, cvt_congr (xs := xs) (ms := ms) fun n hn => h n (by simp [AV.namesL, hn])]
    rw [toD_congr (x := x) fun n hn => h n (by simp [AV.namesL, hn])]

theorem St.ev_put_ne {S : St} {S' : St} (hn : S'.n = S.n) {x : Operand} (h : ∀ t, x = .tmp t → S'.sl t = S.sl t) : S'.ev x = S.ev x := by
  cases x with
  | tmp t => simp only [St.ev, hn, h t rfl]
  | _ => rfl

theorem Agree.ev {ops : Array Oper} {o : Oper} {φ : Foot} {S S' : St} (h : Agree ops o φ S S') : ∀ x, x ∈ o.op.operands → S'.ev x = S.ev x := by
  intro x hx
  refine St.ev_put_ne h.n fun t ht => h.sl t ?_
  subst ht
  unfold Oper.looksAt
  refine List.mem_append_left _ (List.mem_filterMap.2 ⟨.tmp t, by simpa using hx, rfl⟩)

/-- A frame with what was let go, and a call behind it. -/
theorem Sim.killCall {S : St} {ρ ρ' : Nat → Option Nat} {X X' : Nat → Prop} {a : Act} {w w' : World} (hs : Sim S ρ X a w) {fz : List Nat} {dst : Option Tmp} {r : AV} {v : Value} {ws : List (Nat × AObj)}
    (hh : HSim (wr (wr S.hp (deads fz)) ws) ρ' X' w') (he : HEvo (wr S.hp (deads fz)) (wr (wr S.hp (deads fz)) ws) ρ ρ' (less S.hp ρ X fz) X' w w') (hr : RepA ρ' X' w' r v) (hrn : ∀ n, n ∈ r.names → wr (wr S.hp (deads fz)) ws n ≠ none) :
    Sim (S.upd dst r (ws ++ deads fz)) ρ' X' (a.put dst v) w' ∧ Evo S (S.upd dst r (ws ++ deads fz)) ρ ρ' X X' w w' := by
  have hk := hs.kill fz
  have hal : ∀ o x, wr S.hp (deads fz) o = some x → x.alive = true → S.hp o = some x := fun o x h ha => by
    unfold wr at h
    cases hl : lkp (deads fz) o with
    | some y => simp only [hl, Option.some.injEq] at h; subst h; rw [(lkp_deads hl).1] at ha; cases ha
    | none => simpa only [hl] using h
  obtain ⟨h1, h2⟩ := hk.call (dst := dst) (r := r) (v := v) (ws := ws) hh he hr hrn
  rw [St.upd_append] at h1 h2
  refine ⟨h1, ⟨h2.ext.mono fun b _ hb => ?_, fun b hb => ⟨fun h => ((h2.xs b hb).1 h).1, fun h => ?_⟩, fun o x b k1 k2 k3 => ?_, fun n hn => h2.same n (wr_ne (ws := deads fz) hn)⟩⟩
  · obtain ⟨o, x, k1, k2, k3⟩ := hb; exact ⟨o, x, hal o x k1 k2, k2, k3⟩
  · by_cases hl : less S.hp ρ X fz b
    · rcases (h2.xs b hb).2 hl with h | ⟨o, x, k1, k2, k3⟩
      · exact .inl h
      · exact .inr ⟨o, x, hal o x k1 k2, k2, k3⟩
    · right
      have : ∃ o x, o ∈ fz ∧ S.hp o = some x ∧ x.alive = true ∧ ρ o = some b := Classical.byContradiction fun hn => hl ⟨h, hn⟩
      obtain ⟨o, x, _, k1, k2, k3⟩ := this
      exact ⟨o, x, k1, k2, k3⟩
  · rcases h2.own o x b k1 k2 k3 with h | ⟨o', x', k1, k2, k3⟩
    · exact .inl h
    · exact .inr ⟨o', x', hal o' x' k1 k2, k2, k3⟩

theorem RepCs.singles {ρ : Nat → Option Nat} {X : Nat → Prop} {w : World} : ∀ {caps : List AV} {vs : List Value}, RepCs ρ X w caps vs → caps.all AV.single = true →
    caps.length = vs.length ∧ ∀ (i : Nat) (y : AV) (v : Value), caps[i]? = some y → vs[i]? = some v → RepA ρ X w y v
  | _, _, .nil, _ => ⟨rfl, fun i y v h => by simp at h⟩
  | _, _, .cons (x := x) (c := c) h hs, ha => by
    simp only [List.all_cons, Bool.and_eq_true] at ha
    obtain ⟨h1, h2⟩ := RepCs.singles hs ha.2
    have hag : x.isAgg = false := by cases x <;> first | rfl | cases ha.1
    obtain ⟨u, rfl⟩ := List.length_eq_one_iff.1 (notAgg_size h hag)
    refine ⟨by simp [h1], fun i y v hy hv => ?_⟩
    cases i with
    | zero =>
      simp only [List.getElem?_cons_zero, Option.some.injEq] at hy
      simp at hv
      subst hy; subst hv
      have := repA_of_c h
      rw [hag] at this
      exact this
    | succ i =>
      simp only [List.getElem?_cons_succ] at hy
      simp at hv
      exact h2 i y v hy hv

theorem evals_rep {S : St} {ρ : Nat → Option Nat} {X : Nat → Prop} {a : Act} {w : World} (hs : Sim S ρ X a w) {c : Call} {x : Operand} {f : FuncId} {caps : List AV} (hx : S.ev x = .fn (.func f) caps) (hsg : caps.all AV.single = true) :
    ∃ cvs : List Value, a.eval x = .func (.func f) #[] cvs.toArray ∧ (c.args.toList.map S.ev ++ caps).length = (c.args.toList.map a.eval ++ cvs).length ∧
      (∀ (i : Nat) (y : AV) (v : Value), (c.args.toList.map S.ev ++ caps)[i]? = some y → (c.args.toList.map a.eval ++ cvs)[i]? = some v → RepA ρ X w y v) ∧
      ∀ n, n ∈ AV.namesL (c.args.toList.map S.ev ++ caps) → S.hp n ≠ none := by
  have he := hs.ev x
  have hn := hs.evNames x
  rw [hx] at he hn
  obtain ⟨cs, h1, h2⟩ := he
  have nmApp : ∀ {n : Nat} {l m : List AV}, n ∈ AV.namesL (l ++ m) → n ∈ AV.namesL l ∨ n ∈ AV.namesL m := by
    intro n l m
    induction l with
    | nil => intro h; exact .inr h
    | cons y l ih =>
      intro h
      simp only [List.cons_append, AV.namesL, List.mem_append] at h ⊢
      rcases h with h | h
      · exact .inl (.inl h)
      · rcases ih h with h | h
        · exact .inl (.inr h)
        · exact .inr h
  have nmMap : ∀ {n : Nat} {l : List Operand}, n ∈ AV.namesL (l.map S.ev) → S.hp n ≠ none := by
    intro n l
    induction l with
    | nil => intro h; cases h
    | cons y l ih =>
      intro h
      simp only [List.map_cons, AV.namesL, List.mem_append] at h
      rcases h with h | h
      · exact hs.evNames y n h
      · exact ih h
  cases h1 with
  | fn hcs =>
    rename_i vs
    obtain ⟨k1, k2⟩ := hcs.singles hsg
    refine ⟨vs, h2, by simp [k1], fun i y v hy hv => ?_, fun n h => ?_⟩
    · by_cases hi : i < c.args.toList.length
      · rw [List.getElem?_append_left (by simpa using hi)] at hy hv
        rw [List.getElem?_map] at hy hv
        cases hp : c.args.toList[i]? with
        | none => rw [hp] at hy; cases hy
        | some p =>
          rw [hp] at hy hv
          simp only [Option.map_some, Option.some.injEq] at hy hv
          subst hy; subst hv
          exact hs.ev p
      · rw [List.getElem?_append_right (by simp at hi ⊢; omega)] at hy hv
        simp only [List.length_map] at hy hv
        exact k2 _ y v hy hv
    · rcases nmApp h with h | h
      · exact nmMap h
      · exact hn n h

theorem does_call {P : Program} {o : Oper} {S : St} {c : Call} {x : Operand} {a : Act} {w : World} {ρ : Nat → Option Nat} {X : Nat → Prop} (hs : Sim S ρ X a w) (ho : o.op = .call c) (hc : c.callee = .value x) {f : FuncId} {caps : List AV}
    (hx : S.ev x = .fn (.func f) caps) (hsg : caps.all AV.single = true) (hf : callable P f = true) {ms : List Bool} {args' : List AV} {fz : List Nat} {s : Prop} (hcv : cvt S.hp ms (c.args.toList.map S.ev ++ caps) = some (s, args', fz)) (hside : s)
    {R Rp : Value → World → Prop}
    (h : ∀ vs, RepT ρ (less S.hp ρ X fz) w args' vs → (∀ n, n ∈ AV.namesL args' → wr S.hp (deads fz) n ≠ none) → Calls P f vs.toArray w fun e w' => match e with
      | .returned v => R v w'
      | .panicked ch => ∃ pv, ch = [{ v := pv, recovered := false }] ∧ Rp pv w'
      | .outgrown => False) : Does P o a w R Rp := by
  obtain ⟨cvs, e1, e2, e3, e4⟩ := evals_rep hs (c := c) hx hsg
  have hr := cvt_rep hs hcv hside (F := fz) (fun _ h => h) e2 e3
  have hn : ∀ n, n ∈ AV.namesL args' → wr S.hp (deads fz) n ≠ none := fun n hn => wr_ne (e4 n ((cvt_names hcv).1 hn))
  have key := h _ hr hn
  have hrun : (execOp a.eval o).run P w = .ok (.enter f (c.args.toList.map a.eval ++ cvs).toArray) w := by
    simp only [execOp, ho, resolve, hc, e1, Deferred.ofValue]
    rw [run_bind_ok (run_pure _ w)]
    simp only [invoke]
    have : (#[] ++ c.args.map a.eval) ++ cvs.toArray = (c.args.toList.map a.eval ++ cvs).toArray := by
      apply Array.ext'; simp
    rw [this]
    exact callable_run hf _ w
  unfold Does
  rw [hrun]
  exact key

/-! ### Values forced, head first (so that what is computed stays small) -/

def fN (n : Nat) (K : Nat → Prop) : Prop := match n with
  | 0 => K 0
  | n + 1 => K (n + 1)
theorem fN_eq (n : Nat) (K : Nat → Prop) : fN n K = K n := by cases n <;> rfl

def fNs : List Nat → (List Nat → Prop) → Prop
  | [], K => K []
  | n :: l, K => fN n fun m => fNs l fun l' => K (m :: l')
theorem fNs_eq : ∀ (l : List Nat) (K : List Nat → Prop), fNs l K = K l
  | [], _ => rfl
  | n :: l, K => by simp only [fNs, fN_eq, fNs_eq l]

def fK (k : IntKind) (K : IntKind → Prop) : Prop := match k with
  | .i8 => K .i8
  | .i16 => K .i16
  | .i32 => K .i32
  | .i64 => K .i64
  | .u8 => K .u8
  | .u16 => K .u16
  | .u32 => K .u32
  | .u64 => K .u64
theorem fK_eq (k : IntKind) (K : IntKind → Prop) : fK k K = K k := by cases k <;> rfl

mutual
def fD : D → (D → Prop) → Prop
  | .int k n, K => fK k fun k' => K (.int k' n)
  | .bool b, K => K (.bool b)
  | .str s, K => K (.str s)
  | .st fs, K => fDs fs fun fs' => K (.st fs')
  | .arr n e xs, K => fN n fun n' => fN e fun e' => K (.arr n' e' xs)
  | .sl xs, K => K (.sl xs)
  | .nils, K => K .nils
  | .nilp, K => K .nilp
  | .nilf, K => K .nilf
  | .nili, K => K .nili
def fDs : List D → (List D → Prop) → Prop
  | [], K => K []
  | x :: xs, K => fD x fun y => fDs xs fun ys => K (y :: ys)
end

mutual
theorem fD_eq : ∀ (x : D) (K : D → Prop), fD x K = K x
  | .int k n, K => by simp only [fD, fK_eq]
  | .bool _, _ | .str _, _ | .sl _, _ | .nils, _ | .nilp, _ | .nilf, _ | .nili, _ => by simp only [fD]
  | .st fs, K => by simp only [fD]; rw [fDs_eq fs]
  | .arr n e xs, K => by simp only [fD, fN_eq]
theorem fDs_eq : ∀ (xs : List D) (K : List D → Prop), fDs xs K = K xs
  | [], _ => by simp only [fDs]
  | x :: xs, K => by
    simp only [fDs]
    rw [fD_eq x, fDs_eq xs]
end

def fPath : List Stp → (List Stp → Prop) → Prop
  | [], K => K []
  | .fld i o :: p, K => fN i fun i' => fN o fun o' => fPath p fun q => K (.fld i' o' :: q)
  | .ix i e :: p, K => fN e fun e' => fPath p fun q => K (.ix i e' :: q)
theorem fPath_eq : ∀ (p : List Stp) (K : List Stp → Prop), fPath p K = K p
  | [], _ => rfl
  | .fld i o :: p, K => by simp only [fPath, fN_eq, fPath_eq p]
  | .ix i e :: p, K => by simp only [fPath, fN_eq, fPath_eq p]

def fFn (f : Fn) (K : Fn → Prop) : Prop := match f with
  | .func n => fN n fun n => K (.func n)
  | f => K f
theorem fFn_eq (f : Fn) (K : Fn → Prop) : fFn f K = K f := by cases f <;> simp only [fFn, fN_eq]

mutual
def fAV : AV → (AV → Prop) → Prop
  | .d x, K => fD x fun y => K (.d y)
  | .ptr o p, K => fN o fun o' => fPath p fun q => K (.ptr o' q)
  | .sl o p e off len, K => fN o fun o' => fPath p fun q => fN e fun e' => K (.sl o' q e' off len)
  | .st fs, K => fAVs fs fun fs' => K (.st fs')
  | .dptr x, K => fD x fun y => K (.dptr y)
  | .fn f cs, K => fFn f fun f' => fAVs cs fun cs' => K (.fn f' cs')
  | .tup vs, K => fAVs vs fun vs' => K (.tup vs')
  | .top, K => K .top
  | .cst v, K => K (.cst v)
def fAVs : List AV → (List AV → Prop) → Prop
  | [], K => K []
  | x :: xs, K => fAV x fun y => fAVs xs fun ys => K (y :: ys)
end

mutual
theorem fAV_eq : ∀ (x : AV) (K : AV → Prop), fAV x K = K x
  | .d x, K => by simp only [fAV, fD_eq]
  | .ptr o p, K => by simp only [fAV, fN_eq, fPath_eq]
  | .sl o p e off len, K => by simp only [fAV, fN_eq, fPath_eq]
  | .st fs, K => by simp only [fAV]; rw [fAVs_eq fs]
  | .dptr x, K => by simp only [fAV, fD_eq]
  | .fn f cs, K => by simp only [fAV, fFn_eq]; rw [fAVs_eq cs]
  | .tup vs, K => by simp only [fAV]; rw [fAVs_eq vs]
  | .top, K => by simp only [fAV]
  | .cst v, K => by simp only [fAV]
theorem fAVs_eq : ∀ (xs : List AV) (K : List AV → Prop), fAVs xs K = K xs
  | [], _ => by simp only [fAVs]
  | x :: xs, K => by
    simp only [fAVs]
    rw [fAV_eq x, fAVs_eq xs]
end

def fObj : AObj → (AObj → Prop) → Prop
  | .var x, K => fAV x fun y => K (.var y)
  | .row e xs, K => fN e fun e' => K (.row e' xs)
  | .dead, K => K .dead
theorem fObj_eq : ∀ (x : AObj) (K : AObj → Prop), fObj x K = K x
  | .var x, K => by simp only [fObj, fAV_eq]
  | .row e xs, K => by simp only [fObj, fN_eq]
  | .dead, K => rfl

def fWs : List (Nat × AObj) → (List (Nat × AObj) → Prop) → Prop
  | [], K => K []
  | p :: l, K => fN p.1 fun n => fObj p.2 fun x => fWs l fun l' => K ((n, x) :: l')
theorem fWs_eq : ∀ (l : List (Nat × AObj)) (K : List (Nat × AObj) → Prop), fWs l K = K l
  | [], _ => rfl
  | p :: l, K => by simp only [fWs, fN_eq, fObj_eq, fWs_eq l]

def fFoot (φ : Foot) (K : Foot → Prop) : Prop := fNs φ.rd fun a => fNs φ.wr fun b => fNs φ.nw fun c => K ⟨a, b, c⟩
theorem fFoot_eq (φ : Foot) (K : Foot → Prop) : fFoot φ K = K φ := by simp only [fFoot, fNs_eq]

/-- What is left to be shown by hand; by a computation. -/
structure Side (p : Prop) : Prop where
  h : p
theorem Side_eq (p : Prop) : Side p = p := propext ⟨fun h => h.h, fun h => ⟨h⟩⟩
structure Chk (b : Bool) : Prop where
  h : b = true
theorem Chk_eq (b : Bool) : Chk b = (b = true) := propext ⟨fun h => h.h, fun h => ⟨h⟩⟩
/-- What is looked at later (a wall for whoever computes). -/
structure Later (p : Prop) : Prop where
  h : p
theorem Later_eq (p : Prop) : Later p = p := propext ⟨fun h => h.h, fun h => ⟨h⟩⟩

end Go.Sym

/-
Regions: what is asked of the operations one behind the other ('vcOps') serves the order of the text, and whatever order the edges let.
-/
set_option linter.unusedSimpArgs false
set_option linter.unusedVariables false
namespace Go.Sym

abbrev Foots := List (Nat × Foot)

structure bcase (b : Bool) (f : Bool → Prop) : Prop where
  t : b = true → f true
  f : b = false → f false
theorem bcase_eq (b : Bool) (f : Bool → Prop) : bcase b f = ((b = true → f true) ∧ (b = false → f false)) := propext ⟨fun h => ⟨h.t, h.f⟩, fun h => ⟨h.1, h.2⟩⟩

def nmOf (rid i : Nat) : Nat := (rid + 1) * 1000 + i * 4

def gdTmp (ops : List Oper) (j : Nat) : Option Tmp := (ops[j]?).bind (·.dst)

/-- Who must come before whom: a number's bits. -/
def befs : List Oper → List Nat → List Nat
  | [], acc => acc
  | o :: os, acc => befs os (acc ++ [o.after.toList.foldl (fun s e => bif Region.binds .any e then s ||| 2 ^ e.on ||| acc.getD e.on 0 else s) 0])

def befT (B : List Nat) (j i : Nat) : Bool := (B.getD j 0).testBit i
def bef (ops : List Oper) (j i : Nat) : Bool := befT (befs ops []) j i

def descMask (ops : List Oper) (i : Nat) : Nat := (List.range ops.length).foldl (fun s j => bif bef ops j i then s ||| 2 ^ j else s) 0

def disj (a b : List Nat) : Bool := a.all fun n => !b.contains n

def indep (ops : List Oper) (a b : Nat × Foot) : Bool :=
  (match ops[a.1]?, ops[b.1]? with
  | some x, some y => x.apart ops.toArray y
  | _, _ => false) && disj a.2.wr b.2.rd && disj a.2.wr b.2.wr && disj b.2.wr a.2.rd && disj a.2.nw b.2.nw && disj a.2.nw b.2.rd && disj a.2.nw b.2.wr && disj b.2.nw a.2.rd && disj b.2.nw a.2.wr

/-- Of each two operations one waits for the other one, or they do not touch one thing. The list: the latest first. -/
def okPairsT (B : List Nat) (ops : List Oper) : Foots → Bool
  | [] => true
  | b :: l => l.all (fun a => befT B b.1 a.1 || indep ops a b) && okPairsT B ops l
def okPairs (ops : List Oper) (l : Foots) : Bool := okPairsT (befs ops []) ops l

/-- A panic of the text's own, with a value that is told. -/
def panOf (S : St) : Op → Option Value
  | .panic x => match S.ev x with
    | .cst (.iface t v) => some (.iface t v)
    | _ => none
  | _ => none

section
variable (P : Program) (ops : List Oper) (rid : Nat) (chk : Foots → Prop)

structure vcCall (f : FuncId) (args : List AV) (S : St) (K : AV → List (Nat × AObj) → Foot → Prop) (Kp : Value → List (Nat × AObj) → Foot → Prop) : Prop where
  h : (∃ (ms : List Bool) (args' : List AV) (fz : List Nat) (s : Prop) (pre : List (Nat × AObj)) (nw : List Nat) (r : AV) (ws : List (Nat × AObj)),
    cvt S.hp ms args = some (s, args', fz) ∧ s ∧ preOK S.hp pre ∧ okNames S.hp pre fz nw ws = true ∧ callable P f = true ∧ LocalCall P f args' pre nw r ws ∧
      K r (ws ++ deads fz) ⟨AV.namesL args ++ pre.map (·.1), fz ++ (ws.map (·.1)).filter (fun n => !nw.contains n), nw⟩) ∨
  (∃ (ms : List Bool) (args' : List AV) (fz : List Nat) (s : Prop) (pre : List (Nat × AObj)) (nw : List Nat) (pv : Value) (ws : List (Nat × AObj)),
    cvt S.hp ms args = some (s, args', fz) ∧ s ∧ preOK S.hp pre ∧ okNames S.hp pre fz nw ws = true ∧ callable P f = true ∧ LocalPan P f args' pre nw pv ws ∧
      Kp pv (ws ++ deads fz) ⟨AV.namesL args ++ pre.map (·.1), fz ++ (ws.map (·.1)).filter (fun n => !nw.contains n), nw⟩)

def vcOp (i : Nat) (o : Oper) (S : St) (K : AV → List (Nat × AObj) → Foot → Prop) (Kp : Value → List (Nat × AObj) → Foot → Prop) : Prop :=
  match calleeOf S o.op with
  | some (f, args) => fN f fun f => fAVs args fun args => vcCall P f args S K Kp
  | none => match panOf S o.op with
  | some pv => Kp pv [] ⟨[], [], []⟩
  | none => match aOp P (nmOf rid i) o.op S.ev (rst S.hp (opNames S o.op)) with
    | some res => bif (S.hp (nmOf rid i)).isNone then Side res.side ∧ fAV res.r fun r => fWs res.ws fun ws => fFoot ⟨nmOf rid i :: opNames S o.op, (ws.map (·.1)).filter (fun n => !n.beq (nmOf rid i)), (ws.map (·.1)).filter (fun n => n.beq (nmOf rid i))⟩ fun φ => K r ws φ else False
    | none => False

def isDefer : Op → Bool
  | .defer _ => true
  | _ => false

def wrt (ops : List Oper) (t : Nat) : Bool := ops.any fun o => match o.dst with
  | some d => d.beq t
  | none => false

theorem wrt_of {ops : List Oper} {i : Nat} {o : Oper} (h : ops[i]? = some o) : ∀ t, o.dst = some t → wrt ops t = true := fun t ht => by
  refine List.any_eq_true.2 ⟨o, List.mem_of_getElem? h, ?_⟩
  rw [ht]; simp

/-- A frame of which the slots that a region writes are not told. -/
def St.blank (ops : List Oper) (S : St) : St := { S with sl := fun t => bif wrt ops t then .top else S.sl t }

/-- Does it leave what is owned alone? -/
def quietF (φ : Foot) : Bool := φ.wr.isEmpty && φ.nw.isEmpty

/-- Does an operation behind one that panics leave what is owned alone? -/
def quiet (q : Bool) (ws : List (Nat × AObj)) (φ : Foot) : Bool := !q || (ws.isEmpty && quietF φ)

/-- Does it make new things alone (an operation of which nobody knows whether it comes ahead of a panic)? -/
def freshF (q : Bool) (S : St) (ws : List (Nat × AObj)) (φ : Foot) : Bool := q && !ws.isEmpty && φ.wr.isEmpty && φ.nw.all fun n => φ.rd.contains n && (S.hp n).isNone

/-- One operation; 'V': what is asked of the later ones ('q': one has panicked). -/
def stepOp (V : Bool → Nat → Nat → St → Foots → (St → Prop) → (Value → St → Prop) → Prop) (o : Oper) (q : Bool) (i m : Nat) (S : St) (acc : Foots) (K : St → Prop) (Kp : Value → St → Prop) : Prop :=
  fN (i + 1) fun i' =>
    bif m.testBit i then V q i' m S acc K Kp else
    match o.guard with
    | none => vcOp P rid i o S (fun r ws φ => bif quiet q ws φ then V q i' m (S.upd o.dst r ws) ((i, φ) :: acc) K Kp else bif freshF q S ws φ then V q i' m (S.upd o.dst .top []) ((i, ⟨φ.rd, [], []⟩) :: acc) K Kp else False)
        (fun pv ws φ => bif q then False else Chk (acc.all fun p => bef ops i p.1 || quietF p.2) ∧ Kp pv ((S.upd none .top ws).blank ops) ∧ V true i' (m ||| descMask ops i) S ((i, φ) :: acc) (fun _ => True) (fun _ _ => False))
    | some (j, want) => match gdTmp ops j with
      | none => False
      | some t => fN t fun t => bif Nat.blt t S.n then match S.sl t with
          | .d (.bool b) => bcase b fun c =>
            bif c == want then vcOp P rid i o (S.put (some t) (.d (.bool c))) (fun r ws φ => bif quiet q ws φ then V q i' m ((S.put (some t) (.d (.bool c))).upd o.dst r ws) ((i, φ) :: acc) K Kp else bif freshF q (S.put (some t) (.d (.bool c))) ws φ then V q i' m ((S.put (some t) (.d (.bool c))).upd o.dst .top []) ((i, ⟨φ.rd, [], []⟩) :: acc) K Kp else False)
              (fun pv ws φ => bif q then False else Chk (acc.all fun p => bef ops i p.1 || quietF p.2) ∧ Kp pv (((S.put (some t) (.d (.bool c))).upd none .top ws).blank ops) ∧ V true i' (m ||| descMask ops i) (S.put (some t) (.d (.bool c))) ((i, φ) :: acc) (fun _ => True) (fun _ _ => False))
            else bif isDefer o.op then False else V q i' m ((S.put (some t) (.d (.bool c))).upd o.dst (.tup []) []) ((i, ⟨[], [], []⟩) :: acc) K Kp
          | .tup [] => bif isDefer o.op then False else V q i' m (S.upd o.dst (.tup []) []) ((i, ⟨[], [], []⟩) :: acc) K Kp
          | _ => False
        else False

def vcOps : List Oper → Bool → Nat → Nat → St → Foots → (St → Prop) → (Value → St → Prop) → Prop
  | [], _, _, _, S, acc, K, _ => chk acc ∧ K S
  | o :: rest, q, i, m, S, acc, K, Kp => stepOp P ops rid (fun q i m S acc K Kp => Later (vcOps rest q i m S acc K Kp)) o q i m S acc K Kp
end

/-! ### The trace -/

inductive Tr (P : Program) (ops : List Oper) : Bool → Option Nat → List Nat → St → Foots → St ⊕ (Value × St) → Prop
  | nil {q : Bool} {S : St} : Tr P ops q none [] S [] (.inl S)
  | step {q : Bool} {pi : Option Nat} {i : Nat} {o : Oper} {L : List Nat} {S : St} {φ : Foot} {r : AV} {ws : List (Nat × AObj)} {fs : Foots} {out : St ⊕ (Value × St)} : ops[i]? = some o → LStep P ops.toArray i S φ r ws → (q = true → ws = [] ∧ quietF φ = true) →
      (∀ i', pi = some i' → bef ops i' i = true ∨ quietF φ = true) → Tr P ops q pi L (S.upd o.dst r ws) fs out → Tr P ops q pi (i :: L) S ((i, φ) :: fs) out
  | pan {i : Nat} {L : List Nat} {S S' : St} {φ : Foot} {pv : Value} {ws : List (Nat × AObj)} {fs : Foots} : LPan P ops.toArray i S φ pv ws → Tr P ops true none (L.filter fun j => !(descMask ops i).testBit j) S fs (.inl S') → Tr P ops false (some i) (i :: L) S ((i, φ) :: fs) (.inr (pv, ((S.upd none .top ws).blank ops)))

theorem looks_guard {ops : List Oper} {o : Oper} {j : Nat} {want : Bool} {t : Tmp} (hg : o.guard = some (j, want)) (ht : gdTmp ops j = some t) : t ∈ o.looksAt ops.toArray := by
  unfold Oper.looksAt
  rw [hg]
  refine List.mem_append_right _ ?_
  have : (ops.toArray[j]?).bind (·.dst) = some t := by simpa [gdTmp] using ht
  show t ∈ ((ops.toArray[j]?).bind (·.dst)).toList
  rw [this]; simp

theorem wanted_guard {ops : List Oper} {o : Oper} {j : Nat} {want b : Bool} {t : Tmp} (hg : o.guard = some (j, want)) (ht : gdTmp ops j = some t) {S : St} {ρ : Nat → Option Nat} {X : Nat → Prop} {a : Act} {w : World} (hs : Sim S ρ X a w)
    (hn : Nat.blt t S.n = true) (hb : S.sl t = .d (.bool b)) : Region.wanted o (yielded ops.toArray a.tmps) = (b == want) := by
  have h1 : (ops.toArray[j]?).bind (·.dst) = some t := by simpa [gdTmp] using ht
  have hlt : t < a.tmps.size := by rw [hs.n]; simpa using hn
  have hv : a.tmps[t]? = some a.tmps[t] := Array.getElem?_eq_getElem hlt
  have hr := hs.slots t _ hv
  rw [hb] at hr
  have hbv := repA_bool hr
  simp only [Region.wanted, hg, yielded, h1, Option.bind_some, hv, hbv]
  cases b <;> cases want <;> rfl

theorem wanted_undef {ops : List Oper} {o : Oper} {j : Nat} {want : Bool} {t : Tmp} (hg : o.guard = some (j, want)) (ht : gdTmp ops j = some t) {S : St} {ρ : Nat → Option Nat} {X : Nat → Prop} {a : Act} {w : World} (hs : Sim S ρ X a w)
    (hn : Nat.blt t S.n = true) (hb : S.sl t = .tup []) : Region.wanted o (yielded ops.toArray a.tmps) = false := by
  have h1 : (ops.toArray[j]?).bind (·.dst) = some t := by simpa [gdTmp] using ht
  have hlt : t < a.tmps.size := by rw [hs.n]; simpa using hn
  have hv : a.tmps[t]? = some a.tmps[t] := Array.getElem?_eq_getElem hlt
  have hr := hs.slots t _ hv
  rw [hb] at hr
  obtain ⟨us, hu, _⟩ := hr
  simp only [Region.wanted, hg, yielded, h1, Option.bind_some, hv, hu]
  rfl

theorem wanted_none {ops : Array Oper} {o : Oper} (hg : o.guard = none) (a : Act) : Region.wanted o (yielded ops a.tmps) = true := by
  simp [Region.wanted, hg]

theorem opNames_congr {ops : Array Oper} {o : Oper} {φ : Foot} {S S' : St} (h : Agree ops o φ S S') : opNames S' o.op = opNames S o.op := by
  unfold opNames
  have : o.op.operands.toList.map S'.ev = o.op.operands.toList.map S.ev := List.map_congr_left fun p hp => h.ev p (by simpa using hp)
  rw [this]

theorem nodef_call {S : St} {op : Op} {p : FuncId × List AV} (h : calleeOf S op = some p) : ∀ c, op ≠ .defer c := fun c e => by
  subst e; simp [calleeOf] at h
theorem nodef_op {P : Program} {nm : Nat} {op : Op} {ev : Operand → AV} {hp : Nat → Option AObj} {res : Res} (h : aOp P nm op ev hp = some res) : ∀ c, op ≠ .defer c := fun c e => by
  subst e; simp [aOp] at h

/-- An operation of the region, asked of by 'vcOp', is a local step (or panics). -/
theorem vcOp_local {P : Program} {ops : List Oper} {rid i : Nat} {o : Oper} {S : St} {K : AV → List (Nat × AObj) → Foot → Prop} {Kp : Value → List (Nat × AObj) → Foot → Prop} (hi : ops[i]? = some o)
    (hw : ∀ (φ : Foot) S', Agree ops.toArray o φ S S' → ∀ ρ X a w, Sim S' ρ X a w → Region.wanted o (yielded ops.toArray a.tmps) = true) (h : vcOp P rid i o S K Kp) :
    (∃ φ r ws, LStep P ops.toArray i S φ r ws ∧ K r ws φ) ∨ (∃ φ pv ws, LPan P ops.toArray i S φ pv ws ∧ Kp pv ws φ) := by
  have hi' : ops.toArray[i]? = some o := by simpa using hi
  unfold vcOp at h
  split at h
  · rename_i f args hcal
    rw [fN_eq, fAVs_eq] at h
    have hnd := nodef_call hcal
    have hc : ∃ c x caps, o.op = .call c ∧ c.callee = .value x ∧ S.ev x = .fn (.func f) caps ∧ caps.all AV.single = true ∧ args = c.args.toList.map S.ev ++ caps := by
      unfold calleeOf at hcal
      split at hcal <;> try (cases hcal; done)
      rename_i c ho
      split at hcal <;> try (cases hcal; done)
      rename_i x hx
      split at hcal <;> try (cases hcal; done)
      rename_i g caps hev
      cases hb : caps.all AV.single <;> simp only [hb, cond_true, cond_false] at hcal <;> cases hcal
      exact ⟨c, x, caps, ho, hx, hev, hb, rfl⟩
    obtain ⟨c, x, caps, ho, hx, hev, hsg, hargs⟩ := hc
    have ops_x : x ∈ o.op.operands := by rw [ho]; simp [Op.operands, Call.operands, hx]
    have ops_a : ∀ y, y ∈ c.args.toList → y ∈ o.op.operands := fun y hy => by rw [ho]; simp [Op.operands, Call.operands, hx]; right; simpa using hy
    -- what both ways have in common
    have com : ∀ {ms : List Bool} {args' : List AV} {fz : List Nat} {s : Prop} {pre : List (Nat × AObj)} {nw : List Nat} {ws : List (Nat × AObj)} {φ : Foot}, φ = ⟨AV.namesL args ++ pre.map (·.1), fz ++ (ws.map (·.1)).filter (fun n => !nw.contains n), nw⟩ →
        cvt S.hp ms args = some (s, args', fz) → preOK S.hp pre → okNames S.hp pre fz nw ws = true → (∀ n, n ∈ nw → S.hp n = none) ∧ (∀ n, lkp (ws ++ deads fz) n ≠ none → n ∈ φ.wr ∨ n ∈ φ.nw) ∧
        ∀ S', Agree ops.toArray o φ S S' → S'.ev x = .fn (.func f) caps ∧ cvt S'.hp ms (c.args.toList.map S'.ev ++ caps) = some (s, args', fz) ∧ (∀ p, p ∈ pre → wr S'.hp (deads fz) p.1 = some p.2) ∧
          (∀ ρ X a w, Sim S' ρ X a w → ∀ n, n ∈ nw → wr S'.hp (deads fz) n = none) := by
      intro ms args' fz s pre nw ws φ hφ h1 h3 h4
      simp only [okNames, Bool.and_eq_true, List.all_eq_true, Bool.or_eq_true, Bool.not_eq_true', List.contains_eq_mem, decide_eq_true_eq, decide_eq_false_iff_not, Option.isNone_iff_eq_none] at h4
      obtain ⟨⟨n1, n2⟩, n3⟩ := h4
      refine ⟨n3, fun n hn => ?_, fun S' ha => ?_⟩
      · subst hφ
        cases hl : lkp (ws ++ deads fz) n with
        | none => exact absurd hl hn
        | some y =>
          have := lkp_mem hl
          rcases List.mem_append.1 this with hm | hm
          · have hm' : n ∈ ws.map (·.1) := List.mem_map.2 ⟨_, hm, rfl⟩
            by_cases hnw : n ∈ nw
            · exact .inr hnw
            · exact .inl (by simp only [List.mem_append, List.mem_filter]; exact .inr ⟨hm', by simpa using hnw⟩)
          · simp [deads] at hm
            obtain ⟨n', hm1, rfl, _⟩ := hm
            exact .inl (by simp only [List.mem_append]; exact .inl hm1)
      · have hev' : S'.ev x = .fn (.func f) caps := by rw [ha.ev x ops_x]; exact hev
        have hmap : c.args.toList.map S'.ev = c.args.toList.map S.ev := List.map_congr_left fun p hp => ha.ev p (ops_a p hp)
        have hrd : ∀ n, n ∈ AV.namesL args ∨ n ∈ pre.map (·.1) → S'.hp n = S.hp n := fun n hn => ha.rd n (by rw [hφ]; exact List.mem_append.2 hn)
        have hnwS : ∀ n, n ∈ nw → S'.hp n = none := fun n hn => ha.nw n (by rw [hφ]; exact hn)
        have hcv : cvt S'.hp ms (c.args.toList.map S'.ev ++ caps) = some (s, args', fz) := by
          rw [hmap, ← hargs, cvt_congr (hp := S.hp) (fun n hn => hrd n (.inl hn))]; exact h1
        have hfzd : ∀ n, n ∈ fz → n ∈ AV.namesL args := fun n hn => (cvt_names h1).2 hn
        refine ⟨hev', hcv, fun p hp => ?_, fun ρ X a w hs n hn => ?_⟩
        · have hnf : lkp (deads fz) p.1 = none := by
            cases hl : lkp (deads fz) p.1 with
            | none => rfl
            | some y => exact absurd (lkp_deads hl).2 (n2 p hp)
          simp only [wr, hnf]
          rw [hrd p.1 (.inr (List.mem_map.2 ⟨p, hp, rfl⟩))]
          exact preOK_spec h3 p hp
        · have hnf : lkp (deads fz) n = none := by
            cases hl : lkp (deads fz) n with
            | none => rfl
            | some y =>
              exfalso
              have hm := hfzd n (lkp_deads hl).2
              rw [hargs] at hm
              have hdom' := (evals_rep hs (c := c) hev' hsg).choose_spec.2.2.2 n (by rw [hmap]; exact hm)
              rw [hnwS n hn] at hdom'
              exact hdom' rfl
          simp only [wr, hnf]
          exact hnwS n hn
    rcases h.h with ⟨ms, args', fz, s, pre, nw, r, ws, h1, h2, h3, h4, h5, h6, h7⟩ | ⟨ms, args', fz, s, pre, nw, pv, ws, h1, h2, h3, h4, h5, h6, h7⟩
    · left
      obtain ⟨c1, c2, c3⟩ := com rfl h1 h3 h4
      refine ⟨_, r, _, ⟨o, hi', hnd, c2, c1, fun S' ha ρ X a w hs => ⟨fun _ => ?_, fun hf => ?_⟩⟩, h7⟩
      · obtain ⟨e1, e2, e3, e4⟩ := c3 S' ha
        refine does_call hs ho hx e1 hsg h5 e2 h2 fun vs hvs hdom => ?_
        refine (h6 _ e3 (e4 ρ X a w hs) ρ (less S'.hp ρ X fz) w vs (hs.kill fz).heap hvs hdom).mono fun e w' hq => ?_
        obtain ⟨v, rfl, ρ', X', q1, q2, q3, q4⟩ := hq
        exact ⟨ρ', X', hs.killCall q1 q2 q3 q4⟩
      · rw [hw _ S' ha ρ X a w hs] at hf; cases hf
    · right
      obtain ⟨c1, c2, c3⟩ := com rfl h1 h3 h4
      refine ⟨_, pv, _, ⟨o, hi', hnd, c1, fun S' ha ρ X a w hs => ⟨hw _ S' ha ρ X a w hs, ?_⟩⟩, h7⟩
      obtain ⟨e1, e2, e3, e4⟩ := c3 S' ha
      refine does_call hs ho hx e1 hsg h5 e2 h2 fun vs hvs hdom => ?_
      refine (h6 _ e3 (e4 ρ X a w hs) ρ (less S'.hp ρ X fz) w vs (hs.kill fz).heap hvs hdom).mono fun e w' hq => ?_
      obtain ⟨rfl, ρ', X', q1, q2⟩ := hq
      exact ⟨pv, rfl, rfl, ρ', X', hs.killCall (dst := none) (r := .top) (v := undef) q1 q2 trivial (fun _ h => by cases h)⟩
  · split at h
    · rename_i pv hpan
      right
      have hp : ∃ x t v, o.op = .panic x ∧ S.ev x = .cst (.iface t v) ∧ pv = .iface t v := by
        unfold panOf at hpan
        split at hpan <;> try (cases hpan; done)
        rename_i x ho
        split at hpan <;> try (cases hpan; done)
        rename_i t v hx
        cases hpan
        exact ⟨x, t, v, ho, hx, rfl⟩
      obtain ⟨x, t, v, ho, hx, rfl⟩ := hp
      refine ⟨_, _, _, ⟨o, hi', (fun c e => by rw [ho] at e; cases e), (fun n hn => by cases hn), fun S' ha ρ X a w hs => ⟨hw _ S' ha ρ X a w hs, ?_⟩⟩, h⟩
      have he := hs.ev x
      rw [ha.ev x (by rw [ho]; simp [Op.operands]), hx] at he
      obtain ⟨cs, h1, h2⟩ := he
      have hv : a.eval x = .iface t v := by
        cases h1 with
        | cst _ => exact h2
      have hrun : (execOp a.eval o).run P w = .halt (.panic (.iface t v)) w := by
        simp only [execOp, ho, hv, Instr.panic, goPanic]
        rfl
      unfold Does
      rw [hrun]
      obtain ⟨k1, k2⟩ := hs.put (dst := none) (r := .top) (v := undef) trivial (fun _ h => by cases h)
      exact ⟨rfl, ρ, X, k1, k2⟩
    split at h <;> try (exact h.elim)
    rename_i hcal hpan res hop
    cases hfr : (S.hp (nmOf rid i)).isNone <;> simp only [hfr, cond_true, cond_false] at h <;> try (exact h.elim)
    obtain ⟨hside, hK⟩ := h
    rw [Side_eq] at hside
    simp only [fAV_eq, fWs_eq, fFoot_eq] at hK
    refine .inl ⟨_, res.r, res.ws, ⟨o, hi', nodef_op hop, fun n hn => ?_, fun n hn => ?_, fun S' ha ρ X a w hs => ⟨fun _ => ?_, fun hf => ?_⟩⟩, hK⟩
    · cases hl : lkp res.ws n with
      | none => exact absurd hl hn
      | some y =>
        have hm : n ∈ res.ws.map (·.1) := List.mem_map.2 ⟨_, lkp_mem hl, rfl⟩
        cases hb : n.beq (nmOf rid i) with
        | true => exact .inr (List.mem_filter.2 ⟨hm, hb⟩)
        | false => exact .inl (List.mem_filter.2 ⟨hm, by simp [hb]⟩)
    · have := Nat.eq_of_beq_eq_true (List.mem_filter.1 hn).2
      subst this; simpa using hfr
    · have hop' : aOp P (nmOf rid i) o.op S'.ev (rst S'.hp (opNames S' o.op)) = some res := by
        rw [opNames_congr ha, aOp_congr (ev' := S.ev) (fun x hx => ha.ev x hx), rst_congr (hp' := S.hp) (fun n hn => ha.rd n (List.mem_cons_of_mem _ hn))]
        exact hop
      exact aOp_sound (fun n x => rst_le) hop' hside (by rw [ha.rd _ (List.mem_cons_self ..)]; simpa using hfr) ρ X a w hs
    · rw [hw _ S' ha ρ X a w hs] at hf; cases hf

theorem St.put_same {S : St} {t : Tmp} {x : AV} (h : S.sl t = x) : S.put (some t) x = S := by
  simp only [St.put]
  congr 1
  funext u
  cases hb : t.beq u with
  | true => have := Nat.eq_of_beq_eq_true hb; subst this; simp [h]
  | false => simp

theorem quiet_spec {q : Bool} {ws : List (Nat × AObj)} {φ : Foot} (h : quiet q ws φ = true) : q = true → ws = [] ∧ quietF φ = true := by
  intro hq; subst hq
  simpa [quiet] using h

theorem Does.mono {P : Program} {o : Oper} {a : Act} {w : World} {R R' Rp : Value → World → Prop} (h : Does P o a w R Rp) (k : ∀ v w, R v w → R' v w) : Does P o a w R' Rp := by
  unfold Does at h ⊢
  generalize (execOp a.eval o).run P w = r at h ⊢
  cases r with
  | ok x w' =>
    cases x <;> first
      | exact k _ _ h
      | (refine Calls.mono h fun e w'' he => ?_
         cases e with
         | returned v => exact k _ _ he
         | panicked c => exact he
         | outgrown => exact he)
      | exact h
  | halt x w' => cases x <;> exact h

/-- What is new, forgotten. -/
theorem LStep.forget {P : Program} {ops : Array Oper} {i : Nat} {S : St} {φ : Foot} {r : AV} {ws : List (Nat × AObj)} {q : Bool} (h : LStep P ops i S φ r ws) (hf : freshF q S ws φ = true) : LStep P ops i S ⟨φ.rd, [], []⟩ .top [] := by
  obtain ⟨o, h1, h2, h3, h4, h5⟩ := h
  simp only [freshF, Bool.and_eq_true, List.all_eq_true, List.isEmpty_iff, Bool.not_eq_true', List.contains_eq_mem, decide_eq_true_eq, Option.isNone_iff_eq_none, List.isEmpty_eq_false_iff] at hf
  obtain ⟨⟨⟨_, f1⟩, f2⟩, f3⟩ := hf
  refine ⟨o, h1, h2, fun n hn => absurd rfl hn, (fun n hn => by cases hn), fun S' ha ρ X a w hs => ?_⟩
  have hnone : ∀ n, n ∈ φ.nw → S'.hp n = none := fun n hn => by rw [ha.rd n (f3 n hn).1]; exact (f3 n hn).2
  have hws : ∀ n, lkp ws n ≠ none → S'.hp n = none := fun n hn => by
    rcases h3 n hn with h | h
    · rw [f2] at h; cases h
    · exact hnone n h
  have hup : ∀ n x, S'.hp n = some x → (S'.upd o.dst r ws).hp n = some x := fun n x hx => by
    rw [St.hp_upd]
    cases hl : lkp ws n with
    | none => exact hx
    | some y => rw [hws n (by rw [hl]; simp)] at hx; cases hx
  have hhp : (S'.upd o.dst .top []).hp = S'.hp := by
    funext n; rw [St.hp_upd]; rfl
  obtain ⟨k1, k2⟩ := h5 S' ⟨ha.n, ha.sl, ha.rd, (fun n hn => by rw [f2] at hn; cases hn), hnone⟩ ρ X a w hs
  refine ⟨fun hw => (k1 hw).mono fun v w' hv => ?_, fun hw => absurd (k2 hw).2 f1⟩
  obtain ⟨ρ', X', g1, g2⟩ := hv
  have hsl : ∀ t, (S'.upd o.dst .top []).sl t = .top ∨ ((S'.upd o.dst .top []).sl t = S'.sl t ∧ (S'.upd o.dst r ws).sl t = S'.sl t) := fun t => by
    rcases St.sl_put (S'.write []) o.dst .top t with ⟨e1, _⟩ | ⟨e1, e2⟩
    · exact .inl e1
    · rcases St.sl_put (S'.write ws) o.dst r t with ⟨_, e3⟩ | ⟨e3, _⟩
      · exact absurd e3 e2
      · exact .inr ⟨e1, e3⟩
  refine ⟨ρ', X', ⟨?_, fun t v' ht => ?_, fun n x hx => ?_, fun n n' x x' b q1 q2 q3 q4 q5 q6 => ?_, fun n x b q1 q2 q3 => ?_, fun t n hn => ?_, fun n x hx n' hn' => ?_⟩, g2.ext, g2.xs, fun n x b q1 q2 q3 => ?_, g2.same⟩
  · rw [g1.n]; simp only [St.upd, St.n_put, St.write]
  · rcases hsl t with e | ⟨e, e'⟩
    · rw [e]; trivial
    · rw [e, ← e']; exact g1.slots t v' ht
  · rw [hhp] at hx; exact g1.objs n x (hup n x hx)
  · rw [hhp] at q1 q3; exact g1.inj n n' x x' b (hup _ _ q1) q2 (hup _ _ q3) q4 q5 q6
  · rw [hhp] at q1; exact g1.own n x b (hup _ _ q1) q2 q3
  · rw [hhp]
    rcases hsl t with e | ⟨e, _⟩
    · rw [e] at hn; cases hn
    · rw [e] at hn; exact hs.closedS t n hn
  · rw [hhp] at hx ⊢; exact hs.closedH n x hx n' hn'
  · rw [hhp] at q1; exact g2.own n x b (hup _ _ q1) q2 q3

theorem Tr.noPan {P : Program} {ops : List Oper} {pi : Option Nat} {L : List Nat} {S S' : St} {fs : Foots} (t : Tr P ops true pi L S fs (.inl S')) : pi = none := by
  generalize hq : true = q at t
  generalize ho : Sum.inl S' = out at t
  induction t with
  | nil => rfl
  | step _ _ _ _ _ ih => exact ih hq ho
  | pan _ _ => cases hq

theorem vc_tr {P : Program} {ops : List Oper} {rid : Nat} {chk : Foots → Prop} : ∀ (pend : List Oper) (q : Bool) (i m : Nat) (S : St) (acc : Foots) (K : St → Prop) (Kp : Value → St → Prop), (∀ k o, pend[k]? = some o → ops[i + k]? = some o) →
    vcOps P ops rid chk pend q i m S acc K Kp → ∃ pi fs out, Tr P ops q pi ((List.range' i pend.length).filter fun j => !m.testBit j) S fs out ∧ chk (fs.reverse ++ acc) ∧ (∀ p, p ∈ acc → ∀ i', pi = some i' → bef ops i' p.1 = true ∨ quietF p.2 = true) ∧ match out with
      | .inl S' => K S'
      | .inr p => Kp p.1 p.2
  | [], q, i, m, S, acc, K, Kp, _, h => ⟨none, [], .inl S, .nil, h.1, (fun _ _ _ h => by cases h), h.2⟩
  | o :: rest, q, i, m, S, acc, K, Kp, hp, h => by
    have hi : ops[i]? = some o := hp 0 o rfl
    have hrest : ∀ k o', rest[k]? = some o' → ops[i + 1 + k]? = some o' := fun k o' hk => by
      have := hp (k + 1) o' (by simpa using hk)
      rw [show i + 1 + k = i + (k + 1) by omega]; exact this
    have hr' : List.range' i (o :: rest).length = i :: List.range' (i + 1) rest.length := List.range'_succ
    rw [hr']
    simp only [vcOps, stepOp, fN_eq, Later_eq] at h
    cases hm : m.testBit i <;> simp only [hm, cond_true, cond_false] at h
    · have hL : ((i :: List.range' (i + 1) rest.length).filter fun j => !m.testBit j) = i :: ((List.range' (i + 1) rest.length).filter fun j => !m.testBit j) := by
        simp [hm]
      rw [hL]
      have fin : ∀ (S : St), (∀ (φ : Foot) S', Agree ops.toArray o φ S S' → ∀ ρ X a w, Sim S' ρ X a w → Region.wanted o (yielded ops.toArray a.tmps) = true) →
          vcOp P rid i o S (fun r ws φ => bif quiet q ws φ then vcOps P ops rid chk rest q (i + 1) m (S.upd o.dst r ws) ((i, φ) :: acc) K Kp else bif freshF q S ws φ then vcOps P ops rid chk rest q (i + 1) m (S.upd o.dst .top []) ((i, ⟨φ.rd, [], []⟩) :: acc) K Kp else False)
            (fun pv ws φ => bif q then False else Chk (acc.all fun p => bef ops i p.1 || quietF p.2) ∧ Kp pv ((S.upd none .top ws).blank ops) ∧ vcOps P ops rid chk rest true (i + 1) (m ||| descMask ops i) S ((i, φ) :: acc) (fun _ => True) (fun _ _ => False)) →
          ∃ pi fs out, Tr P ops q pi (i :: ((List.range' (i + 1) rest.length).filter fun j => !m.testBit j)) S fs out ∧ chk (fs.reverse ++ acc) ∧ (∀ p, p ∈ acc → ∀ i', pi = some i' → bef ops i' p.1 = true ∨ quietF p.2 = true) ∧ match out with
            | .inl S' => K S'
            | .inr p => Kp p.1 p.2 := by
        intro S hw h
        rcases vcOp_local hi hw h with ⟨φ, r, ws, h1, h2⟩ | ⟨φ, pv, ws, h1, h2⟩
        · cases hq : quiet q ws φ <;> rw [hq] at h2
          · cases hfr : freshF q S ws φ <;> rw [hfr] at h2
            · exact h2.elim
            · obtain ⟨pi, fs, out, t1, t2, t4, t3⟩ := vc_tr rest q (i + 1) m _ _ K Kp hrest h2
              exact ⟨pi, (i, ⟨φ.rd, [], []⟩) :: fs, out, .step hi (h1.forget hfr) (fun _ => ⟨rfl, rfl⟩) (fun _ _ => .inr rfl) t1, by simpa using t2, fun p hp => t4 p (List.mem_cons_of_mem _ hp), t3⟩
          · obtain ⟨pi, fs, out, t1, t2, t4, t3⟩ := vc_tr rest q (i + 1) m _ _ K Kp hrest h2
            exact ⟨pi, (i, φ) :: fs, out, .step hi h1 (quiet_spec hq) (t4 (i, φ) (by simp)) t1, by simpa using t2, fun p hp => t4 p (List.mem_cons_of_mem _ hp), t3⟩
        · cases q with
          | true => exact h2.elim
          | false =>
            obtain ⟨h0, h2, h3⟩ := h2
            rw [Chk_eq] at h0
            simp only [List.all_eq_true, Bool.or_eq_true] at h0
            obtain ⟨pi, fs, out, t1, t2, _, t3⟩ := vc_tr rest _ _ _ _ _ _ _ hrest h3
            cases out with
            | inr _ => exact t3.elim
            | inl S' =>
              have : pi = none := t1.noPan
              subst this
              refine ⟨some i, (i, φ) :: fs, .inr (pv, ((S.upd none .top ws).blank ops)), .pan h1 (S' := S') ?_, by simpa using t2, (fun p hp i' hi' => by cases hi'; exact h0 p hp), h2⟩
              rw [List.filter_filter]
              have : (fun j => (!(descMask ops i).testBit j) && !m.testBit j) = fun j => !(m ||| descMask ops i).testBit j := by
                funext j
                rw [Nat.testBit_or]
                cases m.testBit j <;> cases (descMask ops i).testBit j <;> rfl
              rw [this]; exact t1
      cases hg : o.guard with
      | none =>
        rw [hg] at h
        exact fin S (fun φ S' _ ρ X a w _ => wanted_none hg a) h
      | some p =>
        obtain ⟨j, want⟩ := p
        rw [hg] at h
        simp only at h
        split at h <;> try (exact h.elim)
        rename_i t ht
        cases hn : Nat.blt t S.n <;> simp only [hn, cond_true, cond_false] at h <;> try (exact h.elim)
        split at h <;> try (exact h.elim)
        rename_i b hb
        have key : ∀ c, b = c → (bif c == want then vcOp P rid i o (S.put (some t) (.d (.bool c))) (fun r ws φ => bif quiet q ws φ then vcOps P ops rid chk rest q (i + 1) m ((S.put (some t) (.d (.bool c))).upd o.dst r ws) ((i, φ) :: acc) K Kp else bif freshF q (S.put (some t) (.d (.bool c))) ws φ then vcOps P ops rid chk rest q (i + 1) m ((S.put (some t) (.d (.bool c))).upd o.dst .top []) ((i, ⟨φ.rd, [], []⟩) :: acc) K Kp else False)
              (fun pv ws φ => bif q then False else Chk (acc.all fun p => bef ops i p.1 || quietF p.2) ∧ Kp pv (((S.put (some t) (.d (.bool c))).upd none .top ws).blank ops) ∧ vcOps P ops rid chk rest true (i + 1) (m ||| descMask ops i) (S.put (some t) (.d (.bool c))) ((i, φ) :: acc) (fun _ => True) (fun _ _ => False))
            else bif isDefer o.op then False else vcOps P ops rid chk rest q (i + 1) m ((S.put (some t) (.d (.bool c))).upd o.dst (.tup []) []) ((i, ⟨[], [], []⟩) :: acc) K Kp) →
            ∃ pi fs out, Tr P ops q pi (i :: ((List.range' (i + 1) rest.length).filter fun j => !m.testBit j)) S fs out ∧ chk (fs.reverse ++ acc) ∧ (∀ p, p ∈ acc → ∀ i', pi = some i' → bef ops i' p.1 = true ∨ quietF p.2 = true) ∧ match out with
              | .inl S' => K S'
              | .inr p => Kp p.1 p.2 := by
          intro c hc h
          subst hc
          rw [St.put_same hb] at h
          have hwant : ∀ (φ : Foot) S', Agree ops.toArray o φ S S' → ∀ ρ X a w, Sim S' ρ X a w → Region.wanted o (yielded ops.toArray a.tmps) = (b == want) := fun φ S' ha ρ X a w hs =>
            wanted_guard hg ht hs (by rw [ha.n]; exact hn) (by rw [ha.sl t (looks_guard hg ht)]; exact hb)
          cases hcw : b == want <;> simp only [hcw, cond_true, cond_false] at h
          · cases hdf : isDefer o.op <;> simp only [hdf, cond_true, cond_false] at h <;> try (exact h.elim)
            obtain ⟨pi, fs, out, t1, t2, t4, t3⟩ := vc_tr rest q (i + 1) m _ _ K Kp hrest h
            refine ⟨pi, (i, ⟨[], [], []⟩) :: fs, out, .step hi ⟨o, by simpa using hi, (fun c e => by rw [e] at hdf; cases hdf), fun n hn => absurd rfl hn, (fun n hn => by cases hn), fun S' ha ρ X a w hs => ⟨fun hf => ?_, fun _ => ⟨rfl, rfl⟩⟩⟩ (fun _ => ⟨rfl, rfl⟩) (fun _ _ => .inr rfl) t1, by simpa using t2, fun p hp => t4 p (List.mem_cons_of_mem _ hp), t3⟩
            · rw [hwant _ S' ha ρ X a w hs, hcw] at hf; cases hf
          · exact fin S (fun φ S' ha ρ X a w hs => by rw [hwant φ S' ha ρ X a w hs, hcw]) h
        rw [bcase_eq] at h
        cases hbv : b with
        | true => exact key true hbv (h.1 hbv)
        | false => exact key false hbv (h.2 hbv)
        rename_i hb
        have hwant : ∀ (φ : Foot) S', Agree ops.toArray o φ S S' → ∀ ρ X a w, Sim S' ρ X a w → Region.wanted o (yielded ops.toArray a.tmps) = false := fun φ S' ha ρ X a w hs =>
          wanted_undef hg ht hs (by rw [ha.n]; exact hn) (by rw [ha.sl t (looks_guard hg ht)]; exact hb)
        cases hdf : isDefer o.op <;> simp only [hdf, cond_true, cond_false] at h <;> try (exact h.elim)
        obtain ⟨pi, fs, out, t1, t2, t4, t3⟩ := vc_tr rest q (i + 1) m _ _ K Kp hrest h
        refine ⟨pi, (i, ⟨[], [], []⟩) :: fs, out, .step hi ⟨o, by simpa using hi, (fun c e => by rw [e] at hdf; cases hdf), fun n hn => absurd rfl hn, (fun n hn => by cases hn), fun S' ha ρ X a w hs => ⟨fun hf => ?_, fun _ => ⟨rfl, rfl⟩⟩⟩ (fun _ => ⟨rfl, rfl⟩) (fun _ _ => .inr rfl) t1, by simpa using t2, fun p hp => t4 p (List.mem_cons_of_mem _ hp), t3⟩
        · rw [hwant _ S' ha ρ X a w hs] at hf; cases hf
    · have hL : ((i :: List.range' (i + 1) rest.length).filter fun j => !m.testBit j) = ((List.range' (i + 1) rest.length).filter fun j => !m.testBit j) := by
        simp [hm]
      rw [hL]
      exact vc_tr rest q (i + 1) m S acc K Kp hrest h

attribute [irreducible] vcOps

end Go.Sym

/-
A frame in its call ('Inv'); a region's trace serves the order of the text.
-/
set_option linter.unusedSimpArgs false
set_option linter.unusedVariables false
namespace Go.Sym

/-- How a call began. -/
structure Ent where
  hp : Nat → Option AObj
  ρ : Nat → Option Nat
  X : Nat → Prop
  w : World
  ds : List Deferred
  nm : Bool

def Ent.own (E : Ent) (b : Nat) : Prop := ∃ o x, E.hp o = some x ∧ x.alive = true ∧ E.ρ o = some b

/-- What a range over a function leaves among the deferred calls. -/
def mark (D : Nat) : Deferred := { target := .collected D, args := #[] }

structure InvAt (E : Ent) (S : St) (ρ : Nat → Option Nat) (X : Nat → Prop) (a : Act) (w : World) : Prop where
  sim : Sim S ρ X a w
  ext : Ext E.own E.w w
  xs : ∀ b, b < E.w.heap.size → (X b → E.X b) ∧ (E.X b → X b ∨ E.own b)
  own : ∀ o x b, S.hp o = some x → x.alive = true → ρ o = some b → E.w.heap.size ≤ b ∨ E.own b
  same : ∀ n, E.hp n ≠ none → S.hp n ≠ none ∧ ρ n = E.ρ n
  marks : ∃ ms : List Nat, a.defers = ms.map mark ++ E.ds ∧ (E.nm = true → ms = []) ∧ ms.Nodup ∧ ∀ D, D ∈ ms → E.w.heap.size ≤ D ∧ X D ∧ w.heap[D]? = some (.deferred (some []))

def Inv (E : Ent) (S : St) (a : Act) (w : World) : Prop := ∃ ρ X, InvAt E S ρ X a w

theorem ObjAt.cells {ρ : Nat → Option Nat} {X : Nat → Prop} {w : World} {o b : Nat} {x : AObj} (h : ObjAt ρ X w o x) (ha : x.alive = true) (hb : ρ o = some b) : ∃ c T z, w.heap[b]? = some (.cells c T z) := by
  cases x with
  | var x =>
    obtain ⟨b', cs, T, z, h0, h1, _⟩ := h
    rw [hb] at h0; cases h0; exact ⟨_, _, _, h1⟩
  | row e xs =>
    rcases h with ⟨h1, _⟩ | ⟨b', cs, rest, T, z, h0, h1, _⟩
    · rw [hb] at h1; cases h1
    · rw [hb] at h0; cases h0; exact ⟨_, _, _, h1⟩
  | dead => cases ha

theorem InvAt.evo {E : Ent} {S S' : St} {ρ ρ' : Nat → Option Nat} {X X' : Nat → Prop} {a a' : Act} {w w' : World} (h : InvAt E S ρ X a w) (hs : Sim S' ρ' X' a' w') (he : Evo S S' ρ ρ' X X' w w')
    (hd : ∀ n, S.hp n ≠ none → S'.hp n ≠ none) (hda : a'.defers = a.defers) : InvAt E S' ρ' X' a' w' := by
  have own : ∀ b, b < E.w.heap.size → (∃ o x, S.hp o = some x ∧ x.alive = true ∧ ρ o = some b) → E.own b := fun b hb ⟨o, x, h1, h2, h3⟩ => (h.own o x b h1 h2 h3).elim (fun k => by omega) id
  refine ⟨hs, h.ext.trans' he.ext own, fun b hb => ?_, fun o x b h1 h2 h3 => ?_, fun n hn => ?_, ?_⟩
  · have hb' : b < w.heap.size := Nat.lt_of_lt_of_le hb h.ext.size
    refine ⟨fun k => (h.xs b hb).1 ((he.xs b hb').1 k), fun k => ?_⟩
    rcases (h.xs b hb).2 k with k | k
    · rcases (he.xs b hb').2 k with k | k
      · exact .inl k
      · exact .inr (own b hb k)
    · exact .inr k
  · rcases he.own o x b h1 h2 h3 with k | ⟨o', x', k1, k2, k3⟩
    · exact .inl (Nat.le_trans h.ext.size k)
    · exact h.own o' x' b k1 k2 k3
  · obtain ⟨k1, k2⟩ := h.same n hn
    exact ⟨hd n k1, by rw [he.same n k1, k2]⟩
  · obtain ⟨ms, k1, kn, k0, k2⟩ := h.marks
    refine ⟨ms, by rw [hda, k1], kn, k0, fun D hD => ?_⟩
    obtain ⟨k3, k4, hDw⟩ := k2 D hD
    have hlt : D < w.heap.size := (Array.getElem?_eq_some_iff.1 hDw).1
    have hno : ¬ ∃ o x, S.hp o = some x ∧ x.alive = true ∧ ρ o = some D := fun ⟨o, x, q1, q2, q3⟩ => by
      obtain ⟨c, T, z, q4⟩ := (h.sim.objs o x q1).cells q2 q3
      rw [hDw] at q4; cases q4
    exact ⟨k3, ((he.xs D hlt).2 k4).resolve_right hno, by rw [he.ext.keep D hlt hno]; exact hDw⟩

theorem upd_dom {S : St} {dst : Option Tmp} {r : AV} {ws : List (Nat × AObj)} {n : Nat} (h : S.hp n ≠ none) : (S.upd dst r ws).hp n ≠ none := by
  rw [St.hp_upd']; exact wr_ne h

theorem put_defers (a : Act) (dst : Option Tmp) (v : Value) : (a.put dst v).defers = a.defers := by cases dst <;> rfl

theorem Inv.drew {E : Ent} {S : St} {a : Act} {w : World} (h : Inv E S a w) : Inv E S a { w with drawn := w.drawn + 1 } := by
  obtain ⟨ρ, X, h⟩ := h
  have hs := h.sim
  have hdr : Ext (fun _ => False) w { w with drawn := w.drawn + 1 } := Ext.drew _ w
  have h1 := hs.step (Y := fun _ => False) (w' := { w with drawn := w.drawn + 1 }) (ρ' := ρ) (X' := X) (dst := none) (r := .top) (v := undef) (ws := []) hdr (fun _ h => h.elim) (fun _ _ => rfl) (fun _ _ h => h)
    (fun o x b _ h1 h2 h3 => hs.own o x b h1 h2 h3) (fun _ _ h => by cases h) (fun _ _ _ h => by cases h) (fun _ _ _ _ _ h => by cases h) (fun _ _ _ _ _ h => by cases h) (fun _ _ h => by cases h) trivial (fun _ h => by cases h)
  exact ⟨ρ, X, h.evo h1 ⟨hdr.mono fun _ _ h => h.elim, fun _ _ => ⟨id, .inl⟩, fun o x b k1 k2 k3 => .inr ⟨o, x, k1, k2, k3⟩, fun _ _ => rfl⟩ (fun n hn => hn) rfl⟩

theorem Inv.blank {E : Ent} {S : St} {a : Act} {w : World} {ops : List Oper} (h : Inv E S a w) : Inv E (S.blank ops) a w := by
  obtain ⟨ρ, X, h⟩ := h
  have hs := h.sim
  refine ⟨ρ, X, ⟨⟨hs.n, fun t v ht => ?_, hs.objs, hs.inj, hs.own, fun t o ho => ?_, hs.closedH⟩, h.ext, h.xs, h.own, h.same, h.marks⟩⟩
  · show RepA ρ X w (bif wrt ops t then .top else S.sl t) v
    cases wrt ops t with
    | true => trivial
    | false => exact hs.slots t v ht
  · have ho : o ∈ (bif wrt ops t then .top else S.sl t : AV).names := ho
    cases hw : wrt ops t with
    | true => rw [hw] at ho; cases ho
    | false => rw [hw] at ho; exact hs.closedS t o ho

/-- Everywhere; in a round of a range over a function ('some'), or in none. -/
def FR (ro : Option Nat) : Fence := { Fence.wide with round := ro }

theorem callsIn_FR {ro : Option Nat} {n : Nat} {P : Program} {f : FuncId} {args : Array Value} {w : World} {R : Ending → World → Prop} (h : Calls P f args w R) : CallsIn (FR ro) n P f args w R :=
  (callsIn_wide (n := n)).2 h

section
variable {P : Program} {E : Ent} {Q : Exit → Act → World → Prop} {ro : Option Nat} {k : Nat}

theorem wp_of_does {o : Oper} (hnd : ∀ c, o.op ≠ .defer c) {a : Act} {w : World} {R Rp : Value → World → Prop} {K : Act → World → Prop} (h : Does P o a w R Rp) (hK : ∀ v w', R v w' → K (a.put o.dst v) w')
    (hp : ∀ pv w', Rp pv w' → Q (.panic [{ v := pv, recovered := false }]) a w') : o.wpIn (FR ro) k P a w K Q := by
  refine ⟨fun _ _ => trivial, ?_⟩
  unfold Does at h
  rw [Oper.semAt_eq _ _ _ hnd]
  unfold Oper.uponIn
  generalize (execOp a.eval o).run P w = r at h
  cases r with
  | ok n w' =>
    cases n <;> try (exact h.elim)
    · exact hK _ _ h
    · exact hK _ _ h
    · refine ⟨(fun h => by cases h), callsIn_FR ((h : Calls P _ _ _ _).mono fun e w'' he => ?_)⟩
      cases e with
      | returned v => exact hK _ _ he
      | panicked c => obtain ⟨pv, rfl, hr⟩ := he; exact hp _ _ hr
      | outgrown => exact he.elim
  | halt x w' => cases x <;> first | exact h.elim | exact hp _ _ h

theorem step_wpOp {ops : List Oper} {i : Nat} {o : Oper} {S : St} {φ : Foot} {r : AV} {ws : List (Nat × AObj)} {a : Act} {w : World} {K : Act → World → Prop} (hi : ops[i]? = some o) (h : LStep P ops.toArray i S φ r ws)
    (hI : Inv E S a w) (hK : ∀ a' w', Inv E (S.upd o.dst r ws) a' w' → K a' w') : wpOpIn (FR ro) k P ops.toArray Q i K a w := by
  obtain ⟨o', ho', hnd, _, hfr, hst⟩ := h
  have : o' = o := by rw [show ops.toArray[i]? = ops[i]? by simp, hi] at ho'; cases ho'; rfl
  subst this
  obtain ⟨ρ, X, hI⟩ := hI
  have hag : Agree ops.toArray o' φ S S := ⟨rfl, fun _ _ => rfl, fun _ _ => rfl, fun _ _ => rfl, hfr⟩
  obtain ⟨h1, h2⟩ := hst S hag ρ X a w hI.sim
  unfold wpOpIn
  rw [ho']
  simp only
  cases hw : Region.wanted o' (yielded ops.toArray a.tmps) with
  | true =>
    simp only [if_true]
    refine wp_of_does hnd (h1 hw) (fun v w' hr => ?_) (fun _ _ h => h.elim)
    obtain ⟨ρ', X', k1, k2⟩ := hr
    exact hK _ _ ⟨ρ', X', hI.evo k1 k2 (fun n hn => upd_dom hn) (put_defers _ _ _)⟩
  | false =>
    simp only [Bool.false_eq_true, if_false]
    obtain ⟨rfl, rfl⟩ := h2 hw
    obtain ⟨k1, k2⟩ := hI.sim.put (dst := o'.dst) (r := .tup []) (v := undef) ⟨[], rfl, trivial⟩ (fun _ h => by cases h)
    exact ⟨fun _ _ => trivial, hK _ _ ⟨ρ, X, hI.evo k1 k2 (fun n hn => upd_dom hn) (put_defers _ _ _)⟩⟩

theorem pan_wpOp {ops : List Oper} {i : Nat} {S : St} {φ : Foot} {pv : Value} {ws : List (Nat × AObj)} {a : Act} {w : World} {K : Act → World → Prop} (h : LPan P ops.toArray i S φ pv ws)
    (hI : Inv E S a w) (hK : ∀ a' w', Inv E ((S.upd none .top ws).blank ops) a' w' → Q (.panic [{ v := pv, recovered := false }]) a' w') : wpOpIn (FR ro) k P ops.toArray Q i K a w := by
  obtain ⟨o, ho, hnd, hnw, hst⟩ := h
  obtain ⟨ρ, X, hI⟩ := hI
  obtain ⟨h1, h2⟩ := hst S ⟨rfl, fun _ _ => rfl, fun _ _ => rfl, fun _ _ => rfl, hnw⟩ ρ X a w hI.sim
  unfold wpOpIn
  rw [ho]
  simp only [h1, if_true]
  refine wp_of_does hnd h2 (fun _ _ h => h.elim) (fun v w' hr => ?_)
  obtain ⟨rfl, ρ', X', k1, k2⟩ := hr
  exact hK _ _ (Inv.blank ⟨ρ', X', hI.evo k1 k2 (fun n hn => upd_dom hn) rfl⟩)

end

/-! ### The order of the text -/

theorem tr_text {P : Program} {E : Ent} {Q : Exit → Act → World → Prop} {ro : Option Nat} {k : Nat} {ops : List Oper} : ∀ {q : Bool} {pi : Option Nat} {L : List Nat} {S : St} {fs : Foots} {out : St ⊕ (Value × St)}, Tr P ops q pi L S fs out → ∀ {a : Act} {w : World}, Inv E S a w →
    (∀ S' a' w', out = .inl S' → Inv E S' a' w' → Q .normal a' w') → (∀ pv S' a' w', out = .inr (pv, S') → Inv E S' a' w' → Q (.panic [{ v := pv, recovered := false }]) a' w') → wpOpsIn (FR ro) k P ops.toArray Q L a w := by
  intro q pi L S fs out t
  induction t with
  | nil => intro a w hI h1 _; exact h1 _ _ _ rfl hI
  | step hi hl _ _ _ ih =>
    intro a w hI h1 h2
    rw [wpOpsIn_cons]
    exact step_wpOp hi hl hI fun a' w' hI' => ih hI' h1 h2
  | pan hl _ _ =>
    intro a w hI _ h2
    rw [wpOpsIn_cons]
    exact pan_wpOp hl hI fun a' w' hI' => h2 _ _ _ _ rfl hI'

/-! ### Any order -/

/-- Two operations that do not touch one thing. -/
structure Ind (ops : List Oper) (a b : Nat × Foot) : Prop where
  sl : ∀ x y, ops[a.1]? = some x → ops[b.1]? = some y → (∀ d, x.dst = some d → d ∉ y.looksAt ops.toArray) ∧ (∀ d, x.dst = some d → y.dst ≠ some d) ∧ (∀ d, y.dst = some d → d ∉ x.looksAt ops.toArray)
  h1 : ∀ n, (n ∈ a.2.wr ∨ n ∈ a.2.nw) → n ∉ b.2.rd ∧ n ∉ b.2.wr ∧ n ∉ b.2.nw
  h2 : ∀ n, (n ∈ b.2.wr ∨ n ∈ b.2.nw) → n ∉ a.2.rd ∧ n ∉ a.2.wr ∧ n ∉ a.2.nw

theorem disj_spec {a b : List Nat} (h : disj a b = true) : ∀ n, n ∈ a → n ∉ b := by
  intro n hn hb
  simp only [disj, List.all_eq_true, Bool.not_eq_true', List.contains_eq_mem, decide_eq_false_iff_not] at h
  exact h n hn hb

theorem indep_spec {ops : List Oper} {a b : Nat × Foot} (h : indep ops a b = true) : Ind ops a b := by
  simp only [indep, Bool.and_eq_true] at h
  obtain ⟨⟨⟨⟨⟨⟨⟨⟨h0, h1⟩, h2⟩, h3⟩, h4⟩, h5⟩, h6⟩, h7⟩, h8⟩ := h
  refine ⟨fun x y hx hy => ?_, fun n hn => ⟨?_, ?_, ?_⟩, fun n hn => ⟨?_, ?_, ?_⟩⟩
  · rw [hx, hy] at h0
    exact Oper.apart_spec h0
  · exact hn.elim (disj_spec h1 n) (disj_spec h5 n)
  · exact hn.elim (disj_spec h2 n) (disj_spec h6 n)
  · exact hn.elim (fun k hb => disj_spec h8 n hb k) (disj_spec h4 n)
  · exact hn.elim (disj_spec h3 n) (disj_spec h7 n)
  · exact hn.elim (fun k hb => disj_spec h2 n hb k) (disj_spec h8 n)
  · exact hn.elim (fun k hb => disj_spec h6 n hb k) (fun k hb => disj_spec h4 n hb k)

theorem okPairs_spec {ops : List Oper} : ∀ {l : Foots}, okPairs ops l = true → l.Pairwise fun b a => bef ops b.1 a.1 = true ∨ Ind ops a b
  | [], _ => .nil
  | b :: l, h => by
    simp only [okPairs, okPairsT, Bool.and_eq_true, List.all_eq_true, Bool.or_eq_true] at h
    exact .cons (fun a ha => (h.1 a ha).imp id indep_spec) (okPairs_spec h.2)

theorem sl_upd_ne {S : St} {dst : Option Tmp} {r : AV} {ws : List (Nat × AObj)} {t : Nat} (h : dst ≠ some t) : (S.upd dst r ws).sl t = S.sl t := by
  rcases St.sl_put (S.write ws) dst r t with ⟨_, h2⟩ | ⟨h1, _⟩
  · exact absurd h2 h
  · exact h1

theorem n_upd {S : St} {dst : Option Tmp} {r : AV} {ws : List (Nat × AObj)} : (S.upd dst r ws).n = S.n := by
  simp only [St.upd, St.n_put, St.write]

theorem hp_upd_ne {S : St} {dst : Option Tmp} {r : AV} {ws : List (Nat × AObj)} {n : Nat} (h : lkp ws n = none) : (S.upd dst r ws).hp n = S.hp n := by
  rw [St.hp_upd, h]

theorem upd_comm {S : St} {d d' : Option Tmp} {r r' : AV} {ws ws' : List (Nat × AObj)} (hd : ∀ t, d = some t → d' ≠ some t) (hw : ∀ n, lkp ws n ≠ none → lkp ws' n = none) :
    (S.upd d r ws).upd d' r' ws' = (S.upd d' r' ws').upd d r ws := by
  have h1 : ((S.upd d r ws).upd d' r' ws').n = ((S.upd d' r' ws').upd d r ws).n := by simp only [n_upd]
  have h2 : ((S.upd d r ws).upd d' r' ws').hp = ((S.upd d' r' ws').upd d r ws).hp := by
    funext n
    rw [St.hp_upd, St.hp_upd, St.hp_upd, St.hp_upd]
    cases h : lkp ws n with
    | none => cases lkp ws' n <;> rfl
    | some x => rw [hw n (by rw [h]; simp)]
  have h3 : ((S.upd d r ws).upd d' r' ws').sl = ((S.upd d' r' ws').upd d r ws).sl := by
    funext t
    have e1 : ∀ (T : St) (u : AV) (us : List (Nat × AObj)) (q : Option Tmp), (T.upd q u us).sl t = if q = some t then u else T.sl t := fun T u us q => by
      by_cases hq : q = some t
      · rw [if_pos hq]
        rcases St.sl_put (T.write us) q u t with ⟨h, _⟩ | ⟨_, h⟩
        · exact h
        · exact absurd hq h
      · rw [if_neg hq]; exact sl_upd_ne hq
    rw [e1, e1, e1, e1]
    by_cases h : d = some t
    · rw [if_neg (hd t h), if_pos h, if_pos h]
    · rw [if_neg h, if_neg h]
  cases hA : (S.upd d r ws).upd d' r' ws'
  cases hB : (S.upd d' r' ws').upd d r ws
  rw [hA, hB] at h1 h2 h3
  simp only at h1 h2 h3
  rw [h1, h2, h3]

/-- What agrees with a frame agrees with the one behind an operation that is apart. -/
theorem agree_upd {ops : List Oper} {o : Oper} {φ : Foot} {S S' : St} {d : Option Tmp} {r : AV} {ws : List (Nat × AObj)} (hd : ∀ t, d = some t → t ∉ o.looksAt ops.toArray) (hw : ∀ n, lkp ws n ≠ none → n ∉ φ.rd ∧ n ∉ φ.wr) :
    Agree ops.toArray o φ S S' ↔ Agree ops.toArray o φ (S.upd d r ws) S' := by
  have e1 : ∀ t, t ∈ o.looksAt ops.toArray → (S.upd d r ws).sl t = S.sl t := fun t ht => sl_upd_ne fun e => hd t e ht
  have e2 : ∀ n, n ∈ φ.rd → (S.upd d r ws).hp n = S.hp n := fun n hn => hp_upd_ne (by
    cases h : lkp ws n with
    | none => rfl
    | some x => exact absurd hn (hw n (by rw [h]; simp)).1)
  have e3 : ∀ n, n ∈ φ.wr → (S.upd d r ws).hp n = S.hp n := fun n hn => hp_upd_ne (by
    cases h : lkp ws n with
    | none => rfl
    | some x => exact absurd hn (hw n (by rw [h]; simp)).2)
  constructor
  · intro h
    exact ⟨by rw [h.n, n_upd], fun t ht => by rw [h.sl t ht, e1 t ht], fun n hn => by rw [h.rd n hn, e2 n hn], fun n hn => by rw [h.wr n hn, e3 n hn], h.nw⟩
  · intro h
    exact ⟨by rw [h.n, n_upd], fun t ht => by rw [h.sl t ht, e1 t ht], fun n hn => by rw [h.rd n hn, e2 n hn], fun n hn => by rw [h.wr n hn, e3 n hn], h.nw⟩

def remN (L : List Nat) (i : Nat) : List Nat := L.filter fun k => k != i

theorem remN_head {i : Nat} {L : List Nat} (h : i ∉ L) : remN (i :: L) i = L := by
  unfold remN
  rw [List.filter_cons_of_neg (by simp)]
  exact List.filter_eq_self.2 fun k hk => by
    have : k ≠ i := fun e => h (by rw [← e]; exact hk)
    simpa using this

theorem remN_cons {i j : Nat} {L : List Nat} (h : j ≠ i) : remN (j :: L) i = j :: remN L i := by
  unfold remN
  exact List.filter_cons_of_pos (by simpa using h)

theorem foldl_or {α : Type} (f : α → Bool) (g : α → Nat) (j : Nat) : ∀ (l : List α) (s : Nat), (l.foldl (fun s x => bif f x then s ||| g x else s) s).testBit j = true → s.testBit j = true ∨ ∃ x, x ∈ l ∧ f x = true ∧ (g x).testBit j = true
  | [], s, h => .inl h
  | x :: l, s, h => by
    simp only [List.foldl_cons] at h
    rcases foldl_or f g j l _ h with h | ⟨y, h1, h2, h3⟩
    · cases hf : f x with
      | true =>
        rw [hf, cond_true, Nat.testBit_or, Bool.or_eq_true] at h
        exact h.imp id fun h => ⟨x, by simp, hf, h⟩
      | false => rw [hf] at h; exact .inl h
    · exact .inr ⟨y, by simp [h1], h2, h3⟩

theorem descMask_spec {ops : List Oper} {i j : Nat} (h : (descMask ops i).testBit j = true) : bef ops j i = true := by
  unfold descMask at h
  rcases foldl_or (fun j => bef ops j i) (fun j => 2 ^ j) j _ 0 h with h | ⟨x, _, h2, h3⟩
  · simp at h
  · have : x = j := by simpa [Nat.testBit_two_pow] using h3
    rw [← this]; exact h2

theorem ws_nil {φ : Foot} {ws : List (Nat × AObj)} (h : ∀ n, lkp ws n ≠ none → n ∈ φ.wr ∨ n ∈ φ.nw) (hq : quietF φ = true) : ws = [] := by
  simp only [quietF, Bool.and_eq_true, List.isEmpty_iff] at hq
  cases ws with
  | nil => rfl
  | cons p ws =>
    obtain ⟨n, x⟩ := p
    have := h n (by simp [lkp])
    rw [hq.1, hq.2] at this
    rcases this with h | h <;> cases h

theorem blank_upd (ops : List Oper) (S : St) (d : Option Tmp) (hd : ∀ t, d = some t → wrt ops t = true) (r : AV) (ws : List (Nat × AObj)) : ((S.upd d r []).upd none .top ws).blank ops = (S.upd none .top ws).blank ops := by
  unfold St.blank
  have h1 : ((S.upd d r []).upd none .top ws).n = (S.upd none .top ws).n := by simp only [n_upd]
  have h2 : ((S.upd d r []).upd none .top ws).hp = (S.upd none .top ws).hp := by
    funext n
    rw [St.hp_upd, St.hp_upd, St.hp_upd]
    rfl
  have h3 : (fun t => bif wrt ops t then .top else ((S.upd d r []).upd none .top ws).sl t : Nat → AV) = fun t => bif wrt ops t then .top else (S.upd none .top ws).sl t := by
    funext t
    cases hw : wrt ops t with
    | true => rfl
    | false =>
      show (S.upd d r []).sl t = S.sl t
      exact sl_upd_ne fun e => by rw [hd t e] at hw; cases hw
  rw [h1, h2, h3]

/-- **What may come up now can be taken first.** -/
theorem Tr.front {P : Program} {ops : List Oper} {i : Nat} : ∀ {q : Bool} {pi : Option Nat} {L : List Nat} {S : St} {fs : Foots} {out : St ⊕ (Value × St)}, Tr P ops q pi L S fs out → fs.Pairwise (fun a b => bef ops b.1 a.1 = true ∨ Ind ops a b) → L.Nodup → i ∈ L → (∀ j, j ∈ L → bef ops i j = false) →
    (∃ o φ r ws fs', ops[i]? = some o ∧ LStep P ops.toArray i S φ r ws ∧ (q = true → ws = [] ∧ quietF φ = true) ∧ (∀ i', pi = some i' → bef ops i' i = true ∨ quietF φ = true) ∧ Tr P ops q pi (remN L i) (S.upd o.dst r ws) fs' out ∧ fs'.Sublist fs ∧ (i, φ) ∈ fs) ∨
    (∃ φ pv ws, LPan P ops.toArray i S φ pv ws ∧ out = .inr (pv, (S.upd none .top ws).blank ops) ∧ (i, φ) ∈ fs ∧ q = false ∧ pi = some i) := by
  intro q pi L S fs out t
  induction t with
  | nil => intro _ _ h; cases h
  | step hi hl hq hpi ht ih =>
    rename_i q pi j o L S φ r ws fs out
    intro hp hnd hiL hno
    have hnd' := List.nodup_cons.1 hnd
    have hp' := List.pairwise_cons.1 hp
    by_cases hij : i = j
    · subst hij
      exact .inl ⟨o, φ, r, ws, fs, hi, hl, hq, hpi, by rw [remN_head hnd'.1]; exact ht, List.sublist_cons_self _ _, by simp⟩
    · have hiL' : i ∈ L := by rcases List.mem_cons.1 hiL with h | h; exact absurd h hij; exact h
      have hbf : bef ops i j = false := hno j (by simp)
      obtain ⟨oj, hoj, hjd, hjn, hjf, hjs⟩ := hl
      have hojo : oj = o := by rw [show ops.toArray[j]? = ops[j]? by simp, hi] at hoj; cases hoj; rfl
      subst hojo
      rcases ih hp'.2 hnd'.2 hiL' (fun k hk => hno k (by simp [hk])) with ⟨o', φ', r', ws', fs', h1, h2, hq', hpi', h3, h4, h5⟩ | ⟨φ', pv, ws', h2, h4, h5, h6, h7⟩
      · have hind : Ind ops (j, φ) (i, φ') := (hp'.1 _ h5).resolve_left (by rw [hbf]; simp)
        obtain ⟨s1, s2, s3⟩ := hind.sl oj o' hi h1
        obtain ⟨oi, hoi, hid, hin, hif, his⟩ := h2
        have hoio : oi = o' := by rw [show ops.toArray[i]? = ops[i]? by simp, h1] at hoi; cases hoi; rfl
        subst hoio
        have hwj : ∀ n, lkp ws n ≠ none → n ∉ φ'.rd ∧ n ∉ φ'.wr := fun n hn => by have := hind.h1 n (hjn n hn); exact ⟨this.1, this.2.1⟩
        have hwi : ∀ n, lkp ws' n ≠ none → n ∉ φ.rd ∧ n ∉ φ.wr := fun n hn => by have := hind.h2 n (hin n hn); exact ⟨this.1, this.2.1⟩
        have hcom : ∀ n, lkp ws n ≠ none → lkp ws' n = none := fun n hn => by
          cases h : lkp ws' n with
          | none => rfl
          | some x =>
            have k1 := hind.h1 n (hjn n hn)
            rcases hin n (by rw [h]; simp) with k | k
            · exact absurd k k1.2.1
            · exact absurd k k1.2.2
        refine .inl ⟨oi, φ', r', ws', (j, φ) :: fs', h1, ⟨oi, hoi, hid, hin, fun n hn => ?_, fun S' ha => his S' ((agree_upd s1 hwj).1 ha)⟩, hq', hpi', ?_, h4.cons_cons _, by simp [h5]⟩
        · have := hif n hn
          cases hS : S.hp n with
          | none => rfl
          | some x => exact absurd this (upd_dom (by rw [hS]; simp))
        · rw [remN_cons (Ne.symm hij)]
          refine .step hi ⟨oj, hoj, hjd, hjn, fun n hn => ?_, fun S' ha => hjs S' ((agree_upd s3 hwi).2 ha)⟩ hq hpi ?_
          · have : lkp ws' n = none := by
              cases h : lkp ws' n with
              | none => rfl
              | some x => exact absurd hn (hind.h2 n (hin n (by rw [h]; simp))).2.2
            rw [hp_upd_ne this]; exact hjf n hn
          · rw [upd_comm (fun t ht hd => s2 t (by rw [hd]) ht) (fun n hn => by
              cases h : lkp ws n with
              | none => rfl
              | some x => exact absurd (hcom n (by rw [h]; simp)) hn)]
            exact h3
      · have hind : Ind ops (j, φ) (i, φ') := (hp'.1 _ h5).resolve_left (by rw [hbf]; simp)
        have hqj : quietF φ = true := (hpi i h7).resolve_left (by rw [hbf]; simp)
        have hwj0 : ws = [] := ws_nil hjn hqj
        subst hwj0
        obtain ⟨oi, hoi, hid, hnw, his⟩ := h2
        have h1 : ops[i]? = some oi := by simpa using hoi
        obtain ⟨s1, s2, s3⟩ := hind.sl oj oi hi h1
        refine .inr ⟨φ', pv, ws', ⟨oi, hoi, hid, fun n hn => ?_, fun S' ha => his S' ((agree_upd s1 (fun n hn => absurd rfl hn)).1 ha)⟩, by rw [h4, blank_upd ops _ _ (wrt_of hi)], by simp [h5], h6, h7⟩
        have := hnw n hn
        cases hS : S.hp n with
        | none => rfl
        | some x => exact absurd this (upd_dom (by rw [hS]; simp))
  | pan hl ht ih =>
    rename_i j L S S'' φ pv ws fs
    intro hp hnd hiL hno
    have hnd' := List.nodup_cons.1 hnd
    have hp' := List.pairwise_cons.1 hp
    by_cases hij : i = j
    · subst hij
      exact .inr ⟨φ, pv, ws, hl, rfl, by simp, rfl, rfl⟩
    · have hiL' : i ∈ L := by rcases List.mem_cons.1 hiL with h | h; exact absurd h hij; exact h
      have hndesc : (descMask ops j).testBit i = false := by
        cases h : (descMask ops j).testBit i with
        | false => rfl
        | true => have := hno j (by simp); rw [descMask_spec h] at this; cases this
      obtain ⟨oj, hoj, hjd, hjnw, hjs⟩ := hl
      have hi : ops[j]? = some oj := by simpa using hoj
      rcases ih hp'.2 (hnd'.2.filter _) (List.mem_filter.2 ⟨hiL', by rw [hndesc]; rfl⟩) (fun k hk => hno k (by simp [(List.mem_filter.1 hk).1])) with ⟨o', φ', r', ws', fs', h1, h2, hq', hpi', h3, h4, h5⟩ | ⟨_, _, _, _, h4, _⟩
      · have hbf : bef ops i j = false := hno j (by simp)
        have hind : Ind ops (j, φ) (i, φ') := (hp'.1 _ h5).resolve_left (by rw [hbf]; simp)
        obtain ⟨s1, s2, s3⟩ := hind.sl oj o' hi h1
        obtain ⟨oi, hoi, hid, hin, hif, his⟩ := h2
        have hoio : oi = o' := by rw [show ops.toArray[i]? = ops[i]? by simp, h1] at hoi; cases hoi; rfl
        subst hoio
        obtain ⟨hw0, hqi⟩ := hq' rfl
        subst hw0
        refine .inl ⟨oi, φ', r', [], (j, φ) :: fs', h1, ⟨oi, hoi, hid, hin, hif, his⟩, (fun h => by cases h), fun _ _ => .inr hqi, ?_, h4.cons_cons _, by simp [h5]⟩
        rw [remN_cons (Ne.symm hij), ← blank_upd ops S oi.dst (wrt_of h1) r' ws]
        refine .pan (S' := S'') ⟨oj, hoj, hjd, fun n hn => by rw [hp_upd_ne rfl]; exact hjnw n hn, fun S' ha => hjs S' ((agree_upd s3 (fun n hn => absurd rfl hn)).2 ha)⟩ ?_
        have : (remN L i).filter (fun j_1 => !(descMask ops j).testBit j_1) = remN (L.filter fun j_1 => !(descMask ops j).testBit j_1) i := by
          unfold remN
          rw [List.filter_filter, List.filter_filter]
          congr 1
          funext k
          rw [Bool.and_comm]
        rw [this]; exact h3
      · cases h4

theorem befs_spec {ops : List Oper} : ∀ (os pre : List Oper) (acc : List Nat), ops = pre ++ os → pre.length = acc.length →
    (∀ (i m : Nat), acc[i]? = some m → ∀ j, m.testBit j = true → ∃ o e, ops[i]? = some o ∧ e ∈ o.after ∧ Region.binds .any e = true ∧ (e.on = j ∨ (acc.getD e.on 0).testBit j = true)) →
    ∀ (i m : Nat), (befs os acc)[i]? = some m → ∀ j, m.testBit j = true → ∃ o e, ops[i]? = some o ∧ e ∈ o.after ∧ Region.binds .any e = true ∧ (e.on = j ∨ ((befs os acc).getD e.on 0).testBit j = true)
  | [], _, acc, _, _, hP, i, m, hi, j, hj => hP i m hi j hj
  | o :: os, pre, acc, he, hl, hP, i, m, hi, j, hj => by
    simp only [befs] at hi ⊢
    refine befs_spec os (pre ++ [o]) _ (by rw [he]; simp) (by simp [hl]) (fun i m hi j hj => ?_) i m hi j hj
    have hext : ∀ k, (acc.getD k 0).testBit j = true → ((acc ++ [o.after.toList.foldl (fun s e => bif Region.binds .any e then s ||| 2 ^ e.on ||| acc.getD e.on 0 else s) 0]).getD k 0).testBit j = true := fun k hk => by
      by_cases hlt : k < acc.length
      · rw [List.getD_eq_getElem?_getD, List.getElem?_append_left hlt, ← List.getD_eq_getElem?_getD]; exact hk
      · rw [List.getD_eq_getElem?_getD, List.getElem?_eq_none (by omega)] at hk; simp at hk
    by_cases hlt : i < acc.length
    · rw [List.getElem?_append_left hlt] at hi
      obtain ⟨o', e, h1, h2, h3, h4⟩ := hP i m hi j hj
      exact ⟨o', e, h1, h2, h3, h4.imp id (hext _)⟩
    · rw [List.getElem?_append_right (by omega)] at hi
      have hieq : i = acc.length := by
        rcases Nat.lt_or_ge (i - acc.length) 1 with h | h
        · omega
        · rw [List.getElem?_eq_none (by simpa using h)] at hi; cases hi
      subst hieq
      simp only [Nat.sub_self, List.getElem?_cons_zero, Option.some.injEq] at hi
      subst hi
      have key : ∀ (l : List Edge) (s : Nat), (l.foldl (fun s e => bif Region.binds .any e then s ||| 2 ^ e.on ||| acc.getD e.on 0 else s) s).testBit j = true → s.testBit j = true ∨ ∃ e, e ∈ l ∧ Region.binds .any e = true ∧ (e.on = j ∨ (acc.getD e.on 0).testBit j = true) := by
        intro l
        induction l with
        | nil => intro s h; exact .inl h
        | cons e l ih =>
          intro s h
          simp only [List.foldl_cons] at h
          rcases ih _ h with h | ⟨e', h1, h2, h3⟩
          · cases hb : Region.binds .any e with
            | false => rw [hb] at h; exact .inl h
            | true =>
              rw [hb, cond_true, Nat.testBit_or, Nat.testBit_or, Bool.or_eq_true, Bool.or_eq_true] at h
              rcases h with (h | h) | h
              · exact .inl h
              · exact .inr ⟨e, by simp, hb, .inl (by simpa [Nat.testBit_two_pow] using h)⟩
              · exact .inr ⟨e, by simp, hb, .inr h⟩
          · exact .inr ⟨e', by simp [h1], h2, h3⟩
      rcases key _ 0 hj with h | ⟨e, h1, h2, h3⟩
      · simp at h
      · exact ⟨o, e, by rw [he, ← hl]; simp, by simpa using h1, h2, h3.imp id (hext _)⟩

theorem bef_spec {ops : List Oper} {i j : Nat} (h : bef ops i j = true) : ∃ o e, ops[i]? = some o ∧ e ∈ o.after ∧ Region.binds .any e = true ∧ (e.on = j ∨ bef ops e.on j = true) := by
  unfold bef befT at h
  cases hi : (befs ops [])[i]? with
  | none => rw [List.getD_eq_getElem?_getD, hi] at h; simp at h
  | some m =>
    rw [List.getD_eq_getElem?_getD, hi] at h
    exact befs_spec ops [] [] rfl rfl (fun i m hi => by simp at hi) i m hi j h

/-- Each operation waits for earlier ones alone. -/
def edgesB (ops : List Oper) : Bool := ops.zipIdx.all fun p => p.1.after.toList.all fun e => !Region.binds .any e || Nat.blt e.on p.2

theorem edgesB_spec {ops : List Oper} (h : edgesB ops = true) {i : Nat} {o : Oper} (hi : ops[i]? = some o) {e : Edge} (he : e ∈ o.after) (hb : Region.binds .any e = true) : e.on < i := by
  simp only [edgesB, List.all_eq_true] at h
  have h1 := h (o, i) (by
    rw [List.mem_iff_getElem?]
    exact ⟨i, by simp [List.getElem?_zipIdx, hi]⟩) e (by simpa using he)
  simp only [hb, Bool.not_true, Bool.false_or] at h1
  simpa using h1

theorem min_mem : ∀ (L : List Nat), L ≠ [] → ∃ m, m ∈ L ∧ ∀ k, k ∈ L → m ≤ k
  | [], h => absurd rfl h
  | [a], _ => ⟨a, by simp, fun k hk => by simp at hk; omega⟩
  | a :: b :: L, _ => by
    obtain ⟨m, h1, h2⟩ := min_mem (b :: L) (by simp)
    by_cases hle : a ≤ m
    · exact ⟨a, by simp, fun k hk => by
        rcases List.mem_cons.1 hk with rfl | hk
        · exact Nat.le_refl _
        · exact Nat.le_trans hle (h2 k hk)⟩
    · exact ⟨m, by simp [h1], fun k hk => by
        rcases List.mem_cons.1 hk with rfl | hk
        · omega
        · exact h2 k hk⟩

theorem Tr.nilOut {P : Program} {ops : List Oper} {q : Bool} {pi : Option Nat} {S : St} {fs : Foots} {out : St ⊕ (Value × St)} (t : Tr P ops q pi [] S fs out) : out = .inl S := by cases t; rfl

theorem tr_any {P : Program} {E : Ent} {Q : Exit → Act → World → Prop} {ro : Option Nat} {nn : Nat} {ops : List Oper} (hed : edgesB ops = true) : ∀ (fuel : Nat) {listed : Array Bool} {q : Bool} {pi : Option Nat} {L : List Nat} {S : St} {fs : Foots} {out : St ⊕ (Value × St)} {a : Act} {w : World},
    Tr P ops q pi L S fs out → fs.Pairwise (fun a b => bef ops b.1 a.1 = true ∨ Ind ops a b) → L.Nodup → listed.size = ops.length → (∀ k, k ∈ L ↔ k < ops.length ∧ listed.getD k true = false) →
    (∀ k, k < ops.length → k ∉ L → ∀ j, bef ops k j = true → j ∉ L) → L.length ≤ fuel → Inv E S a w →
    (∀ S' a' w', out = .inl S' → Inv E S' a' w' → Q .normal a' w') → (∀ pv S' a' w', out = .inr (pv, S') → Inv E S' a' w' → Q (.panic [{ v := pv, recovered := false }]) a' w') → wpAnyIn (FR ro) nn P .any ops.toArray Q fuel listed a w := by
  intro fuel
  have ready0 : ∀ {listed : Array Bool} {L : List Nat}, listed.size = ops.length → (∀ k, k ∈ L ↔ k < ops.length ∧ listed.getD k true = false) → Region.ready .any ops.toArray listed = [] → L = [] := by
    intro listed L hsz hL hr
    refine Classical.byContradiction fun hne => ?_
    obtain ⟨m, hm, hmin⟩ := min_mem L hne
    have hmL := (hL m).1 hm
    have : m ∈ Region.ready .any ops.toArray listed := mem_ready.2 ⟨hmL.2, ops[m], by simp [hmL.1], fun e he hb => by
      have hlt := edgesB_spec hed (List.getElem?_eq_getElem hmL.1) he hb
      have hn : e.on ∉ L := fun h => by have := hmin _ h; omega
      have hlt' : e.on < listed.size := by rw [hsz]; omega
      cases hg : listed.getD e.on true with
      | false => exact absurd ((hL e.on).2 ⟨by omega, hg⟩) hn
      | true =>
        rw [Array.getD_eq_getD_getElem?, Array.getElem?_eq_getElem hlt'] at hg ⊢
        exact hg⟩
    rw [hr] at this; cases this
  have listedAll : ∀ {listed : Array Bool} {L : List Nat}, (∀ k, k ∈ L ↔ k < ops.length ∧ listed.getD k true = false) → L = [] → Region.ready .any ops.toArray listed = [] := by
    intro listed L hL hn
    refine List.eq_nil_iff_forall_not_mem.2 fun j hj => ?_
    obtain ⟨h1, o, h2, _⟩ := mem_ready.1 hj
    have hlt : j < ops.length := by have := (Array.getElem?_eq_some_iff.1 h2).1; simpa using this
    have := (hL j).2 ⟨hlt, h1⟩
    rw [hn] at this; cases this
  induction fuel with
  | zero =>
    intro listed q pi L S fs out a w t hp hnd hsz hL hdc hfu hI h1 h2
    have hn : L = [] := List.eq_nil_of_length_eq_zero (by omega)
    subst hn
    exact ⟨listedAll hL rfl, h1 S a w t.nilOut hI⟩
  | succ fuel ih =>
    intro listed q pi L S fs out a w t hp hnd hsz hL hdc hfu hI h1 h2
    refine ⟨fun hr => ?_, fun i hi => ?_⟩
    · have hn := ready0 hsz hL hr
      subst hn
      exact h1 S a w t.nilOut hI
    · obtain ⟨hi1, o, hi2, hi3⟩ := mem_ready.1 hi
      have hilt : i < ops.length := by have := (Array.getElem?_eq_some_iff.1 hi2).1; simpa using this
      have hio : ops[i]? = some o := by simpa using hi2
      have hiL : i ∈ L := (hL i).2 ⟨hilt, hi1⟩
      have dir : ∀ e, e ∈ o.after → Region.binds .any e = true → e.on < ops.length ∧ e.on ∉ L := fun e he hb => by
        have hl := hi3 e he hb
        have hlt' : e.on < listed.size := by
          rcases Nat.lt_or_ge e.on listed.size with h | h
          · exact h
          · rw [Array.getD_eq_getD_getElem?, Array.getElem?_eq_none h] at hl; cases hl
        refine ⟨by rw [← hsz]; exact hlt', fun hm => ?_⟩
        have := ((hL e.on).1 hm).2
        rw [Array.getD_eq_getD_getElem?, Array.getElem?_eq_getElem hlt'] at hl this
        simp at hl this; rw [hl] at this; cases this
      have hno : ∀ j, j ∈ L → bef ops i j = false := fun j hj => by
        cases hb : bef ops i j with
        | false => rfl
        | true =>
          obtain ⟨o', e, k1, k2, k3, k4⟩ := bef_spec hb
          rw [hio] at k1; cases k1
          obtain ⟨d1, d2⟩ := dir e k2 k3
          rcases k4 with k4 | k4
          · rw [k4] at d2; exact absurd hj d2
          · exact absurd hj (hdc e.on d1 d2 j k4)
      rcases t.front hp hnd hiL hno with ⟨o', φ, r, ws, fs', k1, k2, _, _, k3, k4, _⟩ | ⟨φ, pv, ws, k2, k3, _⟩
      · refine step_wpOp k1 k2 hI fun a' w' hI' => ?_
        have hmem : ∀ k, k ∈ remN L i ↔ k ∈ L ∧ k ≠ i := fun k => by unfold remN; rw [List.mem_filter]; simp
        refine ih k3 (hp.sublist k4) (hnd.filter _) (by simp [hsz]) (fun k => ?_) (fun k hk hkn j hj hm => ?_) ?_ hI' h1 h2
        · rw [hmem]
          by_cases hki : k = i
          · subst hki
            constructor
            · intro h; exact absurd rfl h.2
            · intro h
              have hlt' : k < listed.size := by rw [hsz]; exact hilt
              have := h.2
              rw [Array.getD_eq_getD_getElem?, Array.getElem?_setIfInBounds_self_of_lt hlt'] at this
              cases this
          · rw [getD_set_ne true (Ne.symm hki), hL k]
            exact ⟨fun h => h.1, fun h => ⟨h, hki⟩⟩
        · have hjL := ((hmem j).1 hm).1
          by_cases hki : k = i
          · subst hki; have := hno j hjL; rw [hj] at this; cases this
          · exact hdc k hk (fun h => hkn ((hmem k).2 ⟨h, hki⟩)) j hj hjL
        · have : (remN L i).length < L.length := by
            unfold remN
            refine List.length_filter_lt_length_iff_exists.2 ⟨i, hiL, by simp⟩
          omega
      · exact pan_wpOp k2 hI fun a' w' hI' => h2 pv _ a' w' k3 hI'

end Go.Sym

/-
Ranges over functions: the loop's record in the world, a round as what turns owned memory; what an iterator is said to do ('SeqOK').
-/
set_option linter.unusedSimpArgs false
set_option linter.unusedVariables false
namespace Go.Sym

def oCells : Obj → Bool
  | .cells _ _ _ => true
  | _ => false

/-- A block that is no row of cells turns. -/
theorem Ext.putObj {w : World} {l : Nat} {o o' : Obj} (h : w.heap[l]? = some o) (hc : oCells o = false) : Ext (fun b => b = l) w (w.putObj l o') := by
  refine ⟨rfl, rfl, rfl, by simp, fun b _ hb => World.putObj_heap_other hb, fun b c T z hb => ?_⟩
  have hne : b ≠ l := fun e => by subst e; rw [h] at hb; cases hb; cases hc
  exact ⟨c, z, by rw [World.putObj_heap_other hne]; exact hb, rfl⟩

theorem ObjAt.ne {ρ : Nat → Option Nat} {X : Nat → Prop} {w : World} {n l b : Nat} {x : AObj} {o : Obj} (h : ObjAt ρ X w n x) (ha : x.alive = true) (hb : ρ n = some b) (hl : w.heap[l]? = some o) (hc : oCells o = false) : b ≠ l := fun e => by
  obtain ⟨c, T, z, h1⟩ := h.cells ha hb
  subst e
  rw [hl] at h1; cases h1; cases hc

theorem Sim.putObj {S : St} {ρ : Nat → Option Nat} {X : Nat → Prop} {a : Act} {w : World} (hs : Sim S ρ X a w) {l : Nat} {o : Obj} (o' : Obj) (hl : w.heap[l]? = some o) (hc : oCells o = false) (hX : X l) : Sim S ρ X a (w.putObj l o') := by
  have g : Goes ρ ρ X X (fun b => b = l) w (w.putObj l o') := ⟨.putObj hl hc, fun b _ hn e => hn (by rw [e]; exact hX), fun _ _ h => h⟩
  refine ⟨hs.n, fun t v h => (hs.slots t v h).mono g fun _ _ => rfl, fun n x h => ?_, hs.inj, hs.own, hs.closedS, hs.closedH⟩
  cases ha : x.alive with
  | false => cases x <;> first | trivial | cases ha
  | true => exact (hs.objs n x h).mono g rfl (fun b hb => World.putObj_heap_other ((hs.objs n x h).ne ha hb hl hc)) fun _ _ => rfl

/-- The same entry, seen over another world that differs in a block that is no row of cells alone. -/
theorem InvAt.putObj2 {E : Ent} {S : St} {ρ : Nat → Option Nat} {X : Nat → Prop} {a : Act} {w : World} (h : InvAt E S ρ X a w) {l : Nat} {o oe : Obj} (o' : Obj) (hl : w.heap[l]? = some o) (hc : oCells o = false) (hle : E.w.heap[l]? = some oe) (hX : X l)
    (hm : ∀ c, o ≠ .deferred c) : InvAt { E with w := E.w.putObj l o' } S ρ X a (w.putObj l o') := by
  have hlt : l < w.heap.size := (Array.getElem?_eq_some_iff.1 hl).1
  have hlte : l < E.w.heap.size := (Array.getElem?_eq_some_iff.1 hle).1
  refine ⟨h.sim.putObj o' hl hc hX, ⟨h.ext.os, h.ext.tape, h.ext.output, by simpa using h.ext.size, fun b hb hn => ?_, fun b c T z hb => ?_⟩, fun b hb => h.xs b (by simpa using hb), fun n x b h1 h2 h3 => (h.own n x b h1 h2 h3).imp (fun k => by simpa using k) id, h.same, ?_⟩
  · by_cases e : b = l
    · subst e; rw [World.putObj_heap_same hlt, World.putObj_heap_same hlte]
    · rw [World.putObj_heap_other e, World.putObj_heap_other e]; exact h.ext.keep b (by simpa using hb) hn
  · by_cases e : b = l
    · subst e
      rw [World.putObj_heap_same hlte] at hb
      exact ⟨c, z, by rw [World.putObj_heap_same hlt]; exact hb, rfl⟩
    · rw [World.putObj_heap_other e] at hb ⊢; exact h.ext.shape b c T z hb
  · obtain ⟨ms, k1, kn, k0, k2⟩ := h.marks
    refine ⟨ms, k1, kn, k0, fun D hD => ⟨by simpa using (k2 D hD).1, (k2 D hD).2.1, ?_⟩⟩
    have := (k2 D hD).2.2
    rw [World.putObj_heap_other fun e => by subst e; rw [hl] at this; cases this; exact hm _ rfl]
    exact this

theorem InvAt.putObj {E : Ent} {S : St} {ρ : Nat → Option Nat} {X : Nat → Prop} {a : Act} {w : World} (h : InvAt E S ρ X a w) {l : Nat} {o : Obj} (o' : Obj) (hl : w.heap[l]? = some o) (hc : oCells o = false) (hle : E.w.heap.size ≤ l) (hX : X l)
    (hm : ∀ c, o ≠ .deferred c) : InvAt E S ρ X a (w.putObj l o') := by
  refine ⟨h.sim.putObj o' hl hc hX, ⟨h.ext.os, h.ext.tape, h.ext.output, by simpa using h.ext.size, fun b hb hn => ?_, fun b c T z hb => ?_⟩, h.xs, h.own, h.same, ?_⟩
  · rw [World.putObj_heap_other (by omega)]; exact h.ext.keep b hb hn
  · have hb' : b < E.w.heap.size := (Array.getElem?_eq_some_iff.1 hb).1
    rw [World.putObj_heap_other (by omega)]; exact h.ext.shape b c T z hb
  · obtain ⟨ms, k1, kn, k0, k2⟩ := h.marks
    refine ⟨ms, k1, kn, k0, fun D hD => ⟨(k2 D hD).1, (k2 D hD).2.1, ?_⟩⟩
    have := (k2 D hD).2.2
    rw [World.putObj_heap_other fun e => by subst e; rw [hl] at this; cases this; exact hm _ rfl]
    exact this

/-- A new block that nobody reads as data. -/
theorem InvAt.alloc {E : Ent} {S : St} {ρ : Nat → Option Nat} {X : Nat → Prop} {a : Act} {w : World} (h : InvAt E S ρ X a w) (o : Obj) : InvAt E S ρ (fun b => X b ∨ b = w.heap.size) a (w.alloc o) := by
  have hx : Ext (fun _ => False) w (w.alloc o) := .alloc _ w o
  have g : Goes ρ ρ X (fun b => X b ∨ b = w.heap.size) (fun _ => False) w (w.alloc o) := ⟨hx, fun _ _ _ h => h, fun b hb h => h.elim id fun e => by omega⟩
  have hs := h.sim
  have hs' : Sim S ρ (fun b => X b ∨ b = w.heap.size) a (w.alloc o) := by
    refine ⟨hs.n, fun t v h => (hs.slots t v h).mono g fun _ _ => rfl, fun n x h => ?_, hs.inj, fun n x b h1 h2 h3 => .inl (hs.own n x b h1 h2 h3), hs.closedS, hs.closedH⟩
    cases ha : x.alive with
    | false => cases x <;> first | trivial | cases ha
    | true => exact (hs.objs n x h).mono g rfl (fun b hb => hx.keep b ((hs.objs n x h).lt ha hb) fun k => k) fun _ _ => rfl
  refine h.evo hs' ⟨hx.mono fun _ _ k => k.elim, fun b hb => ⟨fun k => k.elim id fun e => by omega, fun k => .inl (.inl k)⟩, fun n x b h1 h2 h3 => .inr ⟨n, x, h1, h2, h3⟩, fun _ _ => rfl⟩ (fun _ h => h) rfl

theorem InvAt.grow {E : Ent} {S : St} {ρ : Nat → Option Nat} {X : Nat → Prop} {a : Act} {w w' : World} (h : InvAt E S ρ X a w) (hx : Ext (fun _ => False) w w') : InvAt E S ρ X a w' := by
  have g : Goes ρ ρ X X (fun _ => False) w w' := ⟨hx, fun _ _ _ h => h, fun _ _ h => h⟩
  have hs := h.sim
  have hs' : Sim S ρ X a w' := by
    refine ⟨hs.n, fun t v h => (hs.slots t v h).mono g fun _ _ => rfl, fun n x h => ?_, hs.inj, hs.own, hs.closedS, hs.closedH⟩
    cases ha : x.alive with
    | false => cases x <;> first | trivial | cases ha
    | true => exact (hs.objs n x h).mono g rfl (fun b hb => hx.keep b ((hs.objs n x h).lt ha hb) fun k => k) fun _ _ => rfl
  exact h.evo hs' ⟨hx.mono fun _ _ k => k.elim, fun b _ => ⟨id, .inl⟩, fun n x b h1 h2 h3 => .inr ⟨n, x, h1, h2, h3⟩, fun _ _ => rfl⟩ (fun _ h => h) rfl

/-- A frame's slots over other owned memory. -/
def St.over (S : St) (S' : St) : St := { S with hp := S'.hp }

/-- **A round, seen from the frame that ranges**: what it did to what is owned, as of a call. -/
theorem InvAt.round {E : Ent} {S S' : St} {ρ ρ' : Nat → Option Nat} {X X' : Nat → Prop} {a a' : Act} {w w' : World} {ds : List Deferred} {nm : Bool} (h : InvAt E S ρ X a w) (hB : InvAt ⟨S.hp, ρ, X, w, ds, nm⟩ S' ρ' X' a' w') : InvAt E (S.over S') ρ' X' a w' := by
  have g : Goes ρ ρ' X X' (Ent.own ⟨S.hp, ρ, X, w, ds, nm⟩) w w' := ⟨hB.ext, fun b _ hn hy => by obtain ⟨o, x, h1, h2, h3⟩ := hy; exact hn (h.sim.own o x b h1 h2 h3), fun b hb k => (hB.xs b hb).1 k⟩
  have hs : Sim (S.over S') ρ' X' a w' := by
    refine ⟨h.sim.n, fun t v ht => (h.sim.slots t v ht).mono g fun o ho => (hB.same o (h.sim.closedS t o ho)).2, hB.sim.objs, hB.sim.inj, hB.sim.own, fun t o ho => (hB.same o (h.sim.closedS t o ho)).1, hB.sim.closedH⟩
  exact h.evo hs ⟨hB.ext, hB.xs, fun o x b h1 h2 h3 => hB.own o x b h1 h2 h3, fun n hn => (hB.same n hn).2⟩ (fun n hn => (hB.same n hn).1) rfl

/-! ### Iterators -/

/-- Data of one cell, as they lie in a slot. -/
def D.scal : D → Bool
  | .int _ _ => true
  | .bool _ => true
  | .str _ => true
  | _ => false
def D.sval : D → Value
  | .int k n => .int k n
  | .bool b => .bool b
  | .str s => .string s
  | _ => undef

theorem repA_scal {ρ : Nat → Option Nat} {X : Nat → Prop} {w : World} {x : D} (h : x.scal = true) : RepA ρ X w (.d x) x.sval := by
  cases x <;> first | cases h | skip
  · exact ⟨_, .d (.int _ _), rfl⟩
  · exact ⟨_, .d (.bool _), rfl⟩
  · exact ⟨_, .d (.str _), rfl⟩

/-- What function f with the data x captured hands to yield, one behind the other: 'ys 0' .. 'ys (n - 1)'; it stops where yield says so; it touches nothing else. -/
def SeqOK (P : Program) (f : FuncId) (x : D) (n : Nat) (ys : Nat → List D) : Prop :=
  ∀ (J : Nat → World → Prop) (Jd : World → Prop) (l b : Nat) (w : World) (X : Nat → Prop) (cs : List Value), RepD X w x cs → RowAt w b 0 cs → (∀ i w w', J i w → Ext (fun _ => False) w w' → J i w') → (∀ w w', Jd w → Ext (fun _ => False) w w' → Jd w') → J 0 w →
    (∀ i, i < n → ∀ w, J i w → ∃ g tmps assign body, (Instr.yield l ((ys i).map D.sval).toArray).run P w = .ok (.round l g tmps assign body) w ∧
      RoundIn (FR none) 0 P l g tmps assign body w fun e w' => ∃ t, e = .returned (.bool t) ∧ (t = true → J (i + 1) w') ∧ (t = false → Jd w')) →
    Calls P f #[.func (.yield l) #[] #[], .pointer (some ⟨b, 0, none⟩)] w fun e w' => ∃ v, e = .returned v ∧ (J n w' ∨ Jd w')

section
variable {F : Fence} {n : Nat} {P : Program} {Q : Exit → Act → World → Prop} {b : Frame} {a : Act} {k : List Item} {cs : List Frame} {w : World}

theorem stepR_scope {c : Code} : step P (lone (b.atR a (.code (.scope c) :: k)) cs w) = .next (lone (b.atR a (.code c :: .inScope c :: k)) cs w) :=
  step_lone_go (by simp [stepG, stepG.exec, Frame.atR])
theorem stepR_inScope {c : Code} : step P (lone (b.atR a (.inScope c :: k)) cs w) = .next (lone (b.atR a k) cs w) :=
  step_lone_go (by simp [stepG, stepG.exec, Frame.atR])

theorem wpIn_scope_straight {c : Code} (h : c.wpIn F n P (Exit.noGoto Q) a w) : (Code.scope c).wpIn F n P Q a w := by
  intro b k cs hro hb hr
  have h0 : (lone (b.atR a (.code (.scope c) :: k)) cs w).fenced P F := fenced_calm hb hr rfl
  obtain ⟨e, a₁, w₁, hq, harr⟩ := h b (.inScope c :: k) cs hro hb hr
  cases e with
  | normal => exact ⟨.normal, a₁, w₁, hq, .head h0 stepR_scope (StepsIn.trans harr (.one (fenced_calm hb hr rfl) stepR_inScope))⟩
  | exit id => exact ⟨.exit id, a₁, w₁, hq, fun k' hk => .head h0 stepR_scope (harr.1 k' (by simp [exitTo, hk])), fun hr' hk => let ⟨k₁, h1, h2⟩ := harr.2 hr' (by simp [exitTo, hk]); ⟨k₁, h1, .head h0 stepR_scope h2⟩⟩
  | goto l => exact hq.elim
  | ret => exact ⟨_, a₁, w₁, hq, .of_steps (.one h0 stepR_scope) harr⟩
  | panic ch => exact ⟨_, a₁, w₁, hq, .of_steps (.one h0 stepR_scope) harr⟩
  | outgrown => exact ⟨_, a₁, w₁, hq, .of_steps (.one h0 stepR_scope) harr⟩
end

end Go.Sym
