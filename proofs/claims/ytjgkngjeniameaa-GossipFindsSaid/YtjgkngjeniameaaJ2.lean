import Derived.Test.YtjgkngjeniameaaJ1
import Derived.OrdersIn
import Derived.RangeFuncRecord
import Derived.Scope
import Derived.Below
import Derived.Laws.Sem
import Derived.Tactics
import GoSem.ClaimChange
set_option linter.unusedSimpArgs false
set_option linter.unusedVariables false
namespace Go.Sym
def wr (hp : Nat → Option AObj) (ws : List (Nat × AObj)) : Nat → Option AObj := fun o => match lkp ws o with
  | some x => some x
  | none => hp o
theorem wr_ne {hp : Nat → Option AObj} {ws : List (Nat × AObj)} {n : Nat} (h : hp n ≠ none) : wr hp ws n ≠ none := by
  unfold wr
  split
  · simp
  · exact h
mutual
def toD (hp : Nat → Option AObj) : AV → Option (Prop × D × List Nat)
  | .d .nils => some (True, .sl [], [])
  | .d x => some (True, x, [])
  | .sl o p e off len => match elsOf hp (.sl o p e off len) with
    | some (s, xs) => some (s, .sl xs, [o])
    | none => none
  | .st fs => match toDs hp fs with
    | some (s, ys, fz) => some (s, .st ys, fz)
    | none => none
  | _ => none
def toDs (hp : Nat → Option AObj) : List AV → Option (Prop × List D × List Nat)
  | [] => some (True, [], [])
  | x :: xs => match toD hp x, toDs hp xs with
    | some (s, y, fz), some (s', ys, fz') => some (s ∧ s', y :: ys, fz ++ fz')
    | _, _ => none
end
def cvt (hp : Nat → Option AObj) : List Bool → List AV → Option (Prop × List AV × List Nat)
  | _, [] => some (True, [], [])
  | [], x :: xs => match cvt hp [] xs with
    | some (s, ys, fz) => bif x.plain then some (s, x :: ys, fz) else none
    | none => none
  | m :: ms, x :: xs => match cvt hp ms xs with
    | some (s, ys, fz) => bif m then match toD hp x with
        | some (s', y, fz') => some (s' ∧ s, .d y :: ys, fz' ++ fz)
        | none => none
      else bif x.plain then some (s, x :: ys, fz) else none
    | none => none
def deads (fz : List Nat) : List (Nat × AObj) := fz.map fun n => (n, .dead)
theorem lkp_deads {fz : List Nat} {n : Nat} {x : AObj} (h : lkp (deads fz) n = some x) : x = .dead ∧ n ∈ fz := by
  have := lkp_mem h
  simp [deads] at this
  obtain ⟨m, h1, rfl, h3⟩ := this
  exact ⟨h3.symm, h1⟩
theorem lkp_deads_mem {fz : List Nat} {n : Nat} (h : n ∈ fz) : lkp (deads fz) n = some .dead := by
  induction fz with
  | nil => cases h
  | cons m fz ih =>
    simp only [deads, List.map_cons, lkp]
    cases hb : m.beq n with
    | true => rfl
    | false =>
      rcases List.mem_cons.1 h with rfl | h
      · simp at hb
      · exact ih h
def less (hp : Nat → Option AObj) (ρ : Nat → Option Nat) (X : Nat → Prop) (fz : List Nat) : Nat → Prop := fun b => X b ∧ ¬ ∃ o x, o ∈ fz ∧ hp o = some x ∧ x.alive = true ∧ ρ o = some b
theorem Sim.kill {S : St} {ρ : Nat → Option Nat} {X : Nat → Prop} {a : Act} {w : World} (hs : Sim S ρ X a w) (fz : List Nat) :
    Sim (S.write (deads fz)) ρ (less S.hp ρ X fz) a w := by
  have g : Goes ρ ρ X (less S.hp ρ X fz) (fun _ => False) w w := ⟨.refl _ _, fun _ _ _ h => h, fun _ _ h => h.1⟩
  have hhp : ∀ o x, (S.write (deads fz)).hp o = some x → (x = .dead ∧ o ∈ fz) ∨ (S.hp o = some x ∧ o ∉ fz) := fun o x h => by
    simp only [St.write] at h
    cases hl : lkp (deads fz) o with
    | some y => simp only [hl, Option.some.injEq] at h; subst h; exact .inl (lkp_deads hl)
    | none =>
      simp only [hl] at h
      refine .inr ⟨h, fun hm => ?_⟩
      rw [lkp_deads_mem hm] at hl; cases hl
  have hdom : ∀ o, S.hp o ≠ none → (S.write (deads fz)).hp o ≠ none := fun o h => wr_ne (ws := deads fz) h
  refine ⟨hs.n, fun t v h => (hs.slots t v h).mono g (fun _ _ => rfl), fun o x h => ?_, fun o o' x x' b h1 h2 h3 h4 h5 h6 => ?_, fun o x b h1 h2 h3 => ?_, fun t o ho => hdom o (hs.closedS t o ho), fun o x h o' ho' => ?_⟩
  · rcases hhp o x h with ⟨rfl, _⟩ | ⟨h, _⟩
    · trivial
    · exact (hs.objs o x h).mono g rfl (fun _ _ => rfl) (fun _ _ => rfl)
  · rcases hhp o x h1 with ⟨rfl, _⟩ | ⟨h1, _⟩
    · cases h2
    · rcases hhp o' x' h3 with ⟨rfl, _⟩ | ⟨h3, _⟩
      · cases h4
      · exact hs.inj o o' x x' b h1 h2 h3 h4 h5 h6
  · rcases hhp o x h1 with ⟨rfl, _⟩ | ⟨h1, hn⟩
    · cases h2
    · refine ⟨hs.own o x b h1 h2 h3, ?_⟩
      rintro ⟨o', x', hm, k1, k2, k3⟩
      have := hs.inj _ _ _ _ _ h1 h2 k1 k2 h3 k3
      subst this; exact hn hm
  · rcases hhp o x h with ⟨rfl, _⟩ | ⟨h, _⟩
    · cases ho'
    · exact hdom o' (hs.closedH o x h o' ho')
theorem elsOf_some {hp : Nat → Option AObj} {o : Nat} {p : List Stp} {e off len : Nat} {s : Prop} {xs : List D} (h : elsOf hp (.sl o p e off len) = some (s, xs)) : ∃ x, hp o = some x ∧ x.alive = true := by
  simp only [elsOf] at h
  split at h
  · exact ⟨_, by assumption, rfl⟩
  · exact ⟨_, by assumption, rfl⟩
  · cases h
mutual
theorem toDC_rep {S : St} {ρ : Nat → Option Nat} {X : Nat → Prop} {a : Act} {w : World} (hs : Sim S ρ X a w) {F : List Nat} : ∀ {x : AV} {s : Prop} {y : D} {fz : List Nat} {cs : List Value}, toD S.hp x = some (s, y, fz) → s → (∀ n, n ∈ fz → n ∈ F) →
    RepC ρ X w x cs → RepD (less S.hp ρ X F) w y cs ∧ y.isAgg = x.isAgg
  | .d x, s, y, fz, cs, h, _, _, hc => by
    cases hc with
    | d hc =>
      cases x with
      | nils =>
        simp only [toD, Option.some.injEq, Prod.mk.injEq] at h
        obtain ⟨_, rfl, _⟩ := h
        cases hc
        exact ⟨.slnil, rfl⟩
      | _ =>
        simp only [toD, Option.some.injEq, Prod.mk.injEq] at h
        obtain ⟨_, rfl, _⟩ := h
        exact ⟨hc.mono (Ext.refl (fun _ => False) w) (fun _ _ _ h => h) (fun _ _ h => h.1), rfl⟩
  | .sl o p e off len, s, y, fz, cs, h, hside, hF, hc => by
    have hv := repA_of_c hc
    obtain ⟨v, rfl⟩ := List.length_eq_one_iff.1 (show cs.length = 1 from hc.length)
    have hv : RepA ρ X w (.sl o p e off len) v := hv
    simp only [toD] at h
    split at h <;> cases h
    rename_i hels
    obtain ⟨ob, ho1, ho2⟩ := elsOf_some hels
    refine ⟨?_, rfl⟩
    rcases elsOf_rep hs (fun _ _ h => h) hels hside hv with ⟨rfl, ad, cap, rfl⟩ | ⟨b, q, cap, cs, e', rfl, k1, k2, k3, k4, k5⟩
    · exact .slnil
    · have hb : ρ o = some b := by
        rcases repA_sl hv with ⟨_, _, g1⟩ | ⟨b', _, _, _, _, _, g0, g1, _⟩
        · cases g1
        · cases g1; exact g0
      exact .sl (fun hx => hx.2 ⟨o, ob, hF o (by simp), ho1, ho2, hb⟩) k5 k3 k4 k1 (k2.mono (Ext.refl (fun _ => False) w) (fun _ _ _ h => h) (fun _ _ h => h.1))
  | .st fs, s, y, fz, cs, h, hside, hF, hc => by
    simp only [toD] at h
    split at h <;> cases h
    rename_i hds
    cases hc with
    | st hc => exact ⟨.st (toDCs_rep hs hds hside hF hc), rfl⟩
  | .ptr _ _, s, y, fz, cs, h, _, _, _ => by simp only [toD] at h; cases h
  | .dptr _, s, y, fz, cs, h, _, _, _ => by simp only [toD] at h; cases h
  | .fn _ _, s, y, fz, cs, h, _, _, _ => by simp only [toD] at h; cases h
  | .tup _, s, y, fz, cs, h, _, _, _ => by simp only [toD] at h; cases h
  | .top, s, y, fz, cs, h, _, _, _ => by simp only [toD] at h; cases h
  | .cst _, s, y, fz, cs, h, _, _, _ => by simp only [toD] at h; cases h
theorem toDCs_rep {S : St} {ρ : Nat → Option Nat} {X : Nat → Prop} {a : Act} {w : World} (hs : Sim S ρ X a w) {F : List Nat} : ∀ {xs : List AV} {s : Prop} {ys : List D} {fz : List Nat} {cs : List Value}, toDs S.hp xs = some (s, ys, fz) → s → (∀ n, n ∈ fz → n ∈ F) →
    RepCs ρ X w xs cs → RepL (less S.hp ρ X F) w ys cs
  | [], s, ys, fz, cs, h, _, _, hc => by
    simp only [toDs, Option.some.injEq, Prod.mk.injEq] at h
    obtain ⟨_, rfl, _⟩ := h
    cases hc; exact .nil
  | x :: xs, s, ys, fz, cs, h, hside, hF, hc => by
    simp only [toDs] at h
    split at h <;> cases h
    rename_i h1 h2
    cases hc with
    | cons hx hxs => exact .cons (toDC_rep hs h1 hside.1 (fun n hn => hF n (List.mem_append.2 (.inl hn))) hx).1 (toDCs_rep hs h2 hside.2 (fun n hn => hF n (List.mem_append.2 (.inr hn))) hxs)
end
theorem toD_plain {hp : Nat → Option AObj} {x : AV} {s : Prop} {y : D} {fz : List Nat} (h : toD hp x = some (s, y, fz)) : x ≠ .top ∧ ∀ vs, x ≠ .tup vs := by
  refine ⟨fun e => ?_, fun vs e => ?_⟩ <;> subst e <;> simp only [toD] at h <;> cases h
theorem toD_rep {S : St} {ρ : Nat → Option Nat} {X : Nat → Prop} {a : Act} {w : World} (hs : Sim S ρ X a w) {x : AV} {s : Prop} {y : D} {fz F : List Nat} (h : toD S.hp x = some (s, y, fz)) (hside : s) (hF : ∀ n, n ∈ fz → n ∈ F) {v : Value}
    (hv : RepA ρ X w x v) : RepA1 ρ (less S.hp ρ X F) w (.d y) v := by
  have hv1 : RepA1 ρ X w x v := by
    obtain ⟨p1, p2⟩ := toD_plain h
    cases x with
    | top => exact absurd rfl p1
    | tup vs => exact absurd rfl (p2 vs)
    | _ => exact hv
  obtain ⟨cs, h1, h2⟩ := hv1
  obtain ⟨k1, k2⟩ := toDC_rep hs h hside hF h1
  exact ⟨cs, .d k1, by rw [h2]; show _ = wrapV y.isAgg cs; rw [k2]⟩
mutual
theorem toD_names {hp : Nat → Option AObj} : ∀ {x : AV} {s : Prop} {y : D} {fz : List Nat}, toD hp x = some (s, y, fz) → ∀ n, n ∈ fz → n ∈ x.names
  | .d x, s, y, fz, h, n, hn => by
    cases x <;> (simp only [toD, Option.some.injEq, Prod.mk.injEq] at h; obtain ⟨_, _, rfl⟩ := h; cases hn)
  | .sl o p e off len, s, y, fz, h, n, hn => by
    simp only [toD] at h
    split at h <;> cases h
    exact hn
  | .st fs, s, y, fz, h, n, hn => by
    simp only [toD] at h
    split at h <;> cases h
    rename_i hds
    simp only [AV.names]
    exact toDs_names hds n hn
  | .ptr _ _, s, y, fz, h, _, _ => by simp only [toD] at h; cases h
  | .dptr _, s, y, fz, h, _, _ => by simp only [toD] at h; cases h
  | .fn _ _, s, y, fz, h, _, _ => by simp only [toD] at h; cases h
  | .tup _, s, y, fz, h, _, _ => by simp only [toD] at h; cases h
  | .top, s, y, fz, h, _, _ => by simp only [toD] at h; cases h
  | .cst _, s, y, fz, h, _, _ => by simp only [toD] at h; cases h
theorem toDs_names {hp : Nat → Option AObj} : ∀ {xs : List AV} {s : Prop} {ys : List D} {fz : List Nat}, toDs hp xs = some (s, ys, fz) → ∀ n, n ∈ fz → n ∈ AV.namesL xs
  | [], s, ys, fz, h, n, hn => by
    simp only [toDs, Option.some.injEq, Prod.mk.injEq] at h
    obtain ⟨_, _, rfl⟩ := h
    cases hn
  | x :: xs, s, ys, fz, h, n, hn => by
    simp only [toDs] at h
    split at h <;> cases h
    rename_i h1 h2
    simp only [AV.namesL, List.mem_append]
    rcases List.mem_append.1 hn with hn | hn
    · exact .inl (toD_names h1 n hn)
    · exact .inr (toDs_names h2 n hn)
end
theorem cvt_rep {S : St} {ρ : Nat → Option Nat} {X : Nat → Prop} {a : Act} {w : World} (hs : Sim S ρ X a w) {F : List Nat} : ∀ {ms : List Bool} {xs ys : List AV} {s : Prop} {fz : List Nat} {vs : List Value}, cvt S.hp ms xs = some (s, ys, fz) → s →
    (∀ n, n ∈ fz → n ∈ F) → xs.length = vs.length → (∀ (i : Nat) (x : AV) (v : Value), xs[i]? = some x → vs[i]? = some v → RepA ρ X w x v) → RepT ρ (less S.hp ρ X F) w ys vs := by
  have g : Goes ρ ρ X (less S.hp ρ X F) (fun _ => False) w w := ⟨.refl _ _, fun _ _ _ h => h, fun _ _ h => h.1⟩
  intro ms xs
  induction xs generalizing ms with
  | nil =>
    intro ys s fz vs h _ _ hl _
    have : vs = [] := List.eq_nil_of_length_eq_zero hl.symm
    subst this
    have : ys = [] := by cases ms <;> (simp only [cvt, Option.some.injEq, Prod.mk.injEq] at h; exact h.2.1.symm)
    subst this; trivial
  | cons x xs ih =>
    intro ys s fz vs h hside hF hl hr
    cases vs with
    | nil => cases hl
    | cons v vs =>
      have hx := hr 0 x v rfl rfl
      have keep : x.plain = true → RepA1 ρ (less S.hp ρ X F) w x v := fun hp => by
        obtain ⟨cs, c1, c2, _⟩ := repA_cells hp hx
        exact ⟨cs, c1.mono g (fun _ _ => rfl), c2⟩
      cases ms with
      | nil =>
        simp only [cvt] at h
        split at h <;> try (cases h; done)
        rename_i s' ys' fz' hrest
        cases hp : x.plain <;> simp only [hp, cond_true, cond_false] at h <;> cases h
        exact ⟨keep hp, ih hrest hside hF (by simpa using hl) (fun i y u h1 h2 => hr (i + 1) y u (by simpa using h1) (by simpa using h2))⟩
      | cons m ms =>
        simp only [cvt] at h
        split at h <;> try (cases h; done)
        rename_i s' ys' fz' hrest
        cases m with
        | true =>
          simp only [cond_true] at h
          split at h <;> cases h
          rename_i s2 y fz2 htd
          exact ⟨toD_rep hs htd hside.1 (fun n hn => hF n (List.mem_append.2 (.inl hn))) hx, ih hrest hside.2 (fun n hn => hF n (List.mem_append.2 (.inr hn))) (by simpa using hl) (fun i y u h1 h2 => hr (i + 1) y u (by simpa using h1) (by simpa using h2))⟩
        | false =>
          simp only [cond_false] at h
          cases hp : x.plain <;> simp only [hp, cond_true, cond_false] at h <;> cases h
          exact ⟨keep hp, ih hrest hside hF (by simpa using hl) (fun i y u h1 h2 => hr (i + 1) y u (by simpa using h1) (by simpa using h2))⟩
theorem cvt_names {hp : Nat → Option AObj} {n : Nat} : ∀ {xs : List AV} {ms : List Bool} {ys : List AV} {s : Prop} {fz : List Nat}, cvt hp ms xs = some (s, ys, fz) → (n ∈ AV.namesL ys → n ∈ AV.namesL xs) ∧ (n ∈ fz → n ∈ AV.namesL xs)
  | [], ms, ys, s, fz, h => by
    have : ys = [] ∧ fz = [] := by cases ms <;> (simp only [cvt, Option.some.injEq, Prod.mk.injEq] at h; exact ⟨h.2.1.symm, h.2.2.symm⟩)
    obtain ⟨rfl, rfl⟩ := this
    exact ⟨id, fun h => by cases h⟩
  | x :: xs, ms, ys, s, fz, h => by
    simp only [AV.namesL, List.mem_append]
    cases ms with
    | nil =>
      simp only [cvt] at h
      split at h <;> try (cases h; done)
      rename_i hrest
      cases hp : x.plain <;> simp only [hp, cond_true, cond_false] at h <;> cases h
      have ih := cvt_names (n := n) hrest
      refine ⟨fun h => ?_, fun h => .inr (ih.2 h)⟩
      simp only [AV.namesL, List.mem_append] at h
      exact h.imp id ih.1
    | cons m ms =>
      simp only [cvt] at h
      split at h <;> try (cases h; done)
      rename_i hrest
      have ih := cvt_names (n := n) hrest
      cases m with
      | true =>
        simp only [cond_true] at h
        split at h <;> cases h
        rename_i s2 y fz2 htd
        refine ⟨fun h => ?_, fun h => ?_⟩
        · simp only [AV.namesL, AV.names, List.nil_append] at h
          exact .inr (ih.1 h)
        · rcases List.mem_append.1 h with h | h
          · exact .inl (toD_names htd n h)
          · exact .inr (ih.2 h)
      | false =>
        simp only [cond_false] at h
        cases hp : x.plain <;> simp only [hp, cond_true, cond_false] at h <;> cases h
        refine ⟨fun h => ?_, fun h => .inr (ih.2 h)⟩
        simp only [AV.namesL, List.mem_append] at h
        exact h.imp id ih.1
theorem lkp_append {α : Type} : ∀ (l m : List (Nat × α)) (n : Nat), lkp (l ++ m) n = match lkp l n with
    | some x => some x
    | none => lkp m n
  | [], _, _ => rfl
  | (k, v) :: l, m, n => by
    simp only [List.cons_append, lkp]
    cases k.beq n with
    | true => rfl
    | false => exact lkp_append l m n
theorem St.upd_append (S : St) (dst : Option Tmp) (r : AV) (ws ds : List (Nat × AObj)) : (S.write ds).upd dst r ws = S.upd dst r (ws ++ ds) := by
  have : (S.write ds).write ws = S.write (ws ++ ds) := by
    simp only [St.write]
    congr 1
    funext o
    rw [lkp_append]
    cases lkp ws o <;> rfl
  simp only [St.upd, this]
theorem Evo.killed {S S2 : St} {ρ ρ' : Nat → Option Nat} {X X' : Nat → Prop} {w w' : World} {fz : List Nat} (h2 : Evo (S.write (deads fz)) S2 ρ ρ' (less S.hp ρ X fz) X' w w') : Evo S S2 ρ ρ' X X' w w' := by
  have hal : ∀ o x, (S.write (deads fz)).hp o = some x → x.alive = true → S.hp o = some x := fun o x h ha => by
    simp only [St.write] at h
    cases hl : lkp (deads fz) o with
    | some y => simp only [hl, Option.some.injEq] at h; subst h; rw [(lkp_deads hl).1] at ha; cases ha
    | none => simpa only [hl] using h
  refine ⟨h2.ext.mono fun b _ hb => ?_, fun b hb => ⟨fun h => ((h2.xs b hb).1 h).1, fun h => ?_⟩, fun o x b k1 k2 k3 => ?_, fun n hn => h2.same n (wr_ne (ws := deads fz) hn)⟩
  · obtain ⟨o, x, k1, k2, k3⟩ := hb; exact ⟨o, x, hal o x k1 k2, k2, k3⟩
  · by_cases hl : less S.hp ρ X fz b
    · rcases (h2.xs b hb).2 hl with h | ⟨o, x, k1, k2, k3⟩
      · exact .inl h
      · exact .inr ⟨o, x, hal o x k1 k2, k2, k3⟩
    · right
      have : ∃ o x, o ∈ fz ∧ S.hp o = some x ∧ x.alive = true ∧ ρ o = some b := Classical.byContradiction fun hn => hl ⟨h, hn⟩
      obtain ⟨o, x, _, k1, k2, k3⟩ := this
      exact ⟨o, x, k1, k2, k3⟩
  · rcases h2.own o x b k1 k2 k3 with h | ⟨o', x', k1, k2, k3⟩
    · exact .inl h
    · exact .inr ⟨o', x', hal o' x' k1 k2, k2, k3⟩
theorem elsOf_le {hp hp' : Nat → Option AObj} (hle : ∀ n x, hp n = some x → hp' n = some x) {x : AV} {r : Prop × List D} (h : elsOf hp x = some r) : elsOf hp' x = some r := by
  unfold elsOf at h ⊢
  split at h <;> try (cases h; done)
  · exact h
  · exact h
  · rename_i o p e off len
    cases ho : hp o with
    | none => rw [ho] at h; cases h
    | some y => rw [ho] at h; rw [hle _ _ ho]; exact h
  · exact h
mutual
theorem toD_le {hp hp' : Nat → Option AObj} (hle : ∀ n x, hp n = some x → hp' n = some x) : ∀ {x : AV} {r : Prop × D × List Nat}, toD hp x = some r → toD hp' x = some r
  | .d x, r, h => by cases x <;> simpa only [toD] using h
  | .sl o p e off len, r, h => by
    simp only [toD] at h ⊢
    split at h
    · rename_i s xs hx; rw [elsOf_le hle hx]; exact h
    · cases h
  | .st fs, r, h => by
    simp only [toD] at h ⊢
    split at h
    · rename_i s ys fz hx; rw [toDs_le hle hx]; exact h
    · cases h
  | .ptr _ _, r, h => by simp only [toD] at h; cases h
  | .dptr _, r, h => by simp only [toD] at h; cases h
  | .fn _ _, r, h => by simp only [toD] at h; cases h
  | .tup _, r, h => by simp only [toD] at h; cases h
  | .top, r, h => by simp only [toD] at h; cases h
  | .cst _, r, h => by simp only [toD] at h; cases h
theorem toDs_le {hp hp' : Nat → Option AObj} (hle : ∀ n x, hp n = some x → hp' n = some x) : ∀ {xs : List AV} {r : Prop × List D × List Nat}, toDs hp xs = some r → toDs hp' xs = some r
  | [], r, h => by simpa only [toDs] using h
  | x :: xs, r, h => by
    simp only [toDs] at h ⊢
    split at h
    · rename_i s y fz s' ys fz' h1 h2; rw [toD_le hle h1, toDs_le hle h2]; exact h
    · cases h
end
theorem toDs_at {hp : Nat → Option AObj} : ∀ {l : List AV} {s : Prop} {ys : List D} {fz : List Nat}, toDs hp l = some (s, ys, fz) → s → ys.length = l.length ∧ ∀ (j : Nat) (y : D) (x : AV), ys[j]? = some y → l[j]? = some x → ∃ s' fz', toD hp x = some (s', y, fz') ∧ s' ∧ ∀ n, n ∈ fz' → n ∈ fz
  | [], s, ys, fz, h, _ => by
    simp only [toDs, Option.some.injEq, Prod.mk.injEq] at h
    obtain ⟨_, rfl, _⟩ := h
    exact ⟨rfl, fun j y x h => by simp at h⟩
  | x :: xs, s, ys, fz, h, hs => by
    simp only [toDs] at h
    split at h <;> cases h
    rename_i s1 y fz1 s2 ys fz2 h1 h2
    obtain ⟨e, ih⟩ := toDs_at h2 hs.2
    refine ⟨by simp [e], fun j y' x' k1 k2 => ?_⟩
    cases j with
    | zero =>
      simp only [List.getElem?_cons_zero, Option.some.injEq] at k1 k2
      subst k1 k2
      exact ⟨s1, fz1, h1, hs.1, fun n hn => List.mem_append_left _ hn⟩
    | succ j =>
      simp only [List.getElem?_cons_succ] at k1 k2
      obtain ⟨s', fz', g1, g2, g3⟩ := ih j y' x' k1 k2
      exact ⟨s', fz', g1, g2, fun n hn => List.mem_append_right _ (g3 n hn)⟩
def aBuildSliceF (P : Program) (nm : Nat) (T : TypeId) (len : Nat) (hp : Nat → Option AObj) (parts : List (Nat × AV)) : Option Res :=
  match dsOf (parts.map (·.2)) with
  | some _ => aBuildSlice P nm T len parts
  | none => match toDs hp (parts.map (·.2)) with
    | some (s, xs, fz) => match aBuildSlice P nm T len ((parts.map (·.1)).zip (xs.map AV.d)) with
      | some res => some ⟨s, res.r, res.ws ++ deads fz⟩
      | none => none
    | none => none
theorem dsOf_map : ∀ (xs : List D), dsOf (xs.map AV.d) = some xs
  | [] => rfl
  | x :: xs => by simp only [List.map_cons, dsOf, dsOf_map xs]
theorem aBuildSliceF_sound {P : Program} {T : TypeId} {len : Nat} {o : Oper} {parts : Array (Nat × Operand)} {S : St} {res : Res} {nm : Nat} {hp : Nat → Option AObj} (hle : ∀ n x, hp n = some x → S.hp n = some x) (ho : o.op = .buildSlice T len parts)
    (h : aBuildSliceF P nm T len hp (parts.toList.map fun p => (p.1, S.ev p.2)) = some res) (hside : res.side) (hf : S.hp nm = none) : StepsTo P o S (S.upd o.dst res.r res.ws) := by
  unfold aBuildSliceF at h
  split at h
  · exact aBuildSlice_sound ho h hf
  · split at h <;> try (cases h; done)
    rename_i s xs fz hds
    have hds := toDs_le hle hds
    split at h <;> cases h
    rename_i r1 hb
    obtain ⟨hl, hat⟩ := toDs_at hds hside
    have hl : xs.length = parts.toList.length := by simpa using hl
    have hz1 : (((parts.toList.map fun p => (p.1, S.ev p.2)).map (·.1)).zip (xs.map AV.d)).map (·.1) = parts.toList.map (·.1) := by
      rw [List.map_map, List.map_fst_zip (by simp [hl])]
      rfl
    have hz2 : (((parts.toList.map fun p => (p.1, S.ev p.2)).map (·.1)).zip (xs.map AV.d)).map (·.2) = xs.map AV.d := by
      rw [List.map_snd_zip (by simp [hl])]
    have hxs : dsOf ((((parts.toList.map fun p => (p.1, S.ev p.2)).map (·.1)).zip (xs.map AV.d)).map (·.2)) = some xs := by rw [hz2, dsOf_map]
    intro ρ X a w hs
    have hk := hs.kill fz
    have hnone : (S.write (deads fz)).hp nm = none := by
      simp only [St.write]
      cases hlk : lkp (deads fz) nm with
      | none => exact hf
      | some y =>
        have hm := (lkp_deads hlk).2
        have := toDs_names hds nm hm
        obtain ⟨q, hq, hq2⟩ : ∃ q, q ∈ parts.toList ∧ nm ∈ (S.ev q.2).names := by
          have key : ∀ l : List (Nat × Operand), nm ∈ AV.namesL ((l.map fun p => (p.1, S.ev p.2)).map (·.2)) → ∃ q, q ∈ l ∧ nm ∈ (S.ev q.2).names := by
            intro l
            induction l with
            | nil => intro h; cases h
            | cons q l ih =>
              intro h
              simp only [List.map_cons, AV.namesL, List.mem_append] at h
              rcases h with h | h
              · exact ⟨q, by simp, h⟩
              · obtain ⟨q', h1, h2⟩ := ih h; exact ⟨q', by simp [h1], h2⟩
          exact key _ this
        exact absurd hf (hs.evNames q.2 nm hq2)
    obtain ⟨v, w', k1, ρ', X', k2, k3⟩ := buildSlice_core (nm := nm) (S := S.write (deads fz)) ho hb hz1 hxs hnone hk (fun j x q h1 h2 => by
      have h3 : ((parts.toList.map fun p => (p.1, S.ev p.2)).map (·.2))[j]? = some (S.ev q.2) := by
        rw [List.map_map, List.getElem?_map, h2]; rfl
      obtain ⟨s', fz', g1, g2, g3⟩ := hat j x _ h1 h3
      exact toD_rep hs g1 g2 g3 (hs.ev q.2))
    unfold Does
    rw [k1]
    rw [St.upd_append] at k2 k3
    exact ⟨ρ', X', k2, k3.killed⟩
def aMin : AV → AV → Option Res
  | .d (.int k x), .d (.int k' y) => if k = k' then some ⟨True, .d (.int k (min x y)), []⟩ else none
  | _, _ => none
theorem aMin_sound {P : Program} {tys : Array TypeId} {o : Oper} {x y : Operand} {S : St} {res : Res} (ho : o.op = .call { callee := .builtin .min, args := #[x, y], argTypes := tys }) (h : aMin (S.ev x) (S.ev y) = some res) : StepsTo P o S (S.upd o.dst res.r res.ws) := by
  unfold aMin at h
  split at h <;> try (cases h; done)
  rename_i k a k' b hx hy
  split at h <;> cases h
  rename_i hk
  subst hk
  refine steps_value fun ρ X e w hs => ⟨.int k (min a b), ?_, ⟨_, .d (.int k (min a b)), rfl⟩, fun m hm => by cases hm⟩
  have h1 := hs.ev x
  have h2 := hs.ev y
  rw [hx] at h1; rw [hy] at h2
  have hm : (if b < a then b else a) = min a b := by
    split <;> omega
  refine run_builtin ho ?_
  simp only [builtin, List.map_toArray, List.map_cons, List.map_nil, repA_int h1, repA_int h2]
  refine run_map ?_
  simp only [Builtin.min_, List.foldlM_cons, List.foldlM_nil, Builtin.min2, hm]
  rfl
def bdOf : Option AV → Option Int
  | some (.d (.int _ i)) => some i
  | _ => none
def aSlice3 (P : Program) (T : TypeId) (x : AV) (lo hi mx : Option AV) : Option Res :=
  match P.underlying T with
  | some (.slice el) => bif (szOf P el).beq 0 then none else match x with
    | .d (.sl xs) => match loOf lo, bdOf hi, bdOf mx with
      | some l, some h, some m => some ⟨(0 ≤ l ∧ l ≤ h ∧ h ≤ m ∧ m ≤ xs.length) ∧ ∀ y, y ∈ xs → y.size = szOf P el, .d (.sl (cutD xs l h)), []⟩
      | _, _, _ => none
    | .sl o p e off len => match loOf lo, bdOf hi, bdOf mx with
      | some l, some h, some m => bif (szOf P el).beq e then some ⟨0 ≤ l ∧ l ≤ h ∧ h ≤ m ∧ m ≤ len, .sl o p e (off + l.toNat) (h.toNat - l.toNat), []⟩ else none
      | _, _, _ => none
    | _ => none
  | _ => none
theorem bdOf_rep {hi : Option Operand} {S : St} {ρ : Nat → Option Nat} {X : Nat → Prop} {a : Act} {w : World} (hs : Sim S ρ X a w) {l : Int} (h : bdOf (hi.map S.ev) = some l) : ∃ k, hi.map a.eval = some (.int k l) := by
  cases hi with
  | none => cases h
  | some x =>
    simp only [Option.map_some] at h ⊢
    generalize hx : S.ev x = y at h
    unfold bdOf at h
    split at h <;> cases h
    rename_i k h'
    have := hs.ev x
    cases h'
    rw [hx] at this
    exact ⟨k, by rw [repA_int this]⟩
theorem run_sliceBounds3 {P : Program} {b : Bool} {len cap : Nat} {lo hi mx : Option Value} {l h m : Int} (w : World) (hl : lo = none ∧ l = 0 ∨ ∃ k, lo = some (.int k l)) (hh : ∃ k, hi = some (.int k h)) (hm : ∃ k, mx = some (.int k m))
    (h0 : 0 ≤ l) (h1 : l ≤ h) (h2 : h ≤ m) (h3 : m ≤ cap) : (Instr.sliceBounds b len cap lo hi mx).run P w = .ok (l.toNat, h.toNat, m.toNat) w := by
  have bd : ∀ (k : IntKind) (i : Int) (y : Nat) (c : BoundsCode), 0 ≤ i → i ≤ y → (Instr.sliceBound (.int k i) y c).run P w = .ok i.toNat w := fun k i y c h0 h1 => by
    simp only [Instr.sliceBound, asIntOf]
    rw [run_bind_ok (run_pure _ w)]
    dsimp only
    rw [if_pos ⟨h0, h1⟩]; rfl
  obtain ⟨k1, rfl⟩ := hh
  obtain ⟨k2, rfl⟩ := hm
  simp only [Instr.sliceBounds]
  rw [run_bind_ok (bd k2 m cap _ (by omega) h3), run_bind_ok (bd k1 h m.toNat _ (by omega) (by omega))]
  rcases hl with ⟨rfl, rfl⟩ | ⟨k', rfl⟩
  · rw [run_bind_ok (run_pure 0 w)]; rfl
  · rw [run_bind_ok (bd k' l h.toNat _ h0 (by omega))]; rfl
theorem aSlice3_sound {P : Program} {T : TypeId} {o : Oper} {x : Operand} {lo hi mx : Option Operand} {S : St} {res : Res} (ho : o.op = .slice T x lo hi mx)
    (h : aSlice3 P T (S.ev x) (lo.map S.ev) (hi.map S.ev) (mx.map S.ev) = some res) (hside : res.side) : StepsTo P o S (S.upd o.dst res.r res.ws) := by
  unfold aSlice3 at h
  split at h <;> try (cases h; done)
  rename_i el hu
  cases hz : (szOf P el).beq 0 <;> simp only [hz, cond_true, cond_false] at h <;> try (cases h; done)
  have hne : szOf P el ≠ 0 := fun e => by rw [e] at hz; cases hz
  have run : ∀ (w : World) (ev : Operand → Value) (base : Option Addr) (len cap : Nat) (l k m : Int), ev x = .slice base len cap → (lo.map ev = none ∧ l = 0 ∨ ∃ k, lo.map ev = some (.int k l)) →
      (∃ j, hi.map ev = some (.int j k)) → (∃ j, mx.map ev = some (.int j m)) → 0 ≤ l → l ≤ k → k ≤ m → m ≤ cap →
      (execOp ev o).run P w = .ok (.value (.slice (if m.toNat = l.toNat then base else base.map (·.add (l.toNat * szOf P el))) (k.toNat - l.toNat) (m.toNat - l.toNat))) w := by
    intro w ev base len cap l k m hx hl hk hm h0 h1 h2 h3
    simp only [execOp, ho]
    refine run_map ?_
    simp only [Instr.sliceAt]
    rw [run_bind_ok (run_underlying hu w)]
    dsimp only
    simp only [Instr.slice, hx]
    rw [run_bind_ok (run_underlying hu w)]
    dsimp only
    rw [run_bind_ok (run_sliceBounds3 w hl hk hm h0 h1 h2 h3)]
    dsimp only
    rw [run_bind_ok (szOf_run hne w)]
    rfl
  split at h <;> try (cases h; done)
  · rename_i xs hx
    split at h <;> try (cases h; done)
    rename_i l k m hl hk hm
    cases h
    obtain ⟨⟨h0, h1, h2, h3⟩, hsz⟩ := hside
    refine steps_value fun ρ X a w hs => ?_
    have he := hs.ev x
    rw [hx] at he
    obtain ⟨cs, g1, g2⟩ := repA_d he
    cases g1 with
    | slnil =>
      simp only [List.length_nil] at h3
      obtain rfl : l = 0 := by omega
      obtain rfl : k = 0 := by omega
      obtain rfl : m = 0 := by omega
      rename_i ad cap
      refine ⟨_, run w a.eval ad 0 cap 0 0 0 g2 (loOf_rep hs hl) (bdOf_rep hs hk) (bdOf_rep hs hm) (by omega) (by omega) (by omega) (by omega), ?_, fun m hm => by cases hm⟩
      exact ⟨_, .d .slnil, rfl⟩
    | sl a1 a2 a3 a4 a5 a6 =>
      rename_i b off cap e cs
      refine ⟨_, run w a.eval (some ⟨b, off, none⟩) xs.length cap l k m g2 (loOf_rep hs hl) (bdOf_rep hs hk) (bdOf_rep hs hm) h0 h1 h2 (by omega), ?_, fun m hm => by cases hm⟩
      obtain ⟨pre, c, post, e1, e2, e3, e4, e5⟩ := a6.cut a3 (l := l.toNat) (k := k.toNat) (by omega) (by omega)
      have hlen : (cutD xs l k).length = k.toNat - l.toNat := e5
      by_cases hemp : cutD xs l k = []
      · rw [hemp] at hlen ⊢
        rw [← hlen]
        show RepA ρ X w (.d (.sl [])) (.slice _ 0 _)
        exact ⟨_, .d .slnil, rfl⟩
      · have hes : e = szOf P el := by
          cases xs with
          | nil => exact absurd (by unfold cutD; simp) hemp
          | cons y ys => rw [← hsz y (by simp)]; exact (a3 y (by simp)).symm
        subst hes
        have hpos : 0 < (cutD xs l k).length := List.length_pos_iff.2 hemp
        rw [← hlen]
        rw [e1] at a5
        have h5 := a5.part
        rw [e2] at h5
        rw [if_neg (by omega)]
        simp only [Option.map_some, addr_add]
        exact ⟨_, .d (.sl a1 a2 e4 (by omega) h5 e3), rfl⟩
  · rename_i n p e off len hx
    split at h <;> try (cases h; done)
    rename_i l k m hl hk hm
    cases hb : (szOf P el).beq e <;> simp only [hb, cond_true, cond_false] at h <;> cases h
    have hes := Nat.eq_of_beq_eq_true hb
    obtain ⟨h0, h1, h2, h3⟩ := hside
    refine steps_value fun ρ X a w hs => ?_
    have he := hs.ev x
    have hnm := hs.evNames x
    rw [hx] at he hnm
    rcases repA_sl he with ⟨g0, rfl, g1⟩ | ⟨b, cap, q, c, T', z, g0, g1, g2, g3, g4, g5⟩
    · obtain rfl : l = 0 := by omega
      obtain rfl : k = 0 := by omega
      obtain rfl : m = 0 := by omega
      refine ⟨_, run w a.eval none 0 0 0 0 0 g1 (loOf_rep hs hl) (bdOf_rep hs hk) (bdOf_rep hs hm) (by omega) (by omega) (by omega) (by omega), ?_, fun m hm => hnm m hm⟩
      exact ⟨_, .slnil g0, rfl⟩
    refine ⟨_, run w a.eval _ len cap l k m g1 (loOf_rep hs hl) (bdOf_rep hs hk) (bdOf_rep hs hm) h0 h1 h2 (by omega), ?_, fun m hm => hnm m hm⟩
    have hb2 : pOff p + (off + l.toNat + (m.toNat - l.toNat)) * e ≤ c.size := by
      have : off + l.toNat + (m.toNat - l.toNat) ≤ off + cap := by omega
      have := Nat.mul_le_mul_right e this
      omega
    split
    · exact ⟨_, .sl g0 g2 hb2 (by omega) (.inl (by omega)), rfl⟩
    · simp only [Option.map_some, addr_add]
      refine ⟨_, .sl g0 g2 hb2 (by omega) ?_, rfl⟩
      rcases g5 with g5 | g5
      · exact .inl (by omega)
      · right; rw [g5, hes, Nat.add_mul]; omega
end Go.Sym

namespace Go.Sym
def aBinA (P : Program) (op : BinOp) (T : TypeId) (x y : AV) : Option Res :=
  match x, y with
  | .d a, .d b => match aBin P op T a b with
    | some (s, z) => some ⟨s, .d z, []⟩
    | none => aCmp P op T (.d a) (.d b)
  | x, y => aCmp P op T x y
def aBuiltin (P : Program) (nm : Nat) (b : Builtin) (tys : Array TypeId) (hp : Nat → Option AObj) (ins : List AV) : Option Res :=
  match b, ins, tys.toList with
  | .len, [x], [T] => aLen P T x
  | .append, [s, x], [_, _] => aAppend P nm tys hp s x
  | .copy, [d, x], [T, _] => aCopy P T hp d x
  | .min, [x, y], _ => aMin x y
  | _, _, _ => none
def aOp (P : Program) (nm : Nat) (op : Op) (ev : Operand → AV) (hp : Nat → Option AObj) : Option Res :=
  match op with
  | .move x => aMove (ev x)
  | .assign x => aMove (ev x)
  | .pick c a b => aPick (ev c) (ev a) (ev b)
  | .alloc T => aAlloc P nm T
  | .box _ x => aBox nm (ev x)
  | .build T parts => aBuild P T (parts.toList.map fun p => (p.1, ev p.2))
  | .buildSlice T len parts => aBuildSliceF P nm T len hp (parts.toList.map fun p => (p.1, ev p.2))
  | .load T a => aLoad P T hp (ev a)
  | .store T a v => aStore P T hp (ev a) (ev v)
  | .nilCheck x => aNilCheck (ev x)
  | .binOp op T x y _ => aBinA P op T (ev x) (ev y)
  | .unOp op _ x => aUn op (ev x)
  | .convert s d x => aConv P nm s d hp (ev x)
  | .makeFunc fn first caps => aMakeFunc fn first (caps.toList.map ev)
  | .makeInterface T x => aMakeIface P T (ev x)
  | .makeSlice T l c => aMakeSlice P nm T (ev l) (ev c)
  | .slice T x lo hi mx => match mx with
    | none => aSlice P T hp (ev x) (lo.map ev) (hi.map ev)
    | some _ => aSlice3 P T (ev x) (lo.map ev) (hi.map ev) (mx.map ev)
  | .fieldAddr T x f => aFieldAddr P T f (ev x)
  | .field T x f => aField P T f (ev x)
  | .indexAddr T x i => aIndexAddr P T (ev x) (ev i)
  | .index T x i => aIndex P T (ev x) (ev i)
  | .extract x i => aExtract i (ev x)
  | .call c => match c.callee with
    | .builtin b => aBuiltin P nm b c.argTypes hp (c.args.toList.map ev)
    | _ => none
  | _ => none
theorem aOp_sound {P : Program} {nm : Nat} {o : Oper} {S : St} {hp : Nat → Option AObj} {res : Res} (hle : ∀ n x, hp n = some x → S.hp n = some x) (h : aOp P nm o.op S.ev hp = some res) (hside : res.side) (hf : S.hp nm = none) :
    StepsTo P o S (S.upd o.dst res.r res.ws) := by
  cases ho : o.op <;> rw [ho] at h <;> simp only [aOp] at h <;> try (cases h; done)
  case move x => exact aMove_sound (.inl ho) h
  case assign x => exact aMove_sound (.inr ho) h
  case pick c a b => exact aPick_sound ho h
  case alloc T => exact aAlloc_sound ho h hf
  case box T x => exact aBox_sound ho h hf
  case build T parts => exact aBuild_sound ho h hside
  case buildSlice T len parts => exact aBuildSliceF_sound hle ho h hside hf
  case load T a => exact aLoad_sound hle ho h hside
  case store T a v => exact aStore_sound hle ho h hside
  case nilCheck x => exact aNilCheck_sound ho h
  case binOp op T x y T2 =>
    unfold aBinA at h
    split at h
    · rename_i a b hx hy
      split at h
      · rename_i s z hb
        cases h
        refine steps_value fun ρ X e w hs => ?_
        have h1 := hs.ev x
        have h2 := hs.ev y
        rw [hx] at h1; rw [hy] at h2
        obtain ⟨t, ht, hr⟩ := aBin_run (P := P) hb hside (w := w) (repA_d h1) (repA_d h2) x y
        refine ⟨t, ?_, ?_, fun m hm => by cases hm⟩
        · simp only [execOp, ho]
          exact run_map ht
        · obtain ⟨cs, c1, c2⟩ := hr
          rw [c2]; exact repA_mk c1
      · rw [← hx, ← hy] at h
        exact aCmp_sound ho h hside
    · exact aCmp_sound ho h hside
  case unOp op T x => exact aUn_sound ho h
  case convert s d x => exact aConv_sound hle ho h hside hf
  case makeFunc fn first caps => exact aMakeFunc_sound ho h
  case makeInterface T x => exact aMakeIface_sound ho h
  case makeSlice T l c => exact aMakeSlice_sound ho h hside hf
  case slice T x lo hi mx =>
    cases mx with
    | none => exact aSlice_sound hle ho h hside
    | some _ => exact aSlice3_sound ho h hside
  case fieldAddr T x f => exact aFieldAddr_sound ho h hside
  case field T x f => exact aField_sound ho h hside
  case indexAddr T x i => exact aIndexAddr_sound ho h hside
  case index T x i => exact aIndex_sound ho h hside
  case extract x i => exact aExtract_sound ho h
  case call c =>
    obtain ⟨callee, args, tys⟩ := c
    cases callee <;> simp only at h <;> try (cases h; done)
    rename_i b
    unfold aBuiltin at h
    split at h <;> try (cases h; done)
    · rename_i x T hins htys
      have ha : ∃ y, args = #[y] ∧ S.ev y = x := by
        cases args with
        | mk l =>
          simp only at hins
          match l, hins with
          | [y], hins => simp only [List.map_cons, List.map_nil, List.cons.injEq, and_true] at hins; exact ⟨y, rfl, hins⟩
      obtain ⟨y, rfl, rfl⟩ := ha
      refine aLen_sound ho ?_ h
      cases tys with
      | mk l => simp only at htys; subst htys; rfl
    · rename_i s x T T2 hins htys
      have ha : ∃ u v, args = #[u, v] ∧ S.ev u = s ∧ S.ev v = x := by
        cases args with
        | mk l =>
          simp only at hins
          match l, hins with
          | [u, v], hins => simp only [List.map_cons, List.map_nil, List.cons.injEq, and_true] at hins; exact ⟨u, v, rfl, hins⟩
      obtain ⟨u, v, rfl, rfl, rfl⟩ := ha
      refine aAppend_sound hle ho ?_ h hside hf
      cases tys with
      | mk l => simp only at htys; subst htys; rfl
    · rename_i d x T T2 hins htys
      have ha : ∃ u v, args = #[u, v] ∧ S.ev u = d ∧ S.ev v = x := by
        cases args with
        | mk l =>
          simp only at hins
          match l, hins with
          | [u, v], hins => simp only [List.map_cons, List.map_nil, List.cons.injEq, and_true] at hins; exact ⟨u, v, rfl, hins⟩
      obtain ⟨u, v, rfl, rfl, rfl⟩ := ha
      refine aCopy_sound hle ho (T2 := T2) ?_ h hside
      cases tys with
      | mk l => simp only at htys; subst htys; rfl
    · rename_i x y hins
      have ha : ∃ u v, args = #[u, v] ∧ S.ev u = x ∧ S.ev v = y := by
        cases args with
        | mk l =>
          simp only at hins
          match l, hins with
          | [u, v], hins => simp only [List.map_cons, List.map_nil, List.cons.injEq, and_true] at hins; exact ⟨u, v, rfl, hins⟩
      obtain ⟨u, v, rfl, rfl, rfl⟩ := ha
      exact aMin_sound ho h
theorem aOp_congr {P : Program} {nm : Nat} {op : Op} {ev ev' : Operand → AV} {hp : Nat → Option AObj} (h : ∀ x, x ∈ op.operands → ev x = ev' x) : aOp P nm op ev hp = aOp P nm op ev' hp := by
  cases op <;> simp only [aOp] <;> simp only [Op.operands] at h
  case build T parts =>
    congr 1
    exact List.map_congr_left fun p hp => by rw [h p.2 (by simp; exact ⟨p.1, by simpa using hp⟩)]
  case buildSlice T len parts =>
    congr 1
    exact List.map_congr_left fun p hp => by rw [h p.2 (by simp; exact ⟨p.1, by simpa using hp⟩)]
  case makeFunc fn first caps =>
    congr 1
    exact List.map_congr_left fun p hp => h p (by simp; right; simpa using hp)
  case slice T x lo hi mx =>
    cases mx with
    | some m =>
      have e1 : ev x = ev' x := h x (by simp)
      have e2 : ev m = ev' m := h m (by simp)
      have e3 : lo.map ev = lo.map ev' := by
        cases lo with
        | none => rfl
        | some a => simp only [Option.map_some]; rw [h a (by simp)]
      have e4 : hi.map ev = hi.map ev' := by
        cases hi with
        | none => rfl
        | some a => simp only [Option.map_some]; rw [h a (by simp)]
      simp only [Option.map_some, e1, e2, e3, e4]
    | none =>
      rw [h x (by simp)]
      cases lo with
      | none => cases hi with
        | none => rfl
        | some b => simp only [Option.map_some, Option.map_none]; rw [h b (by simp)]
      | some a => cases hi with
        | none => simp only [Option.map_some, Option.map_none]; rw [h a (by simp)]
        | some b => simp only [Option.map_some]; rw [h a (by simp), h b (by simp)]
  case call c =>
    obtain ⟨callee, args, tys⟩ := c
    cases callee <;> simp only
    congr 1
    exact List.map_congr_left fun p hp => h p (by simp [Call.operands]; simpa using hp)
  all_goals first
    | rfl
    | (rw [h _ (by simp)]; done)
    | (rename_i x y; rw [h x (by simp), h y (by simp)]; done)
    | (rename_i a x y; rw [h x (by simp), h y (by simp)]; done)
    | (rename_i a x y b; rw [h x (by simp), h y (by simp)]; done)
    | (rename_i a b x y c; rw [h x (by simp), h y (by simp)]; done)
    | (rename_i a b x; rw [h x (by simp)]; done)
    | (rename_i a x; rw [h x (by simp)]; done)
    | (rename_i c x y; rw [h c (by simp), h x (by simp), h y (by simp)]; done)
    | skip
def rst (hp : Nat → Option AObj) (l : List Nat) : Nat → Option AObj := fun n => bif l.contains n then hp n else none
theorem rst_le {hp : Nat → Option AObj} {l : List Nat} {n : Nat} {x : AObj} (h : rst hp l n = some x) : hp n = some x := by
  unfold rst at h
  cases hb : l.contains n <;> simp only [hb, cond_true, cond_false] at h
  · cases h
  · exact h
theorem rst_congr {hp hp' : Nat → Option AObj} {l : List Nat} (h : ∀ n, n ∈ l → hp n = hp' n) : rst hp l = rst hp' l := by
  funext n
  unfold rst
  cases hb : l.contains n with
  | false => rfl
  | true => simp only [cond_true]; exact h n (by simpa using hb)
def readsMem : Op → Bool
  | .load _ _ => true
  | .store _ _ _ => true
  | .convert _ _ _ => true
  | .slice _ _ _ _ _ => true
  | .buildSlice _ _ _ => true
  | .call _ => true
  | _ => false
def opNames (S : St) (op : Op) : List Nat := bif readsMem op then AV.namesL (op.operands.toList.map S.ev) else []
end Go.Sym

namespace Go.Sym
structure HSim (hp : Nat → Option AObj) (ρ : Nat → Option Nat) (X : Nat → Prop) (w : World) : Prop where
  objs : ∀ o x, hp o = some x → ObjAt ρ X w o x
  inj : ∀ o o' x x' b, hp o = some x → x.alive = true → hp o' = some x' → x'.alive = true → ρ o = some b → ρ o' = some b → o = o'
  own : ∀ o x b, hp o = some x → x.alive = true → ρ o = some b → X b
  closed : ∀ o x, hp o = some x → ∀ o', o' ∈ x.names → hp o' ≠ none
theorem Sim.heap {S : St} {ρ : Nat → Option Nat} {X : Nat → Prop} {a : Act} {w : World} (hs : Sim S ρ X a w) : HSim S.hp ρ X w := ⟨hs.objs, hs.inj, hs.own, hs.closedH⟩
structure HEvo (hp hp' : Nat → Option AObj) (ρ ρ' : Nat → Option Nat) (X X' : Nat → Prop) (w w' : World) : Prop where
  ext : Ext (fun b => ∃ o x, hp o = some x ∧ x.alive = true ∧ ρ o = some b) w w'
  xs : ∀ b, b < w.heap.size → (X' b → X b) ∧ (X b → X' b ∨ ∃ o x, hp o = some x ∧ x.alive = true ∧ ρ o = some b)
  own : ∀ o x b, hp' o = some x → x.alive = true → ρ' o = some b → w.heap.size ≤ b ∨ ∃ o' x', hp o' = some x' ∧ x'.alive = true ∧ ρ o' = some b
  same : ∀ n, hp n ≠ none → ρ' n = ρ n
def CallOK (P : Program) (f : FuncId) (args : List AV) (hp : Nat → Option AObj) (r : AV) (ws : List (Nat × AObj)) : Prop :=
  ∀ (ρ : Nat → Option Nat) (X : Nat → Prop) (w : World) (vs : List Value), HSim hp ρ X w → RepT ρ X w args vs → (∀ n, n ∈ AV.namesL args → hp n ≠ none) →
    Calls P f vs.toArray w fun e w' => ∃ v, e = .returned v ∧ ∃ ρ' X', HSim (wr hp ws) ρ' X' w' ∧ HEvo hp (wr hp ws) ρ ρ' X X' w w' ∧ RepA ρ' X' w' r v ∧ ∀ n, n ∈ r.names → wr hp ws n ≠ none
def PanOK (P : Program) (f : FuncId) (args : List AV) (hp : Nat → Option AObj) (pv : Value) (ws : List (Nat × AObj)) : Prop :=
  ∀ (ρ : Nat → Option Nat) (X : Nat → Prop) (w : World) (vs : List Value), HSim hp ρ X w → RepT ρ X w args vs → (∀ n, n ∈ AV.namesL args → hp n ≠ none) →
    Calls P f vs.toArray w fun e w' => e = .panicked [{ v := pv, recovered := false }] ∧ ∃ ρ' X', HSim (wr hp ws) ρ' X' w' ∧ HEvo hp (wr hp ws) ρ ρ' X X' w w'
theorem St.hp_upd' (S : St) (dst : Option Tmp) (r : AV) (ws : List (Nat × AObj)) : (S.upd dst r ws).hp = wr S.hp ws := by
  funext o
  rw [St.hp_upd]; rfl
theorem Sim.call {S : St} {ρ ρ' : Nat → Option Nat} {X X' : Nat → Prop} {a : Act} {w w' : World} (hs : Sim S ρ X a w) {dst : Option Tmp} {r : AV} {v : Value} {ws : List (Nat × AObj)}
    (hh : HSim (wr S.hp ws) ρ' X' w') (he : HEvo S.hp (wr S.hp ws) ρ ρ' X X' w w') (hr : RepA ρ' X' w' r v) (hrn : ∀ n, n ∈ r.names → wr S.hp ws n ≠ none) :
    Sim (S.upd dst r ws) ρ' X' (a.put dst v) w' ∧ Evo S (S.upd dst r ws) ρ ρ' X X' w w' := by
  have g : Goes ρ ρ' X X' _ w w' := ⟨he.ext, fun b _ hx hy => by obtain ⟨o, x, h1, h2, h3⟩ := hy; exact hx (hs.own o x b h1 h2 h3), fun b hb h => (he.xs b hb).1 h⟩
  have hhp := St.hp_upd' S dst r ws
  refine ⟨⟨?_, ?_, ?_, ?_, ?_, ?_, ?_⟩, ⟨he.ext, he.xs, fun o x b h1 h2 h3 => he.own o x b (by rw [← hhp]; exact h1) h2 h3, he.same⟩⟩
  · simp only [St.upd, St.n_put, St.write]
    rw [← hs.n]
    cases dst <;> simp [Act.put]
  · intro t u ht
    rcases St.sl_put (S.write ws) dst r t with ⟨h1, h2⟩ | ⟨h1, h2⟩
    · subst h2
      have e : (S.upd (some t) r ws).sl t = r := h1
      rw [e]
      simp only [Act.put, Array.getElem?_setIfInBounds, if_true] at ht
      split at ht
      · cases ht; exact hr
      · cases ht
    · have e : (S.upd dst r ws).sl t = S.sl t := h1
      rw [e]
      have ht' : a.tmps[t]? = some u := by
        cases dst with
        | none => exact ht
        | some d =>
          have hne : d ≠ t := fun e => h2 (by rw [e])
          simpa [Act.put, Array.getElem?_setIfInBounds_ne hne] using ht
      exact (hs.slots t u ht').mono g (fun o ho => he.same o (hs.closedS t o ho))
  · intro o x hx; rw [hhp] at hx; exact hh.objs o x hx
  · intro o o' x x' b h1 h2 h3 h4 h5 h6; rw [hhp] at h1 h3; exact hh.inj o o' x x' b h1 h2 h3 h4 h5 h6
  · intro o x b h1 h2 h3; rw [hhp] at h1; exact hh.own o x b h1 h2 h3
  · intro t o ho
    rw [hhp]
    rcases St.sl_put (S.write ws) dst r t with ⟨h1, _⟩ | ⟨h1, _⟩
    · have e : (S.upd dst r ws).sl t = r := h1
      rw [e] at ho; exact hrn o ho
    · have e : (S.upd dst r ws).sl t = S.sl t := h1
      rw [e] at ho; exact wr_ne (hs.closedS t o ho)
  · intro o x h1 o' ho'; rw [hhp] at h1 ⊢; exact hh.closed o x h1 o' ho'
end Go.Sym

namespace Go.Sym
structure Foot where
  rd : List Nat
  wr : List Nat
  nw : List Nat
structure Agree (ops : Array Oper) (o : Oper) (φ : Foot) (S S' : St) : Prop where
  n : S'.n = S.n
  sl : ∀ t, t ∈ o.looksAt ops → S'.sl t = S.sl t
  rd : ∀ n, n ∈ φ.rd → S'.hp n = S.hp n
  wr : ∀ n, n ∈ φ.wr → S'.hp n = S.hp n
  nw : ∀ n, n ∈ φ.nw → S'.hp n = none
def OpStep (P : Program) (ops : Array Oper) (o : Oper) (S : St) (r : AV) (ws : List (Nat × AObj)) : Prop :=
  ∀ (ρ : Nat → Option Nat) (X : Nat → Prop) (a : Act) (w : World), Sim S ρ X a w →
    (Region.wanted o (yielded ops a.tmps) = true → Does P o a w (fun v w' => ∃ ρ' X', Sim (S.upd o.dst r ws) ρ' X' (a.put o.dst v) w' ∧ Evo S (S.upd o.dst r ws) ρ ρ' X X' w w') (fun _ _ => False)) ∧
    (Region.wanted o (yielded ops a.tmps) = false → r = .tup [] ∧ ws = [])
def OpPan (P : Program) (ops : Array Oper) (o : Oper) (S : St) (pv : Value) (ws : List (Nat × AObj)) : Prop :=
  ∀ (ρ : Nat → Option Nat) (X : Nat → Prop) (a : Act) (w : World), Sim S ρ X a w →
    Region.wanted o (yielded ops a.tmps) = true ∧
    Does P o a w (fun _ _ => False) (fun v w' => v = pv ∧ ∃ ρ' X', Sim (S.upd none .top ws) ρ' X' a w' ∧ Evo S (S.upd none .top ws) ρ ρ' X X' w w')
def LStep (P : Program) (ops : Array Oper) (i : Nat) (S : St) (φ : Foot) (r : AV) (ws : List (Nat × AObj)) : Prop :=
  ∃ o, ops[i]? = some o ∧ (∀ c, o.op ≠ .defer c) ∧ (∀ n, lkp ws n ≠ none → n ∈ φ.wr ∨ n ∈ φ.nw) ∧ (∀ n, n ∈ φ.nw → S.hp n = none) ∧ ∀ S', Agree ops o φ S S' → OpStep P ops o S' r ws
def LPan (P : Program) (ops : Array Oper) (i : Nat) (S : St) (φ : Foot) (pv : Value) (ws : List (Nat × AObj)) : Prop :=
  ∃ o, ops[i]? = some o ∧ (∀ c, o.op ≠ .defer c) ∧ (∀ n, n ∈ φ.nw → S.hp n = none) ∧ ∀ S', Agree ops o φ S S' → OpPan P ops o S' pv ws
def calleeOf (S : St) : Op → Option (FuncId × List AV)
  | .call c => match c.callee with
    | .value x => match S.ev x with
      | .fn (.func f) caps => bif caps.all AV.single then some (f, c.args.toList.map S.ev ++ caps) else none
      | _ => none
    | _ => none
  | _ => none
def callable (P : Program) (f : FuncId) : Bool := match P.funcs[f]? with
  | some fn => fn.body.isSome && fn.name != "runtime.NumGoroutine"
  | none => false
theorem callable_run {P : Program} {f : FuncId} (h : callable P f = true) (args : Array Value) (w : World) : (callFunc f args).run P w = .ok (.enter f args) w := by
  unfold callable at h
  split at h <;> try (cases h; done)
  rename_i fn hf
  simp only [Bool.and_eq_true, bne_iff_ne, ne_eq] at h
  simp only [callFunc, program]
  rw [Sem.run_bind]
  simp only [Sem.run, Result.andThen, hf]
  have h1 : (fn.name == "runtime.NumGoroutine") = false := by simpa using h.2
  have h2 : fn.body.isNone = false := by cases hb : fn.body <;> simp [hb] at h ⊢
  simp [h1, h2]
def LocalCall (P : Program) (f : FuncId) (args : List AV) (pre : List (Nat × AObj)) (nw : List Nat) (r : AV) (ws : List (Nat × AObj)) : Prop :=
  ∀ hp : Nat → Option AObj, (∀ p, p ∈ pre → hp p.1 = some p.2) → (∀ n, n ∈ nw → hp n = none) → CallOK P f args hp r ws
def LocalPan (P : Program) (f : FuncId) (args : List AV) (pre : List (Nat × AObj)) (nw : List Nat) (pv : Value) (ws : List (Nat × AObj)) : Prop :=
  ∀ hp : Nat → Option AObj, (∀ p, p ∈ pre → hp p.1 = some p.2) → (∀ n, n ∈ nw → hp n = none) → PanOK P f args hp pv ws
def preOK (hp : Nat → Option AObj) : List (Nat × AObj) → Prop
  | [] => True
  | p :: l => hp p.1 = some p.2 ∧ preOK hp l
theorem preOK_spec {hp : Nat → Option AObj} : ∀ {l : List (Nat × AObj)}, preOK hp l → ∀ p, p ∈ l → hp p.1 = some p.2
  | [], _, p, h => by cases h
  | q :: l, ⟨h1, h2⟩, p, h => by
    rcases List.mem_cons.1 h with rfl | h
    · exact h1
    · exact preOK_spec h2 p h
def okNames (hp : Nat → Option AObj) (pre : List (Nat × AObj)) (fz nw : List Nat) (ws : List (Nat × AObj)) : Bool :=
  ws.all (fun p => (pre.map (·.1)).contains p.1 || nw.contains p.1) && pre.all (fun p => !fz.contains p.1) && nw.all (fun n => (hp n).isNone)
theorem elsOf_congr {hp hp' : Nat → Option AObj} {x : AV} (h : ∀ n, n ∈ x.names → hp' n = hp n) : elsOf hp' x = elsOf hp x := by
  cases x with
  | sl o p e off len => simp only [elsOf, h o (by simp [AV.names])]
  | d y => cases y <;> rfl
  | cst v => cases v <;> first | rfl | (rename_i a n c; cases n <;> rfl)
  | _ => rfl
mutual
theorem toD_congr {hp hp' : Nat → Option AObj} : ∀ {x : AV}, (∀ n, n ∈ x.names → hp' n = hp n) → toD hp' x = toD hp x
  | .sl o p e off len, h => by simp only [toD, elsOf_congr h]
  | .d y, _ => by cases y <;> simp only [toD]
  | .st fs, h => by simp only [toD]; rw [toDs_congr (xs := fs) (by simpa only [AV.names] using h)]
  | .ptr _ _, _ => by simp only [toD]
  | .dptr _, _ => by simp only [toD]
  | .fn _ _, _ => by simp only [toD]
  | .tup _, _ => by simp only [toD]
  | .top, _ => by simp only [toD]
  | .cst _, _ => by simp only [toD]
theorem toDs_congr {hp hp' : Nat → Option AObj} : ∀ {xs : List AV}, (∀ n, n ∈ AV.namesL xs → hp' n = hp n) → toDs hp' xs = toDs hp xs
  | [], _ => by simp only [toDs]
  | x :: xs, h => by
    simp only [toDs]
    rw [toD_congr (x := x) fun n hn => h n (by simp [AV.namesL, hn]), toDs_congr (xs := xs) fun n hn => h n (by simp [AV.namesL, hn])]
end
theorem cvt_congr {hp hp' : Nat → Option AObj} : ∀ {xs : List AV} {ms : List Bool}, (∀ n, n ∈ AV.namesL xs → hp' n = hp n) → cvt hp' ms xs = cvt hp ms xs
  | [], ms, _ => by cases ms <;> rfl
  | x :: xs, [], h => by simp only [cvt, cvt_congr (xs := xs) (ms := []) fun n hn => h n (by simp [AV.namesL, hn])]
  | x :: xs, m :: ms, h => by
    simp only [cvt, cvt_congr (xs := xs) (ms := ms) fun n hn => h n (by simp [AV.namesL, hn])]
    rw [toD_congr (x := x) fun n hn => h n (by simp [AV.namesL, hn])]
theorem St.ev_put_ne {S : St} {S' : St} (hn : S'.n = S.n) {x : Operand} (h : ∀ t, x = .tmp t → S'.sl t = S.sl t) : S'.ev x = S.ev x := by
  cases x with
  | tmp t => simp only [St.ev, hn, h t rfl]
  | _ => rfl
theorem Agree.ev {ops : Array Oper} {o : Oper} {φ : Foot} {S S' : St} (h : Agree ops o φ S S') : ∀ x, x ∈ o.op.operands → S'.ev x = S.ev x := by
  intro x hx
  refine St.ev_put_ne h.n fun t ht => h.sl t ?_
  subst ht
  unfold Oper.looksAt
  refine List.mem_append_left _ (List.mem_filterMap.2 ⟨.tmp t, by simpa using hx, rfl⟩)
theorem Sim.killCall {S : St} {ρ ρ' : Nat → Option Nat} {X X' : Nat → Prop} {a : Act} {w w' : World} (hs : Sim S ρ X a w) {fz : List Nat} {dst : Option Tmp} {r : AV} {v : Value} {ws : List (Nat × AObj)}
    (hh : HSim (wr (wr S.hp (deads fz)) ws) ρ' X' w') (he : HEvo (wr S.hp (deads fz)) (wr (wr S.hp (deads fz)) ws) ρ ρ' (less S.hp ρ X fz) X' w w') (hr : RepA ρ' X' w' r v) (hrn : ∀ n, n ∈ r.names → wr (wr S.hp (deads fz)) ws n ≠ none) :
    Sim (S.upd dst r (ws ++ deads fz)) ρ' X' (a.put dst v) w' ∧ Evo S (S.upd dst r (ws ++ deads fz)) ρ ρ' X X' w w' := by
  have hk := hs.kill fz
  have hal : ∀ o x, wr S.hp (deads fz) o = some x → x.alive = true → S.hp o = some x := fun o x h ha => by
    unfold wr at h
    cases hl : lkp (deads fz) o with
    | some y => simp only [hl, Option.some.injEq] at h; subst h; rw [(lkp_deads hl).1] at ha; cases ha
    | none => simpa only [hl] using h
  obtain ⟨h1, h2⟩ := hk.call (dst := dst) (r := r) (v := v) (ws := ws) hh he hr hrn
  rw [St.upd_append] at h1 h2
  refine ⟨h1, ⟨h2.ext.mono fun b _ hb => ?_, fun b hb => ⟨fun h => ((h2.xs b hb).1 h).1, fun h => ?_⟩, fun o x b k1 k2 k3 => ?_, fun n hn => h2.same n (wr_ne (ws := deads fz) hn)⟩⟩
  · obtain ⟨o, x, k1, k2, k3⟩ := hb; exact ⟨o, x, hal o x k1 k2, k2, k3⟩
  · by_cases hl : less S.hp ρ X fz b
    · rcases (h2.xs b hb).2 hl with h | ⟨o, x, k1, k2, k3⟩
      · exact .inl h
      · exact .inr ⟨o, x, hal o x k1 k2, k2, k3⟩
    · right
      have : ∃ o x, o ∈ fz ∧ S.hp o = some x ∧ x.alive = true ∧ ρ o = some b := Classical.byContradiction fun hn => hl ⟨h, hn⟩
      obtain ⟨o, x, _, k1, k2, k3⟩ := this
      exact ⟨o, x, k1, k2, k3⟩
  · rcases h2.own o x b k1 k2 k3 with h | ⟨o', x', k1, k2, k3⟩
    · exact .inl h
    · exact .inr ⟨o', x', hal o' x' k1 k2, k2, k3⟩
theorem RepCs.singles {ρ : Nat → Option Nat} {X : Nat → Prop} {w : World} : ∀ {caps : List AV} {vs : List Value}, RepCs ρ X w caps vs → caps.all AV.single = true →
    caps.length = vs.length ∧ ∀ (i : Nat) (y : AV) (v : Value), caps[i]? = some y → vs[i]? = some v → RepA ρ X w y v
  | _, _, .nil, _ => ⟨rfl, fun i y v h => by simp at h⟩
  | _, _, .cons (x := x) (c := c) h hs, ha => by
    simp only [List.all_cons, Bool.and_eq_true] at ha
    obtain ⟨h1, h2⟩ := RepCs.singles hs ha.2
    have hag : x.isAgg = false := by cases x <;> first | rfl | cases ha.1
    obtain ⟨u, rfl⟩ := List.length_eq_one_iff.1 (notAgg_size h hag)
    refine ⟨by simp [h1], fun i y v hy hv => ?_⟩
    cases i with
    | zero =>
      simp only [List.getElem?_cons_zero, Option.some.injEq] at hy
      simp at hv
      subst hy; subst hv
      have := repA_of_c h
      rw [hag] at this
      exact this
    | succ i =>
      simp only [List.getElem?_cons_succ] at hy
      simp at hv
      exact h2 i y v hy hv
theorem evals_rep {S : St} {ρ : Nat → Option Nat} {X : Nat → Prop} {a : Act} {w : World} (hs : Sim S ρ X a w) {c : Call} {x : Operand} {f : FuncId} {caps : List AV} (hx : S.ev x = .fn (.func f) caps) (hsg : caps.all AV.single = true) :
    ∃ cvs : List Value, a.eval x = .func (.func f) #[] cvs.toArray ∧ (c.args.toList.map S.ev ++ caps).length = (c.args.toList.map a.eval ++ cvs).length ∧
      (∀ (i : Nat) (y : AV) (v : Value), (c.args.toList.map S.ev ++ caps)[i]? = some y → (c.args.toList.map a.eval ++ cvs)[i]? = some v → RepA ρ X w y v) ∧
      ∀ n, n ∈ AV.namesL (c.args.toList.map S.ev ++ caps) → S.hp n ≠ none := by
  have he := hs.ev x
  have hn := hs.evNames x
  rw [hx] at he hn
  obtain ⟨cs, h1, h2⟩ := he
  have nmApp : ∀ {n : Nat} {l m : List AV}, n ∈ AV.namesL (l ++ m) → n ∈ AV.namesL l ∨ n ∈ AV.namesL m := by
    intro n l m
    induction l with
    | nil => intro h; exact .inr h
    | cons y l ih =>
      intro h
      simp only [List.cons_append, AV.namesL, List.mem_append] at h ⊢
      rcases h with h | h
      · exact .inl (.inl h)
      · rcases ih h with h | h
        · exact .inl (.inr h)
        · exact .inr h
  have nmMap : ∀ {n : Nat} {l : List Operand}, n ∈ AV.namesL (l.map S.ev) → S.hp n ≠ none := by
    intro n l
    induction l with
    | nil => intro h; cases h
    | cons y l ih =>
      intro h
      simp only [List.map_cons, AV.namesL, List.mem_append] at h
      rcases h with h | h
      · exact hs.evNames y n h
      · exact ih h
  cases h1 with
  | fn hcs =>
    rename_i vs
    obtain ⟨k1, k2⟩ := hcs.singles hsg
    refine ⟨vs, h2, by simp [k1], fun i y v hy hv => ?_, fun n h => ?_⟩
    · by_cases hi : i < c.args.toList.length
      · rw [List.getElem?_append_left (by simpa using hi)] at hy hv
        rw [List.getElem?_map] at hy hv
        cases hp : c.args.toList[i]? with
        | none => rw [hp] at hy; cases hy
        | some p =>
          rw [hp] at hy hv
          simp only [Option.map_some, Option.some.injEq] at hy hv
          subst hy; subst hv
          exact hs.ev p
      · rw [List.getElem?_append_right (by simp at hi ⊢; omega)] at hy hv
        simp only [List.length_map] at hy hv
        exact k2 _ y v hy hv
    · rcases nmApp h with h | h
      · exact nmMap h
      · exact hn n h
theorem does_call {P : Program} {o : Oper} {S : St} {c : Call} {x : Operand} {a : Act} {w : World} {ρ : Nat → Option Nat} {X : Nat → Prop} (hs : Sim S ρ X a w) (ho : o.op = .call c) (hc : c.callee = .value x) {f : FuncId} {caps : List AV}
    (hx : S.ev x = .fn (.func f) caps) (hsg : caps.all AV.single = true) (hf : callable P f = true) {ms : List Bool} {args' : List AV} {fz : List Nat} {s : Prop} (hcv : cvt S.hp ms (c.args.toList.map S.ev ++ caps) = some (s, args', fz)) (hside : s)
    {R Rp : Value → World → Prop}
    (h : ∀ vs, RepT ρ (less S.hp ρ X fz) w args' vs → (∀ n, n ∈ AV.namesL args' → wr S.hp (deads fz) n ≠ none) → Calls P f vs.toArray w fun e w' => match e with
      | .returned v => R v w'
      | .panicked ch => ∃ pv, ch = [{ v := pv, recovered := false }] ∧ Rp pv w'
      | .outgrown => False) : Does P o a w R Rp := by
  obtain ⟨cvs, e1, e2, e3, e4⟩ := evals_rep hs (c := c) hx hsg
  have hr := cvt_rep hs hcv hside (F := fz) (fun _ h => h) e2 e3
  have hn : ∀ n, n ∈ AV.namesL args' → wr S.hp (deads fz) n ≠ none := fun n hn => wr_ne (e4 n ((cvt_names hcv).1 hn))
  have key := h _ hr hn
  have hrun : (execOp a.eval o).run P w = .ok (.enter f (c.args.toList.map a.eval ++ cvs).toArray) w := by
    simp only [execOp, ho, resolve, hc, e1, Deferred.ofValue]
    rw [run_bind_ok (run_pure _ w)]
    simp only [invoke]
    have : (#[] ++ c.args.map a.eval) ++ cvs.toArray = (c.args.toList.map a.eval ++ cvs).toArray := by
      apply Array.ext'; simp
    rw [this]
    exact callable_run hf _ w
  unfold Does
  rw [hrun]
  exact key
def fN (n : Nat) (K : Nat → Prop) : Prop := match n with
  | 0 => K 0
  | n + 1 => K (n + 1)
theorem fN_eq (n : Nat) (K : Nat → Prop) : fN n K = K n := by cases n <;> rfl
def fNs : List Nat → (List Nat → Prop) → Prop
  | [], K => K []
  | n :: l, K => fN n fun m => fNs l fun l' => K (m :: l')
theorem fNs_eq : ∀ (l : List Nat) (K : List Nat → Prop), fNs l K = K l
  | [], _ => rfl
  | n :: l, K => by simp only [fNs, fN_eq, fNs_eq l]
def fK (k : IntKind) (K : IntKind → Prop) : Prop := match k with
  | .i8 => K .i8
  | .i16 => K .i16
  | .i32 => K .i32
  | .i64 => K .i64
  | .u8 => K .u8
  | .u16 => K .u16
  | .u32 => K .u32
  | .u64 => K .u64
theorem fK_eq (k : IntKind) (K : IntKind → Prop) : fK k K = K k := by cases k <;> rfl
mutual
def fD : D → (D → Prop) → Prop
  | .int k n, K => fK k fun k' => K (.int k' n)
  | .bool b, K => K (.bool b)
  | .str s, K => K (.str s)
  | .st fs, K => fDs fs fun fs' => K (.st fs')
  | .arr n e xs, K => fN n fun n' => fN e fun e' => K (.arr n' e' xs)
  | .sl xs, K => K (.sl xs)
  | .nils, K => K .nils
  | .nilp, K => K .nilp
  | .nilf, K => K .nilf
  | .nili, K => K .nili
def fDs : List D → (List D → Prop) → Prop
  | [], K => K []
  | x :: xs, K => fD x fun y => fDs xs fun ys => K (y :: ys)
end
mutual
theorem fD_eq : ∀ (x : D) (K : D → Prop), fD x K = K x
  | .int k n, K => by simp only [fD, fK_eq]
  | .bool _, _ | .str _, _ | .sl _, _ | .nils, _ | .nilp, _ | .nilf, _ | .nili, _ => by simp only [fD]
  | .st fs, K => by simp only [fD]; rw [fDs_eq fs]
  | .arr n e xs, K => by simp only [fD, fN_eq]
theorem fDs_eq : ∀ (xs : List D) (K : List D → Prop), fDs xs K = K xs
  | [], _ => by simp only [fDs]
  | x :: xs, K => by
    simp only [fDs]
    rw [fD_eq x, fDs_eq xs]
end
def fPath : List Stp → (List Stp → Prop) → Prop
  | [], K => K []
  | .fld i o :: p, K => fN i fun i' => fN o fun o' => fPath p fun q => K (.fld i' o' :: q)
  | .ix i e :: p, K => fN e fun e' => fPath p fun q => K (.ix i e' :: q)
theorem fPath_eq : ∀ (p : List Stp) (K : List Stp → Prop), fPath p K = K p
  | [], _ => rfl
  | .fld i o :: p, K => by simp only [fPath, fN_eq, fPath_eq p]
  | .ix i e :: p, K => by simp only [fPath, fN_eq, fPath_eq p]
def fFn (f : Fn) (K : Fn → Prop) : Prop := match f with
  | .func n => fN n fun n => K (.func n)
  | f => K f
theorem fFn_eq (f : Fn) (K : Fn → Prop) : fFn f K = K f := by cases f <;> simp only [fFn, fN_eq]
mutual
def fAV : AV → (AV → Prop) → Prop
  | .d x, K => fD x fun y => K (.d y)
  | .ptr o p, K => fN o fun o' => fPath p fun q => K (.ptr o' q)
  | .sl o p e off len, K => fN o fun o' => fPath p fun q => fN e fun e' => K (.sl o' q e' off len)
  | .st fs, K => fAVs fs fun fs' => K (.st fs')
  | .dptr x, K => fD x fun y => K (.dptr y)
  | .fn f cs, K => fFn f fun f' => fAVs cs fun cs' => K (.fn f' cs')
  | .tup vs, K => fAVs vs fun vs' => K (.tup vs')
  | .top, K => K .top
  | .cst v, K => K (.cst v)
def fAVs : List AV → (List AV → Prop) → Prop
  | [], K => K []
  | x :: xs, K => fAV x fun y => fAVs xs fun ys => K (y :: ys)
end
mutual
theorem fAV_eq : ∀ (x : AV) (K : AV → Prop), fAV x K = K x
  | .d x, K => by simp only [fAV, fD_eq]
  | .ptr o p, K => by simp only [fAV, fN_eq, fPath_eq]
  | .sl o p e off len, K => by simp only [fAV, fN_eq, fPath_eq]
  | .st fs, K => by simp only [fAV]; rw [fAVs_eq fs]
  | .dptr x, K => by simp only [fAV, fD_eq]
  | .fn f cs, K => by simp only [fAV, fFn_eq]; rw [fAVs_eq cs]
  | .tup vs, K => by simp only [fAV]; rw [fAVs_eq vs]
  | .top, K => by simp only [fAV]
  | .cst v, K => by simp only [fAV]
theorem fAVs_eq : ∀ (xs : List AV) (K : List AV → Prop), fAVs xs K = K xs
  | [], _ => by simp only [fAVs]
  | x :: xs, K => by
    simp only [fAVs]
    rw [fAV_eq x, fAVs_eq xs]
end
def fObj : AObj → (AObj → Prop) → Prop
  | .var x, K => fAV x fun y => K (.var y)
  | .row e xs, K => fN e fun e' => K (.row e' xs)
  | .dead, K => K .dead
theorem fObj_eq : ∀ (x : AObj) (K : AObj → Prop), fObj x K = K x
  | .var x, K => by simp only [fObj, fAV_eq]
  | .row e xs, K => by simp only [fObj, fN_eq]
  | .dead, K => rfl
def fWs : List (Nat × AObj) → (List (Nat × AObj) → Prop) → Prop
  | [], K => K []
  | p :: l, K => fN p.1 fun n => fObj p.2 fun x => fWs l fun l' => K ((n, x) :: l')
theorem fWs_eq : ∀ (l : List (Nat × AObj)) (K : List (Nat × AObj) → Prop), fWs l K = K l
  | [], _ => rfl
  | p :: l, K => by simp only [fWs, fN_eq, fObj_eq, fWs_eq l]
def fFoot (φ : Foot) (K : Foot → Prop) : Prop := fNs φ.rd fun a => fNs φ.wr fun b => fNs φ.nw fun c => K ⟨a, b, c⟩
theorem fFoot_eq (φ : Foot) (K : Foot → Prop) : fFoot φ K = K φ := by simp only [fFoot, fNs_eq]
structure Side (p : Prop) : Prop where
  h : p
theorem Side_eq (p : Prop) : Side p = p := propext ⟨fun h => h.h, fun h => ⟨h⟩⟩
structure Chk (b : Bool) : Prop where
  h : b = true
theorem Chk_eq (b : Bool) : Chk b = (b = true) := propext ⟨fun h => h.h, fun h => ⟨h⟩⟩
structure Later (p : Prop) : Prop where
  h : p
theorem Later_eq (p : Prop) : Later p = p := propext ⟨fun h => h.h, fun h => ⟨h⟩⟩
end Go.Sym

namespace Go.Sym
abbrev Foots := List (Nat × Foot)
structure bcase (b : Bool) (f : Bool → Prop) : Prop where
  t : b = true → f true
  f : b = false → f false
theorem bcase_eq (b : Bool) (f : Bool → Prop) : bcase b f = ((b = true → f true) ∧ (b = false → f false)) := propext ⟨fun h => ⟨h.t, h.f⟩, fun h => ⟨h.1, h.2⟩⟩
def nmOf (rid i : Nat) : Nat := (rid + 1) * 1000 + i * 4
def gdTmp (ops : List Oper) (j : Nat) : Option Tmp := (ops[j]?).bind (·.dst)
def befs : List Oper → List Nat → List Nat
  | [], acc => acc
  | o :: os, acc => befs os (acc ++ [o.after.toList.foldl (fun s e => bif Region.binds .any e then s ||| 2 ^ e.on ||| acc.getD e.on 0 else s) 0])
def befT (B : List Nat) (j i : Nat) : Bool := (B.getD j 0).testBit i
def bef (ops : List Oper) (j i : Nat) : Bool := befT (befs ops []) j i
def descMask (ops : List Oper) (i : Nat) : Nat := (List.range ops.length).foldl (fun s j => bif bef ops j i then s ||| 2 ^ j else s) 0
def disj (a b : List Nat) : Bool := a.all fun n => !b.contains n
def indep (ops : List Oper) (a b : Nat × Foot) : Bool :=
  (match ops[a.1]?, ops[b.1]? with
  | some x, some y => x.apart ops.toArray y
  | _, _ => false) && disj a.2.wr b.2.rd && disj a.2.wr b.2.wr && disj b.2.wr a.2.rd && disj a.2.nw b.2.nw && disj a.2.nw b.2.rd && disj a.2.nw b.2.wr && disj b.2.nw a.2.rd && disj b.2.nw a.2.wr
def okPairsT (B : List Nat) (ops : List Oper) : Foots → Bool
  | [] => true
  | b :: l => l.all (fun a => befT B b.1 a.1 || indep ops a b) && okPairsT B ops l
def okPairs (ops : List Oper) (l : Foots) : Bool := okPairsT (befs ops []) ops l
def panOf (S : St) : Op → Option Value
  | .panic x => match S.ev x with
    | .cst (.iface t v) => some (.iface t v)
    | _ => none
  | _ => none
section
variable (P : Program) (ops : List Oper) (rid : Nat) (chk : Foots → Prop)
structure vcCall (f : FuncId) (args : List AV) (S : St) (K : AV → List (Nat × AObj) → Foot → Prop) (Kp : Value → List (Nat × AObj) → Foot → Prop) : Prop where
  h : (∃ (ms : List Bool) (args' : List AV) (fz : List Nat) (s : Prop) (pre : List (Nat × AObj)) (nw : List Nat) (r : AV) (ws : List (Nat × AObj)),
    cvt S.hp ms args = some (s, args', fz) ∧ s ∧ preOK S.hp pre ∧ okNames S.hp pre fz nw ws = true ∧ callable P f = true ∧ LocalCall P f args' pre nw r ws ∧
      K r (ws ++ deads fz) ⟨AV.namesL args ++ pre.map (·.1), fz ++ (ws.map (·.1)).filter (fun n => !nw.contains n), nw⟩) ∨
  (∃ (ms : List Bool) (args' : List AV) (fz : List Nat) (s : Prop) (pre : List (Nat × AObj)) (nw : List Nat) (pv : Value) (ws : List (Nat × AObj)),
    cvt S.hp ms args = some (s, args', fz) ∧ s ∧ preOK S.hp pre ∧ okNames S.hp pre fz nw ws = true ∧ callable P f = true ∧ LocalPan P f args' pre nw pv ws ∧
      Kp pv (ws ++ deads fz) ⟨AV.namesL args ++ pre.map (·.1), fz ++ (ws.map (·.1)).filter (fun n => !nw.contains n), nw⟩)
def vcOp (i : Nat) (o : Oper) (S : St) (K : AV → List (Nat × AObj) → Foot → Prop) (Kp : Value → List (Nat × AObj) → Foot → Prop) : Prop :=
  match calleeOf S o.op with
  | some (f, args) => fN f fun f => fAVs args fun args => vcCall P f args S K Kp
  | none => match panOf S o.op with
  | some pv => Kp pv [] ⟨[], [], []⟩
  | none => match aOp P (nmOf rid i) o.op S.ev (rst S.hp (opNames S o.op)) with
    | some res => bif (S.hp (nmOf rid i)).isNone then Side res.side ∧ fAV res.r fun r => fWs res.ws fun ws => fFoot ⟨nmOf rid i :: opNames S o.op, (ws.map (·.1)).filter (fun n => !n.beq (nmOf rid i)), (ws.map (·.1)).filter (fun n => n.beq (nmOf rid i))⟩ fun φ => K r ws φ else False
    | none => False
def isDefer : Op → Bool
  | .defer _ => true
  | _ => false
def wrt (ops : List Oper) (t : Nat) : Bool := ops.any fun o => match o.dst with
  | some d => d.beq t
  | none => false
theorem wrt_of {ops : List Oper} {i : Nat} {o : Oper} (h : ops[i]? = some o) : ∀ t, o.dst = some t → wrt ops t = true := fun t ht => by
  refine List.any_eq_true.2 ⟨o, List.mem_of_getElem? h, ?_⟩
  rw [ht]; simp
def St.blank (ops : List Oper) (S : St) : St := { S with sl := fun t => bif wrt ops t then .top else S.sl t }
def quietF (φ : Foot) : Bool := φ.wr.isEmpty && φ.nw.isEmpty
def quiet (q : Bool) (ws : List (Nat × AObj)) (φ : Foot) : Bool := !q || (ws.isEmpty && quietF φ)
def freshF (q : Bool) (S : St) (ws : List (Nat × AObj)) (φ : Foot) : Bool := q && !ws.isEmpty && φ.wr.isEmpty && φ.nw.all fun n => φ.rd.contains n && (S.hp n).isNone
def stepOp (V : Bool → Nat → Nat → St → Foots → (St → Prop) → (Value → St → Prop) → Prop) (o : Oper) (q : Bool) (i m : Nat) (S : St) (acc : Foots) (K : St → Prop) (Kp : Value → St → Prop) : Prop :=
  fN (i + 1) fun i' =>
    bif m.testBit i then V q i' m S acc K Kp else
    match o.guard with
    | none => vcOp P rid i o S (fun r ws φ => bif quiet q ws φ then V q i' m (S.upd o.dst r ws) ((i, φ) :: acc) K Kp else bif freshF q S ws φ then V q i' m (S.upd o.dst .top []) ((i, ⟨φ.rd, [], []⟩) :: acc) K Kp else False)
        (fun pv ws φ => bif q then False else Chk (acc.all fun p => bef ops i p.1 || quietF p.2) ∧ Kp pv ((S.upd none .top ws).blank ops) ∧ V true i' (m ||| descMask ops i) S ((i, φ) :: acc) (fun _ => True) (fun _ _ => False))
    | some (j, want) => match gdTmp ops j with
      | none => False
      | some t => fN t fun t => bif Nat.blt t S.n then match S.sl t with
          | .d (.bool b) => bcase b fun c =>
            bif c == want then vcOp P rid i o (S.put (some t) (.d (.bool c))) (fun r ws φ => bif quiet q ws φ then V q i' m ((S.put (some t) (.d (.bool c))).upd o.dst r ws) ((i, φ) :: acc) K Kp else bif freshF q (S.put (some t) (.d (.bool c))) ws φ then V q i' m ((S.put (some t) (.d (.bool c))).upd o.dst .top []) ((i, ⟨φ.rd, [], []⟩) :: acc) K Kp else False)
              (fun pv ws φ => bif q then False else Chk (acc.all fun p => bef ops i p.1 || quietF p.2) ∧ Kp pv (((S.put (some t) (.d (.bool c))).upd none .top ws).blank ops) ∧ V true i' (m ||| descMask ops i) (S.put (some t) (.d (.bool c))) ((i, φ) :: acc) (fun _ => True) (fun _ _ => False))
            else bif isDefer o.op then False else V q i' m ((S.put (some t) (.d (.bool c))).upd o.dst (.tup []) []) ((i, ⟨[], [], []⟩) :: acc) K Kp
          | .tup [] => bif isDefer o.op then False else V q i' m (S.upd o.dst (.tup []) []) ((i, ⟨[], [], []⟩) :: acc) K Kp
          | _ => False
        else False
def vcOps : List Oper → Bool → Nat → Nat → St → Foots → (St → Prop) → (Value → St → Prop) → Prop
  | [], _, _, _, S, acc, K, _ => chk acc ∧ K S
  | o :: rest, q, i, m, S, acc, K, Kp => stepOp P ops rid (fun q i m S acc K Kp => Later (vcOps rest q i m S acc K Kp)) o q i m S acc K Kp
end
inductive Tr (P : Program) (ops : List Oper) : Bool → Option Nat → List Nat → St → Foots → St ⊕ (Value × St) → Prop
  | nil {q : Bool} {S : St} : Tr P ops q none [] S [] (.inl S)
  | step {q : Bool} {pi : Option Nat} {i : Nat} {o : Oper} {L : List Nat} {S : St} {φ : Foot} {r : AV} {ws : List (Nat × AObj)} {fs : Foots} {out : St ⊕ (Value × St)} : ops[i]? = some o → LStep P ops.toArray i S φ r ws → (q = true → ws = [] ∧ quietF φ = true) →
      (∀ i', pi = some i' → bef ops i' i = true ∨ quietF φ = true) → Tr P ops q pi L (S.upd o.dst r ws) fs out → Tr P ops q pi (i :: L) S ((i, φ) :: fs) out
  | pan {i : Nat} {L : List Nat} {S S' : St} {φ : Foot} {pv : Value} {ws : List (Nat × AObj)} {fs : Foots} : LPan P ops.toArray i S φ pv ws → Tr P ops true none (L.filter fun j => !(descMask ops i).testBit j) S fs (.inl S') → Tr P ops false (some i) (i :: L) S ((i, φ) :: fs) (.inr (pv, ((S.upd none .top ws).blank ops)))
theorem looks_guard {ops : List Oper} {o : Oper} {j : Nat} {want : Bool} {t : Tmp} (hg : o.guard = some (j, want)) (ht : gdTmp ops j = some t) : t ∈ o.looksAt ops.toArray := by
  unfold Oper.looksAt
  rw [hg]
  refine List.mem_append_right _ ?_
  have : (ops.toArray[j]?).bind (·.dst) = some t := by simpa [gdTmp] using ht
  show t ∈ ((ops.toArray[j]?).bind (·.dst)).toList
  rw [this]; simp
theorem wanted_guard {ops : List Oper} {o : Oper} {j : Nat} {want b : Bool} {t : Tmp} (hg : o.guard = some (j, want)) (ht : gdTmp ops j = some t) {S : St} {ρ : Nat → Option Nat} {X : Nat → Prop} {a : Act} {w : World} (hs : Sim S ρ X a w)
    (hn : Nat.blt t S.n = true) (hb : S.sl t = .d (.bool b)) : Region.wanted o (yielded ops.toArray a.tmps) = (b == want) := by
  have h1 : (ops.toArray[j]?).bind (·.dst) = some t := by simpa [gdTmp] using ht
  have hlt : t < a.tmps.size := by rw [hs.n]; simpa using hn
  have hv : a.tmps[t]? = some a.tmps[t] := Array.getElem?_eq_getElem hlt
  have hr := hs.slots t _ hv
  rw [hb] at hr
  have hbv := repA_bool hr
  simp only [Region.wanted, hg, yielded, h1, Option.bind_some, hv, hbv]
  cases b <;> cases want <;> rfl
theorem wanted_undef {ops : List Oper} {o : Oper} {j : Nat} {want : Bool} {t : Tmp} (hg : o.guard = some (j, want)) (ht : gdTmp ops j = some t) {S : St} {ρ : Nat → Option Nat} {X : Nat → Prop} {a : Act} {w : World} (hs : Sim S ρ X a w)
    (hn : Nat.blt t S.n = true) (hb : S.sl t = .tup []) : Region.wanted o (yielded ops.toArray a.tmps) = false := by
  have h1 : (ops.toArray[j]?).bind (·.dst) = some t := by simpa [gdTmp] using ht
  have hlt : t < a.tmps.size := by rw [hs.n]; simpa using hn
  have hv : a.tmps[t]? = some a.tmps[t] := Array.getElem?_eq_getElem hlt
  have hr := hs.slots t _ hv
  rw [hb] at hr
  obtain ⟨us, hu, _⟩ := hr
  simp only [Region.wanted, hg, yielded, h1, Option.bind_some, hv, hu]
  rfl
theorem wanted_none {ops : Array Oper} {o : Oper} (hg : o.guard = none) (a : Act) : Region.wanted o (yielded ops a.tmps) = true := by
  simp [Region.wanted, hg]
theorem opNames_congr {ops : Array Oper} {o : Oper} {φ : Foot} {S S' : St} (h : Agree ops o φ S S') : opNames S' o.op = opNames S o.op := by
  unfold opNames
  have : o.op.operands.toList.map S'.ev = o.op.operands.toList.map S.ev := List.map_congr_left fun p hp => h.ev p (by simpa using hp)
  rw [this]
theorem nodef_call {S : St} {op : Op} {p : FuncId × List AV} (h : calleeOf S op = some p) : ∀ c, op ≠ .defer c := fun c e => by
  subst e; simp [calleeOf] at h
theorem nodef_op {P : Program} {nm : Nat} {op : Op} {ev : Operand → AV} {hp : Nat → Option AObj} {res : Res} (h : aOp P nm op ev hp = some res) : ∀ c, op ≠ .defer c := fun c e => by
  subst e; simp [aOp] at h
theorem vcOp_local {P : Program} {ops : List Oper} {rid i : Nat} {o : Oper} {S : St} {K : AV → List (Nat × AObj) → Foot → Prop} {Kp : Value → List (Nat × AObj) → Foot → Prop} (hi : ops[i]? = some o)
    (hw : ∀ (φ : Foot) S', Agree ops.toArray o φ S S' → ∀ ρ X a w, Sim S' ρ X a w → Region.wanted o (yielded ops.toArray a.tmps) = true) (h : vcOp P rid i o S K Kp) :
    (∃ φ r ws, LStep P ops.toArray i S φ r ws ∧ K r ws φ) ∨ (∃ φ pv ws, LPan P ops.toArray i S φ pv ws ∧ Kp pv ws φ) := by
  have hi' : ops.toArray[i]? = some o := by simpa using hi
  unfold vcOp at h
  split at h
  · rename_i f args hcal
    rw [fN_eq, fAVs_eq] at h
    have hnd := nodef_call hcal
    have hc : ∃ c x caps, o.op = .call c ∧ c.callee = .value x ∧ S.ev x = .fn (.func f) caps ∧ caps.all AV.single = true ∧ args = c.args.toList.map S.ev ++ caps := by
      unfold calleeOf at hcal
      split at hcal <;> try (cases hcal; done)
      rename_i c ho
      split at hcal <;> try (cases hcal; done)
      rename_i x hx
      split at hcal <;> try (cases hcal; done)
      rename_i g caps hev
      cases hb : caps.all AV.single <;> simp only [hb, cond_true, cond_false] at hcal <;> cases hcal
      exact ⟨c, x, caps, ho, hx, hev, hb, rfl⟩
    obtain ⟨c, x, caps, ho, hx, hev, hsg, hargs⟩ := hc
    have ops_x : x ∈ o.op.operands := by rw [ho]; simp [Op.operands, Call.operands, hx]
    have ops_a : ∀ y, y ∈ c.args.toList → y ∈ o.op.operands := fun y hy => by rw [ho]; simp [Op.operands, Call.operands, hx]; right; simpa using hy
    have com : ∀ {ms : List Bool} {args' : List AV} {fz : List Nat} {s : Prop} {pre : List (Nat × AObj)} {nw : List Nat} {ws : List (Nat × AObj)} {φ : Foot}, φ = ⟨AV.namesL args ++ pre.map (·.1), fz ++ (ws.map (·.1)).filter (fun n => !nw.contains n), nw⟩ →
        cvt S.hp ms args = some (s, args', fz) → preOK S.hp pre → okNames S.hp pre fz nw ws = true → (∀ n, n ∈ nw → S.hp n = none) ∧ (∀ n, lkp (ws ++ deads fz) n ≠ none → n ∈ φ.wr ∨ n ∈ φ.nw) ∧
        ∀ S', Agree ops.toArray o φ S S' → S'.ev x = .fn (.func f) caps ∧ cvt S'.hp ms (c.args.toList.map S'.ev ++ caps) = some (s, args', fz) ∧ (∀ p, p ∈ pre → wr S'.hp (deads fz) p.1 = some p.2) ∧
          (∀ ρ X a w, Sim S' ρ X a w → ∀ n, n ∈ nw → wr S'.hp (deads fz) n = none) := by
      intro ms args' fz s pre nw ws φ hφ h1 h3 h4
      simp only [okNames, Bool.and_eq_true, List.all_eq_true, Bool.or_eq_true, Bool.not_eq_true', List.contains_eq_mem, decide_eq_true_eq, decide_eq_false_iff_not, Option.isNone_iff_eq_none] at h4
      obtain ⟨⟨n1, n2⟩, n3⟩ := h4
      refine ⟨n3, fun n hn => ?_, fun S' ha => ?_⟩
      · subst hφ
        cases hl : lkp (ws ++ deads fz) n with
        | none => exact absurd hl hn
        | some y =>
          have := lkp_mem hl
          rcases List.mem_append.1 this with hm | hm
          · have hm' : n ∈ ws.map (·.1) := List.mem_map.2 ⟨_, hm, rfl⟩
            by_cases hnw : n ∈ nw
            · exact .inr hnw
            · exact .inl (by simp only [List.mem_append, List.mem_filter]; exact .inr ⟨hm', by simpa using hnw⟩)
          · simp [deads] at hm
            obtain ⟨n', hm1, rfl, _⟩ := hm
            exact .inl (by simp only [List.mem_append]; exact .inl hm1)
      · have hev' : S'.ev x = .fn (.func f) caps := by rw [ha.ev x ops_x]; exact hev
        have hmap : c.args.toList.map S'.ev = c.args.toList.map S.ev := List.map_congr_left fun p hp => ha.ev p (ops_a p hp)
        have hrd : ∀ n, n ∈ AV.namesL args ∨ n ∈ pre.map (·.1) → S'.hp n = S.hp n := fun n hn => ha.rd n (by rw [hφ]; exact List.mem_append.2 hn)
        have hnwS : ∀ n, n ∈ nw → S'.hp n = none := fun n hn => ha.nw n (by rw [hφ]; exact hn)
        have hcv : cvt S'.hp ms (c.args.toList.map S'.ev ++ caps) = some (s, args', fz) := by
          rw [hmap, ← hargs, cvt_congr (hp := S.hp) (fun n hn => hrd n (.inl hn))]; exact h1
        have hfzd : ∀ n, n ∈ fz → n ∈ AV.namesL args := fun n hn => (cvt_names h1).2 hn
        refine ⟨hev', hcv, fun p hp => ?_, fun ρ X a w hs n hn => ?_⟩
        · have hnf : lkp (deads fz) p.1 = none := by
            cases hl : lkp (deads fz) p.1 with
            | none => rfl
            | some y => exact absurd (lkp_deads hl).2 (n2 p hp)
          simp only [wr, hnf]
          rw [hrd p.1 (.inr (List.mem_map.2 ⟨p, hp, rfl⟩))]
          exact preOK_spec h3 p hp
        · have hnf : lkp (deads fz) n = none := by
            cases hl : lkp (deads fz) n with
            | none => rfl
            | some y =>
              exfalso
              have hm := hfzd n (lkp_deads hl).2
              rw [hargs] at hm
              have hdom' := (evals_rep hs (c := c) hev' hsg).choose_spec.2.2.2 n (by rw [hmap]; exact hm)
              rw [hnwS n hn] at hdom'
              exact hdom' rfl
          simp only [wr, hnf]
          exact hnwS n hn
    rcases h.h with ⟨ms, args', fz, s, pre, nw, r, ws, h1, h2, h3, h4, h5, h6, h7⟩ | ⟨ms, args', fz, s, pre, nw, pv, ws, h1, h2, h3, h4, h5, h6, h7⟩
    · left
      obtain ⟨c1, c2, c3⟩ := com rfl h1 h3 h4
      refine ⟨_, r, _, ⟨o, hi', hnd, c2, c1, fun S' ha ρ X a w hs => ⟨fun _ => ?_, fun hf => ?_⟩⟩, h7⟩
      · obtain ⟨e1, e2, e3, e4⟩ := c3 S' ha
        refine does_call hs ho hx e1 hsg h5 e2 h2 fun vs hvs hdom => ?_
        refine (h6 _ e3 (e4 ρ X a w hs) ρ (less S'.hp ρ X fz) w vs (hs.kill fz).heap hvs hdom).mono fun e w' hq => ?_
        obtain ⟨v, rfl, ρ', X', q1, q2, q3, q4⟩ := hq
        exact ⟨ρ', X', hs.killCall q1 q2 q3 q4⟩
      · rw [hw _ S' ha ρ X a w hs] at hf; cases hf
    · right
      obtain ⟨c1, c2, c3⟩ := com rfl h1 h3 h4
      refine ⟨_, pv, _, ⟨o, hi', hnd, c1, fun S' ha ρ X a w hs => ⟨hw _ S' ha ρ X a w hs, ?_⟩⟩, h7⟩
      obtain ⟨e1, e2, e3, e4⟩ := c3 S' ha
      refine does_call hs ho hx e1 hsg h5 e2 h2 fun vs hvs hdom => ?_
      refine (h6 _ e3 (e4 ρ X a w hs) ρ (less S'.hp ρ X fz) w vs (hs.kill fz).heap hvs hdom).mono fun e w' hq => ?_
      obtain ⟨rfl, ρ', X', q1, q2⟩ := hq
      exact ⟨pv, rfl, rfl, ρ', X', hs.killCall (dst := none) (r := .top) (v := undef) q1 q2 trivial (fun _ h => by cases h)⟩
  · split at h
    · rename_i pv hpan
      right
      have hp : ∃ x t v, o.op = .panic x ∧ S.ev x = .cst (.iface t v) ∧ pv = .iface t v := by
        unfold panOf at hpan
        split at hpan <;> try (cases hpan; done)
        rename_i x ho
        split at hpan <;> try (cases hpan; done)
        rename_i t v hx
        cases hpan
        exact ⟨x, t, v, ho, hx, rfl⟩
      obtain ⟨x, t, v, ho, hx, rfl⟩ := hp
      refine ⟨_, _, _, ⟨o, hi', (fun c e => by rw [ho] at e; cases e), (fun n hn => by cases hn), fun S' ha ρ X a w hs => ⟨hw _ S' ha ρ X a w hs, ?_⟩⟩, h⟩
      have he := hs.ev x
      rw [ha.ev x (by rw [ho]; simp [Op.operands]), hx] at he
      obtain ⟨cs, h1, h2⟩ := he
      have hv : a.eval x = .iface t v := by
        cases h1 with
        | cst _ => exact h2
      have hrun : (execOp a.eval o).run P w = .halt (.panic (.iface t v)) w := by
        simp only [execOp, ho, hv, Instr.panic, goPanic]
        rfl
      unfold Does
      rw [hrun]
      obtain ⟨k1, k2⟩ := hs.put (dst := none) (r := .top) (v := undef) trivial (fun _ h => by cases h)
      exact ⟨rfl, ρ, X, k1, k2⟩
    split at h <;> try (exact h.elim)
    rename_i hcal hpan res hop
    cases hfr : (S.hp (nmOf rid i)).isNone <;> simp only [hfr, cond_true, cond_false] at h <;> try (exact h.elim)
    obtain ⟨hside, hK⟩ := h
    rw [Side_eq] at hside
    simp only [fAV_eq, fWs_eq, fFoot_eq] at hK
    refine .inl ⟨_, res.r, res.ws, ⟨o, hi', nodef_op hop, fun n hn => ?_, fun n hn => ?_, fun S' ha ρ X a w hs => ⟨fun _ => ?_, fun hf => ?_⟩⟩, hK⟩
    · cases hl : lkp res.ws n with
      | none => exact absurd hl hn
      | some y =>
        have hm : n ∈ res.ws.map (·.1) := List.mem_map.2 ⟨_, lkp_mem hl, rfl⟩
        cases hb : n.beq (nmOf rid i) with
        | true => exact .inr (List.mem_filter.2 ⟨hm, hb⟩)
        | false => exact .inl (List.mem_filter.2 ⟨hm, by simp [hb]⟩)
    · have := Nat.eq_of_beq_eq_true (List.mem_filter.1 hn).2
      subst this; simpa using hfr
    · have hop' : aOp P (nmOf rid i) o.op S'.ev (rst S'.hp (opNames S' o.op)) = some res := by
        rw [opNames_congr ha, aOp_congr (ev' := S.ev) (fun x hx => ha.ev x hx), rst_congr (hp' := S.hp) (fun n hn => ha.rd n (List.mem_cons_of_mem _ hn))]
        exact hop
      exact aOp_sound (fun n x => rst_le) hop' hside (by rw [ha.rd _ (List.mem_cons_self ..)]; simpa using hfr) ρ X a w hs
    · rw [hw _ S' ha ρ X a w hs] at hf; cases hf
theorem St.put_same {S : St} {t : Tmp} {x : AV} (h : S.sl t = x) : S.put (some t) x = S := by
  simp only [St.put]
  congr 1
  funext u
  cases hb : t.beq u with
  | true => have := Nat.eq_of_beq_eq_true hb; subst this; simp [h]
  | false => simp
theorem quiet_spec {q : Bool} {ws : List (Nat × AObj)} {φ : Foot} (h : quiet q ws φ = true) : q = true → ws = [] ∧ quietF φ = true := by
  intro hq; subst hq
  simpa [quiet] using h
theorem Does.mono {P : Program} {o : Oper} {a : Act} {w : World} {R R' Rp : Value → World → Prop} (h : Does P o a w R Rp) (k : ∀ v w, R v w → R' v w) : Does P o a w R' Rp := by
  unfold Does at h ⊢
  generalize (execOp a.eval o).run P w = r at h ⊢
  cases r with
  | ok x w' =>
    cases x <;> first
      | exact k _ _ h
      | (refine Calls.mono h fun e w'' he => ?_
         cases e with
         | returned v => exact k _ _ he
         | panicked c => exact he
         | outgrown => exact he)
      | exact h
  | halt x w' => cases x <;> exact h
theorem LStep.forget {P : Program} {ops : Array Oper} {i : Nat} {S : St} {φ : Foot} {r : AV} {ws : List (Nat × AObj)} {q : Bool} (h : LStep P ops i S φ r ws) (hf : freshF q S ws φ = true) : LStep P ops i S ⟨φ.rd, [], []⟩ .top [] := by
  obtain ⟨o, h1, h2, h3, h4, h5⟩ := h
  simp only [freshF, Bool.and_eq_true, List.all_eq_true, List.isEmpty_iff, Bool.not_eq_true', List.contains_eq_mem, decide_eq_true_eq, Option.isNone_iff_eq_none, List.isEmpty_eq_false_iff] at hf
  obtain ⟨⟨⟨_, f1⟩, f2⟩, f3⟩ := hf
  refine ⟨o, h1, h2, fun n hn => absurd rfl hn, (fun n hn => by cases hn), fun S' ha ρ X a w hs => ?_⟩
  have hnone : ∀ n, n ∈ φ.nw → S'.hp n = none := fun n hn => by rw [ha.rd n (f3 n hn).1]; exact (f3 n hn).2
  have hws : ∀ n, lkp ws n ≠ none → S'.hp n = none := fun n hn => by
    rcases h3 n hn with h | h
    · rw [f2] at h; cases h
    · exact hnone n h
  have hup : ∀ n x, S'.hp n = some x → (S'.upd o.dst r ws).hp n = some x := fun n x hx => by
    rw [St.hp_upd]
    cases hl : lkp ws n with
    | none => exact hx
    | some y => rw [hws n (by rw [hl]; simp)] at hx; cases hx
  have hhp : (S'.upd o.dst .top []).hp = S'.hp := by
    funext n; rw [St.hp_upd]; rfl
  obtain ⟨k1, k2⟩ := h5 S' ⟨ha.n, ha.sl, ha.rd, (fun n hn => by rw [f2] at hn; cases hn), hnone⟩ ρ X a w hs
  refine ⟨fun hw => (k1 hw).mono fun v w' hv => ?_, fun hw => absurd (k2 hw).2 f1⟩
  obtain ⟨ρ', X', g1, g2⟩ := hv
  have hsl : ∀ t, (S'.upd o.dst .top []).sl t = .top ∨ ((S'.upd o.dst .top []).sl t = S'.sl t ∧ (S'.upd o.dst r ws).sl t = S'.sl t) := fun t => by
    rcases St.sl_put (S'.write []) o.dst .top t with ⟨e1, _⟩ | ⟨e1, e2⟩
    · exact .inl e1
    · rcases St.sl_put (S'.write ws) o.dst r t with ⟨_, e3⟩ | ⟨e3, _⟩
      · exact absurd e3 e2
      · exact .inr ⟨e1, e3⟩
  refine ⟨ρ', X', ⟨?_, fun t v' ht => ?_, fun n x hx => ?_, fun n n' x x' b q1 q2 q3 q4 q5 q6 => ?_, fun n x b q1 q2 q3 => ?_, fun t n hn => ?_, fun n x hx n' hn' => ?_⟩, g2.ext, g2.xs, fun n x b q1 q2 q3 => ?_, g2.same⟩
  · rw [g1.n]; simp only [St.upd, St.n_put, St.write]
  · rcases hsl t with e | ⟨e, e'⟩
    · rw [e]; trivial
    · rw [e, ← e']; exact g1.slots t v' ht
  · rw [hhp] at hx; exact g1.objs n x (hup n x hx)
  · rw [hhp] at q1 q3; exact g1.inj n n' x x' b (hup _ _ q1) q2 (hup _ _ q3) q4 q5 q6
  · rw [hhp] at q1; exact g1.own n x b (hup _ _ q1) q2 q3
  · rw [hhp]
    rcases hsl t with e | ⟨e, _⟩
    · rw [e] at hn; cases hn
    · rw [e] at hn; exact hs.closedS t n hn
  · rw [hhp] at hx ⊢; exact hs.closedH n x hx n' hn'
  · rw [hhp] at q1; exact g2.own n x b (hup _ _ q1) q2 q3
theorem Tr.noPan {P : Program} {ops : List Oper} {pi : Option Nat} {L : List Nat} {S S' : St} {fs : Foots} (t : Tr P ops true pi L S fs (.inl S')) : pi = none := by
  generalize hq : true = q at t
  generalize ho : Sum.inl S' = out at t
  induction t with
  | nil => rfl
  | step _ _ _ _ _ ih => exact ih hq ho
  | pan _ _ => cases hq
theorem vc_tr {P : Program} {ops : List Oper} {rid : Nat} {chk : Foots → Prop} : ∀ (pend : List Oper) (q : Bool) (i m : Nat) (S : St) (acc : Foots) (K : St → Prop) (Kp : Value → St → Prop), (∀ k o, pend[k]? = some o → ops[i + k]? = some o) →
    vcOps P ops rid chk pend q i m S acc K Kp → ∃ pi fs out, Tr P ops q pi ((List.range' i pend.length).filter fun j => !m.testBit j) S fs out ∧ chk (fs.reverse ++ acc) ∧ (∀ p, p ∈ acc → ∀ i', pi = some i' → bef ops i' p.1 = true ∨ quietF p.2 = true) ∧ match out with
      | .inl S' => K S'
      | .inr p => Kp p.1 p.2
  | [], q, i, m, S, acc, K, Kp, _, h => ⟨none, [], .inl S, .nil, h.1, (fun _ _ _ h => by cases h), h.2⟩
  | o :: rest, q, i, m, S, acc, K, Kp, hp, h => by
    have hi : ops[i]? = some o := hp 0 o rfl
    have hrest : ∀ k o', rest[k]? = some o' → ops[i + 1 + k]? = some o' := fun k o' hk => by
      have := hp (k + 1) o' (by simpa using hk)
      rw [show i + 1 + k = i + (k + 1) by omega]; exact this
    have hr' : List.range' i (o :: rest).length = i :: List.range' (i + 1) rest.length := List.range'_succ
    rw [hr']
    simp only [vcOps, stepOp, fN_eq, Later_eq] at h
    cases hm : m.testBit i <;> simp only [hm, cond_true, cond_false] at h
    · have hL : ((i :: List.range' (i + 1) rest.length).filter fun j => !m.testBit j) = i :: ((List.range' (i + 1) rest.length).filter fun j => !m.testBit j) := by
        simp [hm]
      rw [hL]
      have fin : ∀ (S : St), (∀ (φ : Foot) S', Agree ops.toArray o φ S S' → ∀ ρ X a w, Sim S' ρ X a w → Region.wanted o (yielded ops.toArray a.tmps) = true) →
          vcOp P rid i o S (fun r ws φ => bif quiet q ws φ then vcOps P ops rid chk rest q (i + 1) m (S.upd o.dst r ws) ((i, φ) :: acc) K Kp else bif freshF q S ws φ then vcOps P ops rid chk rest q (i + 1) m (S.upd o.dst .top []) ((i, ⟨φ.rd, [], []⟩) :: acc) K Kp else False)
            (fun pv ws φ => bif q then False else Chk (acc.all fun p => bef ops i p.1 || quietF p.2) ∧ Kp pv ((S.upd none .top ws).blank ops) ∧ vcOps P ops rid chk rest true (i + 1) (m ||| descMask ops i) S ((i, φ) :: acc) (fun _ => True) (fun _ _ => False)) →
          ∃ pi fs out, Tr P ops q pi (i :: ((List.range' (i + 1) rest.length).filter fun j => !m.testBit j)) S fs out ∧ chk (fs.reverse ++ acc) ∧ (∀ p, p ∈ acc → ∀ i', pi = some i' → bef ops i' p.1 = true ∨ quietF p.2 = true) ∧ match out with
            | .inl S' => K S'
            | .inr p => Kp p.1 p.2 := by
        intro S hw h
        rcases vcOp_local hi hw h with ⟨φ, r, ws, h1, h2⟩ | ⟨φ, pv, ws, h1, h2⟩
        · cases hq : quiet q ws φ <;> rw [hq] at h2
          · cases hfr : freshF q S ws φ <;> rw [hfr] at h2
            · exact h2.elim
            · obtain ⟨pi, fs, out, t1, t2, t4, t3⟩ := vc_tr rest q (i + 1) m _ _ K Kp hrest h2
              exact ⟨pi, (i, ⟨φ.rd, [], []⟩) :: fs, out, .step hi (h1.forget hfr) (fun _ => ⟨rfl, rfl⟩) (fun _ _ => .inr rfl) t1, by simpa using t2, fun p hp => t4 p (List.mem_cons_of_mem _ hp), t3⟩
          · obtain ⟨pi, fs, out, t1, t2, t4, t3⟩ := vc_tr rest q (i + 1) m _ _ K Kp hrest h2
            exact ⟨pi, (i, φ) :: fs, out, .step hi h1 (quiet_spec hq) (t4 (i, φ) (by simp)) t1, by simpa using t2, fun p hp => t4 p (List.mem_cons_of_mem _ hp), t3⟩
        · cases q with
          | true => exact h2.elim
          | false =>
            obtain ⟨h0, h2, h3⟩ := h2
            rw [Chk_eq] at h0
            simp only [List.all_eq_true, Bool.or_eq_true] at h0
            obtain ⟨pi, fs, out, t1, t2, _, t3⟩ := vc_tr rest _ _ _ _ _ _ _ hrest h3
            cases out with
            | inr _ => exact t3.elim
            | inl S' =>
              have : pi = none := t1.noPan
              subst this
              refine ⟨some i, (i, φ) :: fs, .inr (pv, ((S.upd none .top ws).blank ops)), .pan h1 (S' := S') ?_, by simpa using t2, (fun p hp i' hi' => by cases hi'; exact h0 p hp), h2⟩
              rw [List.filter_filter]
              have : (fun j => (!(descMask ops i).testBit j) && !m.testBit j) = fun j => !(m ||| descMask ops i).testBit j := by
                funext j
                rw [Nat.testBit_or]
                cases m.testBit j <;> cases (descMask ops i).testBit j <;> rfl
              rw [this]; exact t1
      cases hg : o.guard with
      | none =>
        rw [hg] at h
        exact fin S (fun φ S' _ ρ X a w _ => wanted_none hg a) h
      | some p =>
        obtain ⟨j, want⟩ := p
        rw [hg] at h
        simp only at h
        split at h <;> try (exact h.elim)
        rename_i t ht
        cases hn : Nat.blt t S.n <;> simp only [hn, cond_true, cond_false] at h <;> try (exact h.elim)
        split at h <;> try (exact h.elim)
        rename_i b hb
        have key : ∀ c, b = c → (bif c == want then vcOp P rid i o (S.put (some t) (.d (.bool c))) (fun r ws φ => bif quiet q ws φ then vcOps P ops rid chk rest q (i + 1) m ((S.put (some t) (.d (.bool c))).upd o.dst r ws) ((i, φ) :: acc) K Kp else bif freshF q (S.put (some t) (.d (.bool c))) ws φ then vcOps P ops rid chk rest q (i + 1) m ((S.put (some t) (.d (.bool c))).upd o.dst .top []) ((i, ⟨φ.rd, [], []⟩) :: acc) K Kp else False)
              (fun pv ws φ => bif q then False else Chk (acc.all fun p => bef ops i p.1 || quietF p.2) ∧ Kp pv (((S.put (some t) (.d (.bool c))).upd none .top ws).blank ops) ∧ vcOps P ops rid chk rest true (i + 1) (m ||| descMask ops i) (S.put (some t) (.d (.bool c))) ((i, φ) :: acc) (fun _ => True) (fun _ _ => False))
            else bif isDefer o.op then False else vcOps P ops rid chk rest q (i + 1) m ((S.put (some t) (.d (.bool c))).upd o.dst (.tup []) []) ((i, ⟨[], [], []⟩) :: acc) K Kp) →
            ∃ pi fs out, Tr P ops q pi (i :: ((List.range' (i + 1) rest.length).filter fun j => !m.testBit j)) S fs out ∧ chk (fs.reverse ++ acc) ∧ (∀ p, p ∈ acc → ∀ i', pi = some i' → bef ops i' p.1 = true ∨ quietF p.2 = true) ∧ match out with
              | .inl S' => K S'
              | .inr p => Kp p.1 p.2 := by
          intro c hc h
          subst hc
          rw [St.put_same hb] at h
          have hwant : ∀ (φ : Foot) S', Agree ops.toArray o φ S S' → ∀ ρ X a w, Sim S' ρ X a w → Region.wanted o (yielded ops.toArray a.tmps) = (b == want) := fun φ S' ha ρ X a w hs =>
            wanted_guard hg ht hs (by rw [ha.n]; exact hn) (by rw [ha.sl t (looks_guard hg ht)]; exact hb)
          cases hcw : b == want <;> simp only [hcw, cond_true, cond_false] at h
          · cases hdf : isDefer o.op <;> simp only [hdf, cond_true, cond_false] at h <;> try (exact h.elim)
            obtain ⟨pi, fs, out, t1, t2, t4, t3⟩ := vc_tr rest q (i + 1) m _ _ K Kp hrest h
            refine ⟨pi, (i, ⟨[], [], []⟩) :: fs, out, .step hi ⟨o, by simpa using hi, (fun c e => by rw [e] at hdf; cases hdf), fun n hn => absurd rfl hn, (fun n hn => by cases hn), fun S' ha ρ X a w hs => ⟨fun hf => ?_, fun _ => ⟨rfl, rfl⟩⟩⟩ (fun _ => ⟨rfl, rfl⟩) (fun _ _ => .inr rfl) t1, by simpa using t2, fun p hp => t4 p (List.mem_cons_of_mem _ hp), t3⟩
            · rw [hwant _ S' ha ρ X a w hs, hcw] at hf; cases hf
          · exact fin S (fun φ S' ha ρ X a w hs => by rw [hwant φ S' ha ρ X a w hs, hcw]) h
        rw [bcase_eq] at h
        cases hbv : b with
        | true => exact key true hbv (h.1 hbv)
        | false => exact key false hbv (h.2 hbv)
        rename_i hb
        have hwant : ∀ (φ : Foot) S', Agree ops.toArray o φ S S' → ∀ ρ X a w, Sim S' ρ X a w → Region.wanted o (yielded ops.toArray a.tmps) = false := fun φ S' ha ρ X a w hs =>
          wanted_undef hg ht hs (by rw [ha.n]; exact hn) (by rw [ha.sl t (looks_guard hg ht)]; exact hb)
        cases hdf : isDefer o.op <;> simp only [hdf, cond_true, cond_false] at h <;> try (exact h.elim)
        obtain ⟨pi, fs, out, t1, t2, t4, t3⟩ := vc_tr rest q (i + 1) m _ _ K Kp hrest h
        refine ⟨pi, (i, ⟨[], [], []⟩) :: fs, out, .step hi ⟨o, by simpa using hi, (fun c e => by rw [e] at hdf; cases hdf), fun n hn => absurd rfl hn, (fun n hn => by cases hn), fun S' ha ρ X a w hs => ⟨fun hf => ?_, fun _ => ⟨rfl, rfl⟩⟩⟩ (fun _ => ⟨rfl, rfl⟩) (fun _ _ => .inr rfl) t1, by simpa using t2, fun p hp => t4 p (List.mem_cons_of_mem _ hp), t3⟩
        · rw [hwant _ S' ha ρ X a w hs] at hf; cases hf
    · have hL : ((i :: List.range' (i + 1) rest.length).filter fun j => !m.testBit j) = ((List.range' (i + 1) rest.length).filter fun j => !m.testBit j) := by
        simp [hm]
      rw [hL]
      exact vc_tr rest q (i + 1) m S acc K Kp hrest h
attribute [irreducible] vcOps
end Go.Sym

namespace Go.Sym
structure Ent where
  hp : Nat → Option AObj
  ρ : Nat → Option Nat
  X : Nat → Prop
  w : World
  ds : List Deferred
  nm : Bool
def Ent.own (E : Ent) (b : Nat) : Prop := ∃ o x, E.hp o = some x ∧ x.alive = true ∧ E.ρ o = some b
def mark (D : Nat) : Deferred := { target := .collected D, args := #[] }
structure InvAt (E : Ent) (S : St) (ρ : Nat → Option Nat) (X : Nat → Prop) (a : Act) (w : World) : Prop where
  sim : Sim S ρ X a w
  ext : Ext E.own E.w w
  xs : ∀ b, b < E.w.heap.size → (X b → E.X b) ∧ (E.X b → X b ∨ E.own b)
  own : ∀ o x b, S.hp o = some x → x.alive = true → ρ o = some b → E.w.heap.size ≤ b ∨ E.own b
  same : ∀ n, E.hp n ≠ none → S.hp n ≠ none ∧ ρ n = E.ρ n
  marks : ∃ ms : List Nat, a.defers = ms.map mark ++ E.ds ∧ (E.nm = true → ms = []) ∧ ms.Nodup ∧ ∀ D, D ∈ ms → E.w.heap.size ≤ D ∧ X D ∧ w.heap[D]? = some (.deferred (some []))
def Inv (E : Ent) (S : St) (a : Act) (w : World) : Prop := ∃ ρ X, InvAt E S ρ X a w
theorem ObjAt.cells {ρ : Nat → Option Nat} {X : Nat → Prop} {w : World} {o b : Nat} {x : AObj} (h : ObjAt ρ X w o x) (ha : x.alive = true) (hb : ρ o = some b) : ∃ c T z, w.heap[b]? = some (.cells c T z) := by
  cases x with
  | var x =>
    obtain ⟨b', cs, T, z, h0, h1, _⟩ := h
    rw [hb] at h0; cases h0; exact ⟨_, _, _, h1⟩
  | row e xs =>
    rcases h with ⟨h1, _⟩ | ⟨b', cs, rest, T, z, h0, h1, _⟩
    · rw [hb] at h1; cases h1
    · rw [hb] at h0; cases h0; exact ⟨_, _, _, h1⟩
  | dead => cases ha
theorem InvAt.evo {E : Ent} {S S' : St} {ρ ρ' : Nat → Option Nat} {X X' : Nat → Prop} {a a' : Act} {w w' : World} (h : InvAt E S ρ X a w) (hs : Sim S' ρ' X' a' w') (he : Evo S S' ρ ρ' X X' w w')
    (hd : ∀ n, S.hp n ≠ none → S'.hp n ≠ none) (hda : a'.defers = a.defers) : InvAt E S' ρ' X' a' w' := by
  have own : ∀ b, b < E.w.heap.size → (∃ o x, S.hp o = some x ∧ x.alive = true ∧ ρ o = some b) → E.own b := fun b hb ⟨o, x, h1, h2, h3⟩ => (h.own o x b h1 h2 h3).elim (fun k => by omega) id
  refine ⟨hs, h.ext.trans' he.ext own, fun b hb => ?_, fun o x b h1 h2 h3 => ?_, fun n hn => ?_, ?_⟩
  · have hb' : b < w.heap.size := Nat.lt_of_lt_of_le hb h.ext.size
    refine ⟨fun k => (h.xs b hb).1 ((he.xs b hb').1 k), fun k => ?_⟩
    rcases (h.xs b hb).2 k with k | k
    · rcases (he.xs b hb').2 k with k | k
      · exact .inl k
      · exact .inr (own b hb k)
    · exact .inr k
  · rcases he.own o x b h1 h2 h3 with k | ⟨o', x', k1, k2, k3⟩
    · exact .inl (Nat.le_trans h.ext.size k)
    · exact h.own o' x' b k1 k2 k3
  · obtain ⟨k1, k2⟩ := h.same n hn
    exact ⟨hd n k1, by rw [he.same n k1, k2]⟩
  · obtain ⟨ms, k1, kn, k0, k2⟩ := h.marks
    refine ⟨ms, by rw [hda, k1], kn, k0, fun D hD => ?_⟩
    obtain ⟨k3, k4, hDw⟩ := k2 D hD
    have hlt : D < w.heap.size := (Array.getElem?_eq_some_iff.1 hDw).1
    have hno : ¬ ∃ o x, S.hp o = some x ∧ x.alive = true ∧ ρ o = some D := fun ⟨o, x, q1, q2, q3⟩ => by
      obtain ⟨c, T, z, q4⟩ := (h.sim.objs o x q1).cells q2 q3
      rw [hDw] at q4; cases q4
    exact ⟨k3, ((he.xs D hlt).2 k4).resolve_right hno, by rw [he.ext.keep D hlt hno]; exact hDw⟩
theorem upd_dom {S : St} {dst : Option Tmp} {r : AV} {ws : List (Nat × AObj)} {n : Nat} (h : S.hp n ≠ none) : (S.upd dst r ws).hp n ≠ none := by
  rw [St.hp_upd']; exact wr_ne h
theorem put_defers (a : Act) (dst : Option Tmp) (v : Value) : (a.put dst v).defers = a.defers := by cases dst <;> rfl
theorem Inv.drew {E : Ent} {S : St} {a : Act} {w : World} (h : Inv E S a w) : Inv E S a { w with drawn := w.drawn + 1 } := by
  obtain ⟨ρ, X, h⟩ := h
  have hs := h.sim
  have hdr : Ext (fun _ => False) w { w with drawn := w.drawn + 1 } := Ext.drew _ w
  have h1 := hs.step (Y := fun _ => False) (w' := { w with drawn := w.drawn + 1 }) (ρ' := ρ) (X' := X) (dst := none) (r := .top) (v := undef) (ws := []) hdr (fun _ h => h.elim) (fun _ _ => rfl) (fun _ _ h => h)
    (fun o x b _ h1 h2 h3 => hs.own o x b h1 h2 h3) (fun _ _ h => by cases h) (fun _ _ _ h => by cases h) (fun _ _ _ _ _ h => by cases h) (fun _ _ _ _ _ h => by cases h) (fun _ _ h => by cases h) trivial (fun _ h => by cases h)
  exact ⟨ρ, X, h.evo h1 ⟨hdr.mono fun _ _ h => h.elim, fun _ _ => ⟨id, .inl⟩, fun o x b k1 k2 k3 => .inr ⟨o, x, k1, k2, k3⟩, fun _ _ => rfl⟩ (fun n hn => hn) rfl⟩
theorem Inv.blank {E : Ent} {S : St} {a : Act} {w : World} {ops : List Oper} (h : Inv E S a w) : Inv E (S.blank ops) a w := by
  obtain ⟨ρ, X, h⟩ := h
  have hs := h.sim
  refine ⟨ρ, X, ⟨⟨hs.n, fun t v ht => ?_, hs.objs, hs.inj, hs.own, fun t o ho => ?_, hs.closedH⟩, h.ext, h.xs, h.own, h.same, h.marks⟩⟩
  · show RepA ρ X w (bif wrt ops t then .top else S.sl t) v
    cases wrt ops t with
    | true => trivial
    | false => exact hs.slots t v ht
  · have ho : o ∈ (bif wrt ops t then .top else S.sl t : AV).names := ho
    cases hw : wrt ops t with
    | true => rw [hw] at ho; cases ho
    | false => rw [hw] at ho; exact hs.closedS t o ho
def FR (ro : Option Nat) : Fence := { Fence.wide with round := ro }
theorem callsIn_FR {ro : Option Nat} {n : Nat} {P : Program} {f : FuncId} {args : Array Value} {w : World} {R : Ending → World → Prop} (h : Calls P f args w R) : CallsIn (FR ro) n P f args w R :=
  (callsIn_wide (n := n)).2 h
section
variable {P : Program} {E : Ent} {Q : Exit → Act → World → Prop} {ro : Option Nat} {k : Nat}
theorem wp_of_does {o : Oper} (hnd : ∀ c, o.op ≠ .defer c) {a : Act} {w : World} {R Rp : Value → World → Prop} {K : Act → World → Prop} (h : Does P o a w R Rp) (hK : ∀ v w', R v w' → K (a.put o.dst v) w')
    (hp : ∀ pv w', Rp pv w' → Q (.panic [{ v := pv, recovered := false }]) a w') : o.wpIn (FR ro) k P a w K Q := by
  refine ⟨fun _ _ => trivial, ?_⟩
  unfold Does at h
  rw [Oper.semAt_eq _ _ _ hnd]
  unfold Oper.uponIn
  generalize (execOp a.eval o).run P w = r at h
  cases r with
  | ok n w' =>
    cases n <;> try (exact h.elim)
    · exact hK _ _ h
    · exact hK _ _ h
    · refine ⟨(fun h => by cases h), callsIn_FR ((h : Calls P _ _ _ _).mono fun e w'' he => ?_)⟩
      cases e with
      | returned v => exact hK _ _ he
      | panicked c => obtain ⟨pv, rfl, hr⟩ := he; exact hp _ _ hr
      | outgrown => exact he.elim
  | halt x w' => cases x <;> first | exact h.elim | exact hp _ _ h
theorem step_wpOp {ops : List Oper} {i : Nat} {o : Oper} {S : St} {φ : Foot} {r : AV} {ws : List (Nat × AObj)} {a : Act} {w : World} {K : Act → World → Prop} (hi : ops[i]? = some o) (h : LStep P ops.toArray i S φ r ws)
    (hI : Inv E S a w) (hK : ∀ a' w', Inv E (S.upd o.dst r ws) a' w' → K a' w') : wpOpIn (FR ro) k P ops.toArray Q i K a w := by
  obtain ⟨o', ho', hnd, _, hfr, hst⟩ := h
  have : o' = o := by rw [show ops.toArray[i]? = ops[i]? by simp, hi] at ho'; cases ho'; rfl
  subst this
  obtain ⟨ρ, X, hI⟩ := hI
  have hag : Agree ops.toArray o' φ S S := ⟨rfl, fun _ _ => rfl, fun _ _ => rfl, fun _ _ => rfl, hfr⟩
  obtain ⟨h1, h2⟩ := hst S hag ρ X a w hI.sim
  unfold wpOpIn
  rw [ho']
  simp only
  cases hw : Region.wanted o' (yielded ops.toArray a.tmps) with
  | true =>
    simp only [if_true]
    refine wp_of_does hnd (h1 hw) (fun v w' hr => ?_) (fun _ _ h => h.elim)
    obtain ⟨ρ', X', k1, k2⟩ := hr
    exact hK _ _ ⟨ρ', X', hI.evo k1 k2 (fun n hn => upd_dom hn) (put_defers _ _ _)⟩
  | false =>
    simp only [Bool.false_eq_true, if_false]
    obtain ⟨rfl, rfl⟩ := h2 hw
    obtain ⟨k1, k2⟩ := hI.sim.put (dst := o'.dst) (r := .tup []) (v := undef) ⟨[], rfl, trivial⟩ (fun _ h => by cases h)
    exact ⟨fun _ _ => trivial, hK _ _ ⟨ρ, X, hI.evo k1 k2 (fun n hn => upd_dom hn) (put_defers _ _ _)⟩⟩
theorem pan_wpOp {ops : List Oper} {i : Nat} {S : St} {φ : Foot} {pv : Value} {ws : List (Nat × AObj)} {a : Act} {w : World} {K : Act → World → Prop} (h : LPan P ops.toArray i S φ pv ws)
    (hI : Inv E S a w) (hK : ∀ a' w', Inv E ((S.upd none .top ws).blank ops) a' w' → Q (.panic [{ v := pv, recovered := false }]) a' w') : wpOpIn (FR ro) k P ops.toArray Q i K a w := by
  obtain ⟨o, ho, hnd, hnw, hst⟩ := h
  obtain ⟨ρ, X, hI⟩ := hI
  obtain ⟨h1, h2⟩ := hst S ⟨rfl, fun _ _ => rfl, fun _ _ => rfl, fun _ _ => rfl, hnw⟩ ρ X a w hI.sim
  unfold wpOpIn
  rw [ho]
  simp only [h1, if_true]
  refine wp_of_does hnd h2 (fun _ _ h => h.elim) (fun v w' hr => ?_)
  obtain ⟨rfl, ρ', X', k1, k2⟩ := hr
  exact hK _ _ (Inv.blank ⟨ρ', X', hI.evo k1 k2 (fun n hn => upd_dom hn) rfl⟩)
end
theorem tr_text {P : Program} {E : Ent} {Q : Exit → Act → World → Prop} {ro : Option Nat} {k : Nat} {ops : List Oper} : ∀ {q : Bool} {pi : Option Nat} {L : List Nat} {S : St} {fs : Foots} {out : St ⊕ (Value × St)}, Tr P ops q pi L S fs out → ∀ {a : Act} {w : World}, Inv E S a w →
    (∀ S' a' w', out = .inl S' → Inv E S' a' w' → Q .normal a' w') → (∀ pv S' a' w', out = .inr (pv, S') → Inv E S' a' w' → Q (.panic [{ v := pv, recovered := false }]) a' w') → wpOpsIn (FR ro) k P ops.toArray Q L a w := by
  intro q pi L S fs out t
  induction t with
  | nil => intro a w hI h1 _; exact h1 _ _ _ rfl hI
  | step hi hl _ _ _ ih =>
    intro a w hI h1 h2
    rw [wpOpsIn_cons]
    exact step_wpOp hi hl hI fun a' w' hI' => ih hI' h1 h2
  | pan hl _ _ =>
    intro a w hI _ h2
    rw [wpOpsIn_cons]
    exact pan_wpOp hl hI fun a' w' hI' => h2 _ _ _ _ rfl hI'
structure Ind (ops : List Oper) (a b : Nat × Foot) : Prop where
  sl : ∀ x y, ops[a.1]? = some x → ops[b.1]? = some y → (∀ d, x.dst = some d → d ∉ y.looksAt ops.toArray) ∧ (∀ d, x.dst = some d → y.dst ≠ some d) ∧ (∀ d, y.dst = some d → d ∉ x.looksAt ops.toArray)
  h1 : ∀ n, (n ∈ a.2.wr ∨ n ∈ a.2.nw) → n ∉ b.2.rd ∧ n ∉ b.2.wr ∧ n ∉ b.2.nw
  h2 : ∀ n, (n ∈ b.2.wr ∨ n ∈ b.2.nw) → n ∉ a.2.rd ∧ n ∉ a.2.wr ∧ n ∉ a.2.nw
theorem disj_spec {a b : List Nat} (h : disj a b = true) : ∀ n, n ∈ a → n ∉ b := by
  intro n hn hb
  simp only [disj, List.all_eq_true, Bool.not_eq_true', List.contains_eq_mem, decide_eq_false_iff_not] at h
  exact h n hn hb
theorem indep_spec {ops : List Oper} {a b : Nat × Foot} (h : indep ops a b = true) : Ind ops a b := by
  simp only [indep, Bool.and_eq_true] at h
  obtain ⟨⟨⟨⟨⟨⟨⟨⟨h0, h1⟩, h2⟩, h3⟩, h4⟩, h5⟩, h6⟩, h7⟩, h8⟩ := h
  refine ⟨fun x y hx hy => ?_, fun n hn => ⟨?_, ?_, ?_⟩, fun n hn => ⟨?_, ?_, ?_⟩⟩
  · rw [hx, hy] at h0
    exact Oper.apart_spec h0
  · exact hn.elim (disj_spec h1 n) (disj_spec h5 n)
  · exact hn.elim (disj_spec h2 n) (disj_spec h6 n)
  · exact hn.elim (fun k hb => disj_spec h8 n hb k) (disj_spec h4 n)
  · exact hn.elim (disj_spec h3 n) (disj_spec h7 n)
  · exact hn.elim (fun k hb => disj_spec h2 n hb k) (disj_spec h8 n)
  · exact hn.elim (fun k hb => disj_spec h6 n hb k) (fun k hb => disj_spec h4 n hb k)
theorem okPairs_spec {ops : List Oper} : ∀ {l : Foots}, okPairs ops l = true → l.Pairwise fun b a => bef ops b.1 a.1 = true ∨ Ind ops a b
  | [], _ => .nil
  | b :: l, h => by
    simp only [okPairs, okPairsT, Bool.and_eq_true, List.all_eq_true, Bool.or_eq_true] at h
    exact .cons (fun a ha => (h.1 a ha).imp id indep_spec) (okPairs_spec h.2)
theorem sl_upd_ne {S : St} {dst : Option Tmp} {r : AV} {ws : List (Nat × AObj)} {t : Nat} (h : dst ≠ some t) : (S.upd dst r ws).sl t = S.sl t := by
  rcases St.sl_put (S.write ws) dst r t with ⟨_, h2⟩ | ⟨h1, _⟩
  · exact absurd h2 h
  · exact h1
theorem n_upd {S : St} {dst : Option Tmp} {r : AV} {ws : List (Nat × AObj)} : (S.upd dst r ws).n = S.n := by
  simp only [St.upd, St.n_put, St.write]
theorem hp_upd_ne {S : St} {dst : Option Tmp} {r : AV} {ws : List (Nat × AObj)} {n : Nat} (h : lkp ws n = none) : (S.upd dst r ws).hp n = S.hp n := by
  rw [St.hp_upd, h]
theorem upd_comm {S : St} {d d' : Option Tmp} {r r' : AV} {ws ws' : List (Nat × AObj)} (hd : ∀ t, d = some t → d' ≠ some t) (hw : ∀ n, lkp ws n ≠ none → lkp ws' n = none) :
    (S.upd d r ws).upd d' r' ws' = (S.upd d' r' ws').upd d r ws := by
  have h1 : ((S.upd d r ws).upd d' r' ws').n = ((S.upd d' r' ws').upd d r ws).n := by simp only [n_upd]
  have h2 : ((S.upd d r ws).upd d' r' ws').hp = ((S.upd d' r' ws').upd d r ws).hp := by
    funext n
    rw [St.hp_upd, St.hp_upd, St.hp_upd, St.hp_upd]
    cases h : lkp ws n with
    | none => cases lkp ws' n <;> rfl
    | some x => rw [hw n (by rw [h]; simp)]
  have h3 : ((S.upd d r ws).upd d' r' ws').sl = ((S.upd d' r' ws').upd d r ws).sl := by
    funext t
    have e1 : ∀ (T : St) (u : AV) (us : List (Nat × AObj)) (q : Option Tmp), (T.upd q u us).sl t = if q = some t then u else T.sl t := fun T u us q => by
      by_cases hq : q = some t
      · rw [if_pos hq]
        rcases St.sl_put (T.write us) q u t with ⟨h, _⟩ | ⟨_, h⟩
        · exact h
        · exact absurd hq h
      · rw [if_neg hq]; exact sl_upd_ne hq
    rw [e1, e1, e1, e1]
    by_cases h : d = some t
    · rw [if_neg (hd t h), if_pos h, if_pos h]
    · rw [if_neg h, if_neg h]
  cases hA : (S.upd d r ws).upd d' r' ws'
  cases hB : (S.upd d' r' ws').upd d r ws
  rw [hA, hB] at h1 h2 h3
  simp only at h1 h2 h3
  rw [h1, h2, h3]
theorem agree_upd {ops : List Oper} {o : Oper} {φ : Foot} {S S' : St} {d : Option Tmp} {r : AV} {ws : List (Nat × AObj)} (hd : ∀ t, d = some t → t ∉ o.looksAt ops.toArray) (hw : ∀ n, lkp ws n ≠ none → n ∉ φ.rd ∧ n ∉ φ.wr) :
    Agree ops.toArray o φ S S' ↔ Agree ops.toArray o φ (S.upd d r ws) S' := by
  have e1 : ∀ t, t ∈ o.looksAt ops.toArray → (S.upd d r ws).sl t = S.sl t := fun t ht => sl_upd_ne fun e => hd t e ht
  have e2 : ∀ n, n ∈ φ.rd → (S.upd d r ws).hp n = S.hp n := fun n hn => hp_upd_ne (by
    cases h : lkp ws n with
    | none => rfl
    | some x => exact absurd hn (hw n (by rw [h]; simp)).1)
  have e3 : ∀ n, n ∈ φ.wr → (S.upd d r ws).hp n = S.hp n := fun n hn => hp_upd_ne (by
    cases h : lkp ws n with
    | none => rfl
    | some x => exact absurd hn (hw n (by rw [h]; simp)).2)
  constructor
  · intro h
    exact ⟨by rw [h.n, n_upd], fun t ht => by rw [h.sl t ht, e1 t ht], fun n hn => by rw [h.rd n hn, e2 n hn], fun n hn => by rw [h.wr n hn, e3 n hn], h.nw⟩
  · intro h
    exact ⟨by rw [h.n, n_upd], fun t ht => by rw [h.sl t ht, e1 t ht], fun n hn => by rw [h.rd n hn, e2 n hn], fun n hn => by rw [h.wr n hn, e3 n hn], h.nw⟩
def remN (L : List Nat) (i : Nat) : List Nat := L.filter fun k => k != i
theorem remN_head {i : Nat} {L : List Nat} (h : i ∉ L) : remN (i :: L) i = L := by
  unfold remN
  rw [List.filter_cons_of_neg (by simp)]
  exact List.filter_eq_self.2 fun k hk => by
    have : k ≠ i := fun e => h (by rw [← e]; exact hk)
    simpa using this
theorem remN_cons {i j : Nat} {L : List Nat} (h : j ≠ i) : remN (j :: L) i = j :: remN L i := by
  unfold remN
  exact List.filter_cons_of_pos (by simpa using h)
theorem foldl_or {α : Type} (f : α → Bool) (g : α → Nat) (j : Nat) : ∀ (l : List α) (s : Nat), (l.foldl (fun s x => bif f x then s ||| g x else s) s).testBit j = true → s.testBit j = true ∨ ∃ x, x ∈ l ∧ f x = true ∧ (g x).testBit j = true
  | [], s, h => .inl h
  | x :: l, s, h => by
    simp only [List.foldl_cons] at h
    rcases foldl_or f g j l _ h with h | ⟨y, h1, h2, h3⟩
    · cases hf : f x with
      | true =>
        rw [hf, cond_true, Nat.testBit_or, Bool.or_eq_true] at h
        exact h.imp id fun h => ⟨x, by simp, hf, h⟩
      | false => rw [hf] at h; exact .inl h
    · exact .inr ⟨y, by simp [h1], h2, h3⟩
theorem descMask_spec {ops : List Oper} {i j : Nat} (h : (descMask ops i).testBit j = true) : bef ops j i = true := by
  unfold descMask at h
  rcases foldl_or (fun j => bef ops j i) (fun j => 2 ^ j) j _ 0 h with h | ⟨x, _, h2, h3⟩
  · simp at h
  · have : x = j := by simpa [Nat.testBit_two_pow] using h3
    rw [← this]; exact h2
theorem ws_nil {φ : Foot} {ws : List (Nat × AObj)} (h : ∀ n, lkp ws n ≠ none → n ∈ φ.wr ∨ n ∈ φ.nw) (hq : quietF φ = true) : ws = [] := by
  simp only [quietF, Bool.and_eq_true, List.isEmpty_iff] at hq
  cases ws with
  | nil => rfl
  | cons p ws =>
    obtain ⟨n, x⟩ := p
    have := h n (by simp [lkp])
    rw [hq.1, hq.2] at this
    rcases this with h | h <;> cases h
theorem blank_upd (ops : List Oper) (S : St) (d : Option Tmp) (hd : ∀ t, d = some t → wrt ops t = true) (r : AV) (ws : List (Nat × AObj)) : ((S.upd d r []).upd none .top ws).blank ops = (S.upd none .top ws).blank ops := by
  unfold St.blank
  have h1 : ((S.upd d r []).upd none .top ws).n = (S.upd none .top ws).n := by simp only [n_upd]
  have h2 : ((S.upd d r []).upd none .top ws).hp = (S.upd none .top ws).hp := by
    funext n
    rw [St.hp_upd, St.hp_upd, St.hp_upd]
    rfl
  have h3 : (fun t => bif wrt ops t then .top else ((S.upd d r []).upd none .top ws).sl t : Nat → AV) = fun t => bif wrt ops t then .top else (S.upd none .top ws).sl t := by
    funext t
    cases hw : wrt ops t with
    | true => rfl
    | false =>
      show (S.upd d r []).sl t = S.sl t
      exact sl_upd_ne fun e => by rw [hd t e] at hw; cases hw
  rw [h1, h2, h3]
theorem Tr.front {P : Program} {ops : List Oper} {i : Nat} : ∀ {q : Bool} {pi : Option Nat} {L : List Nat} {S : St} {fs : Foots} {out : St ⊕ (Value × St)}, Tr P ops q pi L S fs out → fs.Pairwise (fun a b => bef ops b.1 a.1 = true ∨ Ind ops a b) → L.Nodup → i ∈ L → (∀ j, j ∈ L → bef ops i j = false) →
    (∃ o φ r ws fs', ops[i]? = some o ∧ LStep P ops.toArray i S φ r ws ∧ (q = true → ws = [] ∧ quietF φ = true) ∧ (∀ i', pi = some i' → bef ops i' i = true ∨ quietF φ = true) ∧ Tr P ops q pi (remN L i) (S.upd o.dst r ws) fs' out ∧ fs'.Sublist fs ∧ (i, φ) ∈ fs) ∨
    (∃ φ pv ws, LPan P ops.toArray i S φ pv ws ∧ out = .inr (pv, (S.upd none .top ws).blank ops) ∧ (i, φ) ∈ fs ∧ q = false ∧ pi = some i) := by
  intro q pi L S fs out t
  induction t with
  | nil => intro _ _ h; cases h
  | step hi hl hq hpi ht ih =>
    rename_i q pi j o L S φ r ws fs out
    intro hp hnd hiL hno
    have hnd' := List.nodup_cons.1 hnd
    have hp' := List.pairwise_cons.1 hp
    by_cases hij : i = j
    · subst hij
      exact .inl ⟨o, φ, r, ws, fs, hi, hl, hq, hpi, by rw [remN_head hnd'.1]; exact ht, List.sublist_cons_self _ _, by simp⟩
    · have hiL' : i ∈ L := by rcases List.mem_cons.1 hiL with h | h; exact absurd h hij; exact h
      have hbf : bef ops i j = false := hno j (by simp)
      obtain ⟨oj, hoj, hjd, hjn, hjf, hjs⟩ := hl
      have hojo : oj = o := by rw [show ops.toArray[j]? = ops[j]? by simp, hi] at hoj; cases hoj; rfl
      subst hojo
      rcases ih hp'.2 hnd'.2 hiL' (fun k hk => hno k (by simp [hk])) with ⟨o', φ', r', ws', fs', h1, h2, hq', hpi', h3, h4, h5⟩ | ⟨φ', pv, ws', h2, h4, h5, h6, h7⟩
      · have hind : Ind ops (j, φ) (i, φ') := (hp'.1 _ h5).resolve_left (by rw [hbf]; simp)
        obtain ⟨s1, s2, s3⟩ := hind.sl oj o' hi h1
        obtain ⟨oi, hoi, hid, hin, hif, his⟩ := h2
        have hoio : oi = o' := by rw [show ops.toArray[i]? = ops[i]? by simp, h1] at hoi; cases hoi; rfl
        subst hoio
        have hwj : ∀ n, lkp ws n ≠ none → n ∉ φ'.rd ∧ n ∉ φ'.wr := fun n hn => by have := hind.h1 n (hjn n hn); exact ⟨this.1, this.2.1⟩
        have hwi : ∀ n, lkp ws' n ≠ none → n ∉ φ.rd ∧ n ∉ φ.wr := fun n hn => by have := hind.h2 n (hin n hn); exact ⟨this.1, this.2.1⟩
        have hcom : ∀ n, lkp ws n ≠ none → lkp ws' n = none := fun n hn => by
          cases h : lkp ws' n with
          | none => rfl
          | some x =>
            have k1 := hind.h1 n (hjn n hn)
            rcases hin n (by rw [h]; simp) with k | k
            · exact absurd k k1.2.1
            · exact absurd k k1.2.2
        refine .inl ⟨oi, φ', r', ws', (j, φ) :: fs', h1, ⟨oi, hoi, hid, hin, fun n hn => ?_, fun S' ha => his S' ((agree_upd s1 hwj).1 ha)⟩, hq', hpi', ?_, h4.cons_cons _, by simp [h5]⟩
        · have := hif n hn
          cases hS : S.hp n with
          | none => rfl
          | some x => exact absurd this (upd_dom (by rw [hS]; simp))
        · rw [remN_cons (Ne.symm hij)]
          refine .step hi ⟨oj, hoj, hjd, hjn, fun n hn => ?_, fun S' ha => hjs S' ((agree_upd s3 hwi).2 ha)⟩ hq hpi ?_
          · have : lkp ws' n = none := by
              cases h : lkp ws' n with
              | none => rfl
              | some x => exact absurd hn (hind.h2 n (hin n (by rw [h]; simp))).2.2
            rw [hp_upd_ne this]; exact hjf n hn
          · rw [upd_comm (fun t ht hd => s2 t (by rw [hd]) ht) (fun n hn => by
              cases h : lkp ws n with
              | none => rfl
              | some x => exact absurd (hcom n (by rw [h]; simp)) hn)]
            exact h3
      · have hind : Ind ops (j, φ) (i, φ') := (hp'.1 _ h5).resolve_left (by rw [hbf]; simp)
        have hqj : quietF φ = true := (hpi i h7).resolve_left (by rw [hbf]; simp)
        have hwj0 : ws = [] := ws_nil hjn hqj
        subst hwj0
        obtain ⟨oi, hoi, hid, hnw, his⟩ := h2
        have h1 : ops[i]? = some oi := by simpa using hoi
        obtain ⟨s1, s2, s3⟩ := hind.sl oj oi hi h1
        refine .inr ⟨φ', pv, ws', ⟨oi, hoi, hid, fun n hn => ?_, fun S' ha => his S' ((agree_upd s1 (fun n hn => absurd rfl hn)).1 ha)⟩, by rw [h4, blank_upd ops _ _ (wrt_of hi)], by simp [h5], h6, h7⟩
        have := hnw n hn
        cases hS : S.hp n with
        | none => rfl
        | some x => exact absurd this (upd_dom (by rw [hS]; simp))
  | pan hl ht ih =>
    rename_i j L S S'' φ pv ws fs
    intro hp hnd hiL hno
    have hnd' := List.nodup_cons.1 hnd
    have hp' := List.pairwise_cons.1 hp
    by_cases hij : i = j
    · subst hij
      exact .inr ⟨φ, pv, ws, hl, rfl, by simp, rfl, rfl⟩
    · have hiL' : i ∈ L := by rcases List.mem_cons.1 hiL with h | h; exact absurd h hij; exact h
      have hndesc : (descMask ops j).testBit i = false := by
        cases h : (descMask ops j).testBit i with
        | false => rfl
        | true => have := hno j (by simp); rw [descMask_spec h] at this; cases this
      obtain ⟨oj, hoj, hjd, hjnw, hjs⟩ := hl
      have hi : ops[j]? = some oj := by simpa using hoj
      rcases ih hp'.2 (hnd'.2.filter _) (List.mem_filter.2 ⟨hiL', by rw [hndesc]; rfl⟩) (fun k hk => hno k (by simp [(List.mem_filter.1 hk).1])) with ⟨o', φ', r', ws', fs', h1, h2, hq', hpi', h3, h4, h5⟩ | ⟨_, _, _, _, h4, _⟩
      · have hbf : bef ops i j = false := hno j (by simp)
        have hind : Ind ops (j, φ) (i, φ') := (hp'.1 _ h5).resolve_left (by rw [hbf]; simp)
        obtain ⟨s1, s2, s3⟩ := hind.sl oj o' hi h1
        obtain ⟨oi, hoi, hid, hin, hif, his⟩ := h2
        have hoio : oi = o' := by rw [show ops.toArray[i]? = ops[i]? by simp, h1] at hoi; cases hoi; rfl
        subst hoio
        obtain ⟨hw0, hqi⟩ := hq' rfl
        subst hw0
        refine .inl ⟨oi, φ', r', [], (j, φ) :: fs', h1, ⟨oi, hoi, hid, hin, hif, his⟩, (fun h => by cases h), fun _ _ => .inr hqi, ?_, h4.cons_cons _, by simp [h5]⟩
        rw [remN_cons (Ne.symm hij), ← blank_upd ops S oi.dst (wrt_of h1) r' ws]
        refine .pan (S' := S'') ⟨oj, hoj, hjd, fun n hn => by rw [hp_upd_ne rfl]; exact hjnw n hn, fun S' ha => hjs S' ((agree_upd s3 (fun n hn => absurd rfl hn)).2 ha)⟩ ?_
        have : (remN L i).filter (fun j_1 => !(descMask ops j).testBit j_1) = remN (L.filter fun j_1 => !(descMask ops j).testBit j_1) i := by
          unfold remN
          rw [List.filter_filter, List.filter_filter]
          congr 1
          funext k
          rw [Bool.and_comm]
        rw [this]; exact h3
      · cases h4
theorem befs_spec {ops : List Oper} : ∀ (os pre : List Oper) (acc : List Nat), ops = pre ++ os → pre.length = acc.length →
    (∀ (i m : Nat), acc[i]? = some m → ∀ j, m.testBit j = true → ∃ o e, ops[i]? = some o ∧ e ∈ o.after ∧ Region.binds .any e = true ∧ (e.on = j ∨ (acc.getD e.on 0).testBit j = true)) →
    ∀ (i m : Nat), (befs os acc)[i]? = some m → ∀ j, m.testBit j = true → ∃ o e, ops[i]? = some o ∧ e ∈ o.after ∧ Region.binds .any e = true ∧ (e.on = j ∨ ((befs os acc).getD e.on 0).testBit j = true)
  | [], _, acc, _, _, hP, i, m, hi, j, hj => hP i m hi j hj
  | o :: os, pre, acc, he, hl, hP, i, m, hi, j, hj => by
    simp only [befs] at hi ⊢
    refine befs_spec os (pre ++ [o]) _ (by rw [he]; simp) (by simp [hl]) (fun i m hi j hj => ?_) i m hi j hj
    have hext : ∀ k, (acc.getD k 0).testBit j = true → ((acc ++ [o.after.toList.foldl (fun s e => bif Region.binds .any e then s ||| 2 ^ e.on ||| acc.getD e.on 0 else s) 0]).getD k 0).testBit j = true := fun k hk => by
      by_cases hlt : k < acc.length
      · rw [List.getD_eq_getElem?_getD, List.getElem?_append_left hlt, ← List.getD_eq_getElem?_getD]; exact hk
      · rw [List.getD_eq_getElem?_getD, List.getElem?_eq_none (by omega)] at hk; simp at hk
    by_cases hlt : i < acc.length
    · rw [List.getElem?_append_left hlt] at hi
      obtain ⟨o', e, h1, h2, h3, h4⟩ := hP i m hi j hj
      exact ⟨o', e, h1, h2, h3, h4.imp id (hext _)⟩
    · rw [List.getElem?_append_right (by omega)] at hi
      have hieq : i = acc.length := by
        rcases Nat.lt_or_ge (i - acc.length) 1 with h | h
        · omega
        · rw [List.getElem?_eq_none (by simpa using h)] at hi; cases hi
      subst hieq
      simp only [Nat.sub_self, List.getElem?_cons_zero, Option.some.injEq] at hi
      subst hi
      have key : ∀ (l : List Edge) (s : Nat), (l.foldl (fun s e => bif Region.binds .any e then s ||| 2 ^ e.on ||| acc.getD e.on 0 else s) s).testBit j = true → s.testBit j = true ∨ ∃ e, e ∈ l ∧ Region.binds .any e = true ∧ (e.on = j ∨ (acc.getD e.on 0).testBit j = true) := by
        intro l
        induction l with
        | nil => intro s h; exact .inl h
        | cons e l ih =>
          intro s h
          simp only [List.foldl_cons] at h
          rcases ih _ h with h | ⟨e', h1, h2, h3⟩
          · cases hb : Region.binds .any e with
            | false => rw [hb] at h; exact .inl h
            | true =>
              rw [hb, cond_true, Nat.testBit_or, Nat.testBit_or, Bool.or_eq_true, Bool.or_eq_true] at h
              rcases h with (h | h) | h
              · exact .inl h
              · exact .inr ⟨e, by simp, hb, .inl (by simpa [Nat.testBit_two_pow] using h)⟩
              · exact .inr ⟨e, by simp, hb, .inr h⟩
          · exact .inr ⟨e', by simp [h1], h2, h3⟩
      rcases key _ 0 hj with h | ⟨e, h1, h2, h3⟩
      · simp at h
      · exact ⟨o, e, by rw [he, ← hl]; simp, by simpa using h1, h2, h3.imp id (hext _)⟩
theorem bef_spec {ops : List Oper} {i j : Nat} (h : bef ops i j = true) : ∃ o e, ops[i]? = some o ∧ e ∈ o.after ∧ Region.binds .any e = true ∧ (e.on = j ∨ bef ops e.on j = true) := by
  unfold bef befT at h
  cases hi : (befs ops [])[i]? with
  | none => rw [List.getD_eq_getElem?_getD, hi] at h; simp at h
  | some m =>
    rw [List.getD_eq_getElem?_getD, hi] at h
    exact befs_spec ops [] [] rfl rfl (fun i m hi => by simp at hi) i m hi j h
def edgesB (ops : List Oper) : Bool := ops.zipIdx.all fun p => p.1.after.toList.all fun e => !Region.binds .any e || Nat.blt e.on p.2
theorem edgesB_spec {ops : List Oper} (h : edgesB ops = true) {i : Nat} {o : Oper} (hi : ops[i]? = some o) {e : Edge} (he : e ∈ o.after) (hb : Region.binds .any e = true) : e.on < i := by
  simp only [edgesB, List.all_eq_true] at h
  have h1 := h (o, i) (by
    rw [List.mem_iff_getElem?]
    exact ⟨i, by simp [List.getElem?_zipIdx, hi]⟩) e (by simpa using he)
  simp only [hb, Bool.not_true, Bool.false_or] at h1
  simpa using h1
theorem min_mem : ∀ (L : List Nat), L ≠ [] → ∃ m, m ∈ L ∧ ∀ k, k ∈ L → m ≤ k
  | [], h => absurd rfl h
  | [a], _ => ⟨a, by simp, fun k hk => by simp at hk; omega⟩
  | a :: b :: L, _ => by
    obtain ⟨m, h1, h2⟩ := min_mem (b :: L) (by simp)
    by_cases hle : a ≤ m
    · exact ⟨a, by simp, fun k hk => by
        rcases List.mem_cons.1 hk with rfl | hk
        · exact Nat.le_refl _
        · exact Nat.le_trans hle (h2 k hk)⟩
    · exact ⟨m, by simp [h1], fun k hk => by
        rcases List.mem_cons.1 hk with rfl | hk
        · omega
        · exact h2 k hk⟩
theorem Tr.nilOut {P : Program} {ops : List Oper} {q : Bool} {pi : Option Nat} {S : St} {fs : Foots} {out : St ⊕ (Value × St)} (t : Tr P ops q pi [] S fs out) : out = .inl S := by cases t; rfl
theorem tr_any {P : Program} {E : Ent} {Q : Exit → Act → World → Prop} {ro : Option Nat} {nn : Nat} {ops : List Oper} (hed : edgesB ops = true) : ∀ (fuel : Nat) {listed : Array Bool} {q : Bool} {pi : Option Nat} {L : List Nat} {S : St} {fs : Foots} {out : St ⊕ (Value × St)} {a : Act} {w : World},
    Tr P ops q pi L S fs out → fs.Pairwise (fun a b => bef ops b.1 a.1 = true ∨ Ind ops a b) → L.Nodup → listed.size = ops.length → (∀ k, k ∈ L ↔ k < ops.length ∧ listed.getD k true = false) →
    (∀ k, k < ops.length → k ∉ L → ∀ j, bef ops k j = true → j ∉ L) → L.length ≤ fuel → Inv E S a w →
    (∀ S' a' w', out = .inl S' → Inv E S' a' w' → Q .normal a' w') → (∀ pv S' a' w', out = .inr (pv, S') → Inv E S' a' w' → Q (.panic [{ v := pv, recovered := false }]) a' w') → wpAnyIn (FR ro) nn P .any ops.toArray Q fuel listed a w := by
  intro fuel
  have ready0 : ∀ {listed : Array Bool} {L : List Nat}, listed.size = ops.length → (∀ k, k ∈ L ↔ k < ops.length ∧ listed.getD k true = false) → Region.ready .any ops.toArray listed = [] → L = [] := by
    intro listed L hsz hL hr
    refine Classical.byContradiction fun hne => ?_
    obtain ⟨m, hm, hmin⟩ := min_mem L hne
    have hmL := (hL m).1 hm
    have : m ∈ Region.ready .any ops.toArray listed := mem_ready.2 ⟨hmL.2, ops[m], by simp [hmL.1], fun e he hb => by
      have hlt := edgesB_spec hed (List.getElem?_eq_getElem hmL.1) he hb
      have hn : e.on ∉ L := fun h => by have := hmin _ h; omega
      have hlt' : e.on < listed.size := by rw [hsz]; omega
      cases hg : listed.getD e.on true with
      | false => exact absurd ((hL e.on).2 ⟨by omega, hg⟩) hn
      | true =>
        rw [Array.getD_eq_getD_getElem?, Array.getElem?_eq_getElem hlt'] at hg ⊢
        exact hg⟩
    rw [hr] at this; cases this
  have listedAll : ∀ {listed : Array Bool} {L : List Nat}, (∀ k, k ∈ L ↔ k < ops.length ∧ listed.getD k true = false) → L = [] → Region.ready .any ops.toArray listed = [] := by
    intro listed L hL hn
    refine List.eq_nil_iff_forall_not_mem.2 fun j hj => ?_
    obtain ⟨h1, o, h2, _⟩ := mem_ready.1 hj
    have hlt : j < ops.length := by have := (Array.getElem?_eq_some_iff.1 h2).1; simpa using this
    have := (hL j).2 ⟨hlt, h1⟩
    rw [hn] at this; cases this
  induction fuel with
  | zero =>
    intro listed q pi L S fs out a w t hp hnd hsz hL hdc hfu hI h1 h2
    have hn : L = [] := List.eq_nil_of_length_eq_zero (by omega)
    subst hn
    exact ⟨listedAll hL rfl, h1 S a w t.nilOut hI⟩
  | succ fuel ih =>
    intro listed q pi L S fs out a w t hp hnd hsz hL hdc hfu hI h1 h2
    refine ⟨fun hr => ?_, fun i hi => ?_⟩
    · have hn := ready0 hsz hL hr
      subst hn
      exact h1 S a w t.nilOut hI
    · obtain ⟨hi1, o, hi2, hi3⟩ := mem_ready.1 hi
      have hilt : i < ops.length := by have := (Array.getElem?_eq_some_iff.1 hi2).1; simpa using this
      have hio : ops[i]? = some o := by simpa using hi2
      have hiL : i ∈ L := (hL i).2 ⟨hilt, hi1⟩
      have dir : ∀ e, e ∈ o.after → Region.binds .any e = true → e.on < ops.length ∧ e.on ∉ L := fun e he hb => by
        have hl := hi3 e he hb
        have hlt' : e.on < listed.size := by
          rcases Nat.lt_or_ge e.on listed.size with h | h
          · exact h
          · rw [Array.getD_eq_getD_getElem?, Array.getElem?_eq_none h] at hl; cases hl
        refine ⟨by rw [← hsz]; exact hlt', fun hm => ?_⟩
        have := ((hL e.on).1 hm).2
        rw [Array.getD_eq_getD_getElem?, Array.getElem?_eq_getElem hlt'] at hl this
        simp at hl this; rw [hl] at this; cases this
      have hno : ∀ j, j ∈ L → bef ops i j = false := fun j hj => by
        cases hb : bef ops i j with
        | false => rfl
        | true =>
          obtain ⟨o', e, k1, k2, k3, k4⟩ := bef_spec hb
          rw [hio] at k1; cases k1
          obtain ⟨d1, d2⟩ := dir e k2 k3
          rcases k4 with k4 | k4
          · rw [k4] at d2; exact absurd hj d2
          · exact absurd hj (hdc e.on d1 d2 j k4)
      rcases t.front hp hnd hiL hno with ⟨o', φ, r, ws, fs', k1, k2, _, _, k3, k4, _⟩ | ⟨φ, pv, ws, k2, k3, _⟩
      · refine step_wpOp k1 k2 hI fun a' w' hI' => ?_
        have hmem : ∀ k, k ∈ remN L i ↔ k ∈ L ∧ k ≠ i := fun k => by unfold remN; rw [List.mem_filter]; simp
        refine ih k3 (hp.sublist k4) (hnd.filter _) (by simp [hsz]) (fun k => ?_) (fun k hk hkn j hj hm => ?_) ?_ hI' h1 h2
        · rw [hmem]
          by_cases hki : k = i
          · subst hki
            constructor
            · intro h; exact absurd rfl h.2
            · intro h
              have hlt' : k < listed.size := by rw [hsz]; exact hilt
              have := h.2
              rw [Array.getD_eq_getD_getElem?, Array.getElem?_setIfInBounds_self_of_lt hlt'] at this
              cases this
          · rw [getD_set_ne true (Ne.symm hki), hL k]
            exact ⟨fun h => h.1, fun h => ⟨h, hki⟩⟩
        · have hjL := ((hmem j).1 hm).1
          by_cases hki : k = i
          · subst hki; have := hno j hjL; rw [hj] at this; cases this
          · exact hdc k hk (fun h => hkn ((hmem k).2 ⟨h, hki⟩)) j hj hjL
        · have : (remN L i).length < L.length := by
            unfold remN
            refine List.length_filter_lt_length_iff_exists.2 ⟨i, hiL, by simp⟩
          omega
      · exact pan_wpOp k2 hI fun a' w' hI' => h2 pv _ a' w' k3 hI'
end Go.Sym

namespace Go.Sym
def oCells : Obj → Bool
  | .cells _ _ _ => true
  | _ => false
theorem Ext.putObj {w : World} {l : Nat} {o o' : Obj} (h : w.heap[l]? = some o) (hc : oCells o = false) : Ext (fun b => b = l) w (w.putObj l o') := by
  refine ⟨rfl, rfl, rfl, by simp, fun b _ hb => World.putObj_heap_other hb, fun b c T z hb => ?_⟩
  have hne : b ≠ l := fun e => by subst e; rw [h] at hb; cases hb; cases hc
  exact ⟨c, z, by rw [World.putObj_heap_other hne]; exact hb, rfl⟩
theorem ObjAt.ne {ρ : Nat → Option Nat} {X : Nat → Prop} {w : World} {n l b : Nat} {x : AObj} {o : Obj} (h : ObjAt ρ X w n x) (ha : x.alive = true) (hb : ρ n = some b) (hl : w.heap[l]? = some o) (hc : oCells o = false) : b ≠ l := fun e => by
  obtain ⟨c, T, z, h1⟩ := h.cells ha hb
  subst e
  rw [hl] at h1; cases h1; cases hc
theorem Sim.putObj {S : St} {ρ : Nat → Option Nat} {X : Nat → Prop} {a : Act} {w : World} (hs : Sim S ρ X a w) {l : Nat} {o : Obj} (o' : Obj) (hl : w.heap[l]? = some o) (hc : oCells o = false) (hX : X l) : Sim S ρ X a (w.putObj l o') := by
  have g : Goes ρ ρ X X (fun b => b = l) w (w.putObj l o') := ⟨.putObj hl hc, fun b _ hn e => hn (by rw [e]; exact hX), fun _ _ h => h⟩
  refine ⟨hs.n, fun t v h => (hs.slots t v h).mono g fun _ _ => rfl, fun n x h => ?_, hs.inj, hs.own, hs.closedS, hs.closedH⟩
  cases ha : x.alive with
  | false => cases x <;> first | trivial | cases ha
  | true => exact (hs.objs n x h).mono g rfl (fun b hb => World.putObj_heap_other ((hs.objs n x h).ne ha hb hl hc)) fun _ _ => rfl
theorem InvAt.putObj2 {E : Ent} {S : St} {ρ : Nat → Option Nat} {X : Nat → Prop} {a : Act} {w : World} (h : InvAt E S ρ X a w) {l : Nat} {o oe : Obj} (o' : Obj) (hl : w.heap[l]? = some o) (hc : oCells o = false) (hle : E.w.heap[l]? = some oe) (hX : X l)
    (hm : ∀ c, o ≠ .deferred c) : InvAt { E with w := E.w.putObj l o' } S ρ X a (w.putObj l o') := by
  have hlt : l < w.heap.size := (Array.getElem?_eq_some_iff.1 hl).1
  have hlte : l < E.w.heap.size := (Array.getElem?_eq_some_iff.1 hle).1
  refine ⟨h.sim.putObj o' hl hc hX, ⟨h.ext.os, h.ext.tape, h.ext.output, by simpa using h.ext.size, fun b hb hn => ?_, fun b c T z hb => ?_⟩, fun b hb => h.xs b (by simpa using hb), fun n x b h1 h2 h3 => (h.own n x b h1 h2 h3).imp (fun k => by simpa using k) id, h.same, ?_⟩
  · by_cases e : b = l
    · subst e; rw [World.putObj_heap_same hlt, World.putObj_heap_same hlte]
    · rw [World.putObj_heap_other e, World.putObj_heap_other e]; exact h.ext.keep b (by simpa using hb) hn
  · by_cases e : b = l
    · subst e
      rw [World.putObj_heap_same hlte] at hb
      exact ⟨c, z, by rw [World.putObj_heap_same hlt]; exact hb, rfl⟩
    · rw [World.putObj_heap_other e] at hb ⊢; exact h.ext.shape b c T z hb
  · obtain ⟨ms, k1, kn, k0, k2⟩ := h.marks
    refine ⟨ms, k1, kn, k0, fun D hD => ⟨by simpa using (k2 D hD).1, (k2 D hD).2.1, ?_⟩⟩
    have := (k2 D hD).2.2
    rw [World.putObj_heap_other fun e => by subst e; rw [hl] at this; cases this; exact hm _ rfl]
    exact this
theorem InvAt.putObj {E : Ent} {S : St} {ρ : Nat → Option Nat} {X : Nat → Prop} {a : Act} {w : World} (h : InvAt E S ρ X a w) {l : Nat} {o : Obj} (o' : Obj) (hl : w.heap[l]? = some o) (hc : oCells o = false) (hle : E.w.heap.size ≤ l) (hX : X l)
    (hm : ∀ c, o ≠ .deferred c) : InvAt E S ρ X a (w.putObj l o') := by
  refine ⟨h.sim.putObj o' hl hc hX, ⟨h.ext.os, h.ext.tape, h.ext.output, by simpa using h.ext.size, fun b hb hn => ?_, fun b c T z hb => ?_⟩, h.xs, h.own, h.same, ?_⟩
  · rw [World.putObj_heap_other (by omega)]; exact h.ext.keep b hb hn
  · have hb' : b < E.w.heap.size := (Array.getElem?_eq_some_iff.1 hb).1
    rw [World.putObj_heap_other (by omega)]; exact h.ext.shape b c T z hb
  · obtain ⟨ms, k1, kn, k0, k2⟩ := h.marks
    refine ⟨ms, k1, kn, k0, fun D hD => ⟨(k2 D hD).1, (k2 D hD).2.1, ?_⟩⟩
    have := (k2 D hD).2.2
    rw [World.putObj_heap_other fun e => by subst e; rw [hl] at this; cases this; exact hm _ rfl]
    exact this
theorem InvAt.alloc {E : Ent} {S : St} {ρ : Nat → Option Nat} {X : Nat → Prop} {a : Act} {w : World} (h : InvAt E S ρ X a w) (o : Obj) : InvAt E S ρ (fun b => X b ∨ b = w.heap.size) a (w.alloc o) := by
  have hx : Ext (fun _ => False) w (w.alloc o) := .alloc _ w o
  have g : Goes ρ ρ X (fun b => X b ∨ b = w.heap.size) (fun _ => False) w (w.alloc o) := ⟨hx, fun _ _ _ h => h, fun b hb h => h.elim id fun e => by omega⟩
  have hs := h.sim
  have hs' : Sim S ρ (fun b => X b ∨ b = w.heap.size) a (w.alloc o) := by
    refine ⟨hs.n, fun t v h => (hs.slots t v h).mono g fun _ _ => rfl, fun n x h => ?_, hs.inj, fun n x b h1 h2 h3 => .inl (hs.own n x b h1 h2 h3), hs.closedS, hs.closedH⟩
    cases ha : x.alive with
    | false => cases x <;> first | trivial | cases ha
    | true => exact (hs.objs n x h).mono g rfl (fun b hb => hx.keep b ((hs.objs n x h).lt ha hb) fun k => k) fun _ _ => rfl
  refine h.evo hs' ⟨hx.mono fun _ _ k => k.elim, fun b hb => ⟨fun k => k.elim id fun e => by omega, fun k => .inl (.inl k)⟩, fun n x b h1 h2 h3 => .inr ⟨n, x, h1, h2, h3⟩, fun _ _ => rfl⟩ (fun _ h => h) rfl
theorem InvAt.grow {E : Ent} {S : St} {ρ : Nat → Option Nat} {X : Nat → Prop} {a : Act} {w w' : World} (h : InvAt E S ρ X a w) (hx : Ext (fun _ => False) w w') : InvAt E S ρ X a w' := by
  have g : Goes ρ ρ X X (fun _ => False) w w' := ⟨hx, fun _ _ _ h => h, fun _ _ h => h⟩
  have hs := h.sim
  have hs' : Sim S ρ X a w' := by
    refine ⟨hs.n, fun t v h => (hs.slots t v h).mono g fun _ _ => rfl, fun n x h => ?_, hs.inj, hs.own, hs.closedS, hs.closedH⟩
    cases ha : x.alive with
    | false => cases x <;> first | trivial | cases ha
    | true => exact (hs.objs n x h).mono g rfl (fun b hb => hx.keep b ((hs.objs n x h).lt ha hb) fun k => k) fun _ _ => rfl
  exact h.evo hs' ⟨hx.mono fun _ _ k => k.elim, fun b _ => ⟨id, .inl⟩, fun n x b h1 h2 h3 => .inr ⟨n, x, h1, h2, h3⟩, fun _ _ => rfl⟩ (fun _ h => h) rfl
def St.over (S : St) (S' : St) : St := { S with hp := S'.hp }
theorem InvAt.round {E : Ent} {S S' : St} {ρ ρ' : Nat → Option Nat} {X X' : Nat → Prop} {a a' : Act} {w w' : World} {ds : List Deferred} {nm : Bool} (h : InvAt E S ρ X a w) (hB : InvAt ⟨S.hp, ρ, X, w, ds, nm⟩ S' ρ' X' a' w') : InvAt E (S.over S') ρ' X' a w' := by
  have g : Goes ρ ρ' X X' (Ent.own ⟨S.hp, ρ, X, w, ds, nm⟩) w w' := ⟨hB.ext, fun b _ hn hy => by obtain ⟨o, x, h1, h2, h3⟩ := hy; exact hn (h.sim.own o x b h1 h2 h3), fun b hb k => (hB.xs b hb).1 k⟩
  have hs : Sim (S.over S') ρ' X' a w' := by
    refine ⟨h.sim.n, fun t v ht => (h.sim.slots t v ht).mono g fun o ho => (hB.same o (h.sim.closedS t o ho)).2, hB.sim.objs, hB.sim.inj, hB.sim.own, fun t o ho => (hB.same o (h.sim.closedS t o ho)).1, hB.sim.closedH⟩
  exact h.evo hs ⟨hB.ext, hB.xs, fun o x b h1 h2 h3 => hB.own o x b h1 h2 h3, fun n hn => (hB.same n hn).2⟩ (fun n hn => (hB.same n hn).1) rfl
def D.scal : D → Bool
  | .int _ _ => true
  | .bool _ => true
  | .str _ => true
  | _ => false
def D.sval : D → Value
  | .int k n => .int k n
  | .bool b => .bool b
  | .str s => .string s
  | _ => undef
theorem repA_scal {ρ : Nat → Option Nat} {X : Nat → Prop} {w : World} {x : D} (h : x.scal = true) : RepA ρ X w (.d x) x.sval := by
  cases x <;> first | cases h | skip
  · exact ⟨_, .d (.int _ _), rfl⟩
  · exact ⟨_, .d (.bool _), rfl⟩
  · exact ⟨_, .d (.str _), rfl⟩
def SeqOK (P : Program) (f : FuncId) (x : D) (n : Nat) (ys : Nat → List D) : Prop :=
  ∀ (J : Nat → World → Prop) (Jd : World → Prop) (l b : Nat) (w : World) (X : Nat → Prop) (cs : List Value), RepD X w x cs → RowAt w b 0 cs → (∀ i w w', J i w → Ext (fun _ => False) w w' → J i w') → (∀ w w', Jd w → Ext (fun _ => False) w w' → Jd w') → J 0 w →
    (∀ i, i < n → ∀ w, J i w → ∃ g tmps assign body, (Instr.yield l ((ys i).map D.sval).toArray).run P w = .ok (.round l g tmps assign body) w ∧
      RoundIn (FR none) 0 P l g tmps assign body w fun e w' => ∃ t, e = .returned (.bool t) ∧ (t = true → J (i + 1) w') ∧ (t = false → Jd w')) →
    Calls P f #[.func (.yield l) #[] #[], .pointer (some ⟨b, 0, none⟩)] w fun e w' => ∃ v, e = .returned v ∧ (J n w' ∨ Jd w')
section
variable {F : Fence} {n : Nat} {P : Program} {Q : Exit → Act → World → Prop} {b : Frame} {a : Act} {k : List Item} {cs : List Frame} {w : World}
theorem stepR_scope {c : Code} : step P (lone (b.atR a (.code (.scope c) :: k)) cs w) = .next (lone (b.atR a (.code c :: .inScope c :: k)) cs w) :=
  step_lone_go (by simp [stepG, stepG.exec, Frame.atR])
theorem stepR_inScope {c : Code} : step P (lone (b.atR a (.inScope c :: k)) cs w) = .next (lone (b.atR a k) cs w) :=
  step_lone_go (by simp [stepG, stepG.exec, Frame.atR])
theorem wpIn_scope_straight {c : Code} (h : c.wpIn F n P (Exit.noGoto Q) a w) : (Code.scope c).wpIn F n P Q a w := by
  intro b k cs hro hb hr
  have h0 : (lone (b.atR a (.code (.scope c) :: k)) cs w).fenced P F := fenced_calm hb hr rfl
  obtain ⟨e, a₁, w₁, hq, harr⟩ := h b (.inScope c :: k) cs hro hb hr
  cases e with
  | normal => exact ⟨.normal, a₁, w₁, hq, .head h0 stepR_scope (StepsIn.trans harr (.one (fenced_calm hb hr rfl) stepR_inScope))⟩
  | exit id => exact ⟨.exit id, a₁, w₁, hq, fun k' hk => .head h0 stepR_scope (harr.1 k' (by simp [exitTo, hk])), fun hr' hk => let ⟨k₁, h1, h2⟩ := harr.2 hr' (by simp [exitTo, hk]); ⟨k₁, h1, .head h0 stepR_scope h2⟩⟩
  | goto l => exact hq.elim
  | ret => exact ⟨_, a₁, w₁, hq, .of_steps (.one h0 stepR_scope) harr⟩
  | panic ch => exact ⟨_, a₁, w₁, hq, .of_steps (.one h0 stepR_scope) harr⟩
  | outgrown => exact ⟨_, a₁, w₁, hq, .of_steps (.one h0 stepR_scope) harr⟩
end
end Go.Sym

namespace Go.Sym
inductive AExit where
  | normal
  | ret
  | exit (id : Nat)
  | goto (l : Nat)
def renN (m : List (Nat × Nat)) (o : Nat) : Nat := match lkp m o with
  | some o' => o'
  | none => o
mutual
def AV.ren (m : List (Nat × Nat)) : AV → AV
  | .ptr o p => .ptr (renN m o) p
  | .sl o p e off len => .sl (renN m o) p e off len
  | .st fs => .st (AV.rens m fs)
  | .fn f cs => .fn f (AV.rens m cs)
  | .tup vs => .tup (AV.rens m vs)
  | .d x => .d x
  | .dptr x => .dptr x
  | .top => .top
  | .cst v => .cst v
def AV.rens (m : List (Nat × Nat)) : List AV → List AV
  | [] => []
  | x :: xs => AV.ren m x :: AV.rens m xs
end
def AObj.ren (m : List (Nat × Nat)) : AObj → AObj
  | .var x => .var (x.ren m)
  | .row e xs => .row e xs
  | .dead => .dead
theorem AV.ren_agg (m : List (Nat × Nat)) (x : AV) : (x.ren m).isAgg = x.isAgg := by cases x <;> simp only [AV.ren, AV.isAgg]
mutual
theorem RepC.ren {m : List (Nat × Nat)} {ρ : Nat → Option Nat} {X : Nat → Prop} {w : World} : ∀ {x : AV} {cs : List Value}, RepC ρ X w (x.ren m) cs → RepC (fun o => ρ (renN m o)) X w x cs
  | .d x, cs, h => by
    simp only [AV.ren] at h
    cases h with
    | d h => exact .d h
  | .ptr o p, cs, h => by
    simp only [AV.ren] at h
    cases h with
    | ptr _ h => exact .ptr p h
  | .sl o p e off len, cs, h => by
    simp only [AV.ren] at h
    cases h with
    | sl h0 h1 h2 h3 h4 => exact .sl h0 h1 h2 h3 h4
    | slnil h => exact .slnil h
  | .st fs, cs, h => by
    simp only [AV.ren] at h
    cases h with
    | st h => exact .st (RepCs.ren h)
  | .dptr x, cs, h => by
    simp only [AV.ren] at h
    cases h with
    | dptr h1 h2 h3 h4 => exact .dptr h1 h2 h3 h4
  | .fn f fs, cs, h => by
    simp only [AV.ren] at h
    cases h with
    | fn h => exact .fn (RepCs.ren h)
  | .tup vs, cs, h => by
    simp only [AV.ren] at h
    cases h
  | .top, cs, h => by
    simp only [AV.ren] at h
    cases h with
    | top h => exact .top h
  | .cst v, cs, h => by
    simp only [AV.ren] at h
    cases h with
    | cst h => exact .cst h
theorem RepCs.ren {m : List (Nat × Nat)} {ρ : Nat → Option Nat} {X : Nat → Prop} {w : World} : ∀ {xs : List AV} {cs : List Value}, RepCs ρ X w (AV.rens m xs) cs → RepCs (fun o => ρ (renN m o)) X w xs cs
  | [], cs, h => by
    simp only [AV.rens] at h
    cases h; exact .nil
  | x :: xs, cs, h => by
    simp only [AV.rens] at h
    cases h with
    | cons h hs => exact .cons (RepC.ren h) (RepCs.ren hs)
end
theorem RepA1.ren {m : List (Nat × Nat)} {ρ : Nat → Option Nat} {X : Nat → Prop} {w : World} {x : AV} {v : Value} (h : RepA1 ρ X w (x.ren m) v) : RepA1 (fun o => ρ (renN m o)) X w x v := by
  obtain ⟨cs, h1, h2⟩ := h
  rw [AV.ren_agg] at h2
  exact ⟨cs, h1.ren, h2⟩
theorem RepT.ren {m : List (Nat × Nat)} {ρ : Nat → Option Nat} {X : Nat → Prop} {w : World} : ∀ {xs : List AV} {vs : List Value}, RepT ρ X w (AV.rens m xs) vs → RepT (fun o => ρ (renN m o)) X w xs vs
  | [], [], _ => trivial
  | [], _ :: _, h => by simp only [AV.rens] at h; exact h.elim
  | _ :: _, [], h => by simp only [AV.rens] at h; exact h.elim
  | _ :: _, _ :: _, h => by
    simp only [AV.rens] at h
    exact ⟨h.1.ren, RepT.ren h.2⟩
theorem RepA.ren {m : List (Nat × Nat)} {ρ : Nat → Option Nat} {X : Nat → Prop} {w : World} {x : AV} {v : Value} (h : RepA ρ X w (x.ren m) v) : RepA (fun o => ρ (renN m o)) X w x v := by
  cases x <;> simp only [AV.ren] at h
  case top => trivial
  case tup vs => obtain ⟨us, h1, h2⟩ := h; exact ⟨us, h1, h2.ren⟩
  all_goals
    refine RepA1.ren (m := m) ?_
    simp only [AV.ren]
    exact h
theorem ObjAt.ren {m : List (Nat × Nat)} {ρ : Nat → Option Nat} {X : Nat → Prop} {w : World} {o : Nat} {x : AObj} (h : ObjAt ρ X w (renN m o) (x.ren m)) : ObjAt (fun o => ρ (renN m o)) X w o x := by
  cases x with
  | var x => obtain ⟨b, cs, T, z, h0, h1, h2, h3⟩ := h; exact ⟨b, cs, T, z, h0, h1, h2, h3.ren⟩
  | row e xs => exact h
  | dead => trivial
theorem AObj.ren_alive (m : List (Nat × Nat)) (x : AObj) : (x.ren m).alive = x.alive := by cases x <;> rfl
def mkSt (n : Nat) (sl : List (Nat × AV)) (hp : List (Nat × AObj)) : St :=
  ⟨n, fun t => match lkp sl t with
    | some x => x
    | none => .top, fun o => lkp hp o⟩
def eqAV : AV → AV → Prop
  | .d x, .d y => Side (x = y)
  | .dptr x, .dptr y => Side (x = y)
  | .ptr o p, .ptr o' p' => bif o.beq o' then Side (p = p') else False
  | .sl o p e off len, .sl o' p' e' off' len' => bif o.beq o' && e.beq e' then Side (p = p') ∧ Side (off = off') ∧ Side (len = len') else False
  | .fn f cs, .fn f' cs' => Side (AV.fn f cs = .fn f' cs')
  | .top, .top => True
  | x, y => Side (x = y)
theorem eqAV_spec {x y : AV} (h : eqAV x y) : x = y := by
  unfold eqAV at h
  split at h
  · rw [Side_eq] at h; rw [h]
  · rw [Side_eq] at h; rw [h]
  · rename_i o p o' p'
    cases hb : o.beq o' <;> simp only [hb, cond_true, cond_false] at h
    rw [Side_eq] at h
    rw [h, Nat.eq_of_beq_eq_true hb]
  · rename_i o p e off len o' p' e' off' len'
    cases hb : o.beq o' <;> cases hc : e.beq e' <;> simp only [hb, hc, Bool.and_true, Bool.and_false, cond_true, cond_false] at h
    simp only [Side_eq] at h
    rw [h.1, h.2.1, h.2.2, Nat.eq_of_beq_eq_true hb, Nat.eq_of_beq_eq_true hc]
  · rw [Side_eq] at h; exact h
  · rfl
  · rw [Side_eq] at h; exact h
def eqObj : AObj → AObj → Prop
  | .var x, .var y => eqAV x y
  | .row e xs, .row e' ys => bif e.beq e' then Side (xs = ys) else False
  | .dead, .dead => True
  | _, _ => False
theorem eqObj_spec {x y : AObj} (h : eqObj x y) : x = y := by
  unfold eqObj at h
  split at h
  · rw [eqAV_spec h]
  · rename_i e xs e' ys
    cases hb : e.beq e' <;> simp only [hb, cond_true, cond_false] at h
    rw [Side_eq] at h
    rw [h, Nat.eq_of_beq_eq_true hb]
  · rfl
  · exact h.elim
def wkSl (S : St) (m : List (Nat × Nat)) : List (Nat × AV) → Prop
  | [] => True
  | (t, v) :: l => eqAV (S.sl t) (v.ren m) ∧ wkSl S m l
def wkHp (S : St) (m : List (Nat × Nat)) : List (Nat × AObj) → Prop
  | [] => True
  | (o, x) :: l => (match S.hp (renN m o) with
    | some y => eqObj y (x.ren m)
    | none => False) ∧ wkHp S m l
theorem wkSl_spec {S : St} {m : List (Nat × Nat)} : ∀ {l : List (Nat × AV)}, wkSl S m l → ∀ t v, (t, v) ∈ l → S.sl t = v.ren m
  | [], _, _, _, h => by cases h
  | (t', v') :: l, h, t, v, hm => by
    rcases List.mem_cons.1 hm with he | hm
    · cases he; exact eqAV_spec h.1
    · exact wkSl_spec h.2 t v hm
theorem wkHp_spec {S : St} {m : List (Nat × Nat)} : ∀ {l : List (Nat × AObj)}, wkHp S m l → ∀ o x, (o, x) ∈ l → S.hp (renN m o) = some (x.ren m)
  | [], _, _, _, h => by cases h
  | (o', x') :: l, h, o, x, hm => by
    rcases List.mem_cons.1 hm with he | hm
    · cases he
      have h1 := h.1
      split at h1
      · rename_i y hy; rw [hy, eqObj_spec h1]
      · exact h1.elim
    · exact wkHp_spec h.2 o x hm
def hasKey {α : Type} (l : List (Nat × α)) (n : Nat) : Bool := (lkp l n).isSome
def wkOK (en : List Nat) (m : List (Nat × Nat)) (sl : List (Nat × AV)) (hp : List (Nat × AObj)) : Bool :=
  sl.all (fun p => p.2.names.all (hasKey hp)) && hp.all (fun p => p.2.names.all (hasKey hp)) &&
  hp.all (fun p => hp.all fun q => p.1.beq q.1 || !(renN m p.1).beq (renN m q.1)) && en.all (fun n => (renN m n).beq n && hasKey hp n)
structure Weak (en : List Nat) (S : St) (sl : List (Nat × AV)) (hp : List (Nat × AObj)) : Prop where
  h : ∃ m, Chk (wkOK en m sl hp) ∧ wkSl S m sl ∧ wkHp S m hp
theorem InvAt.weakAt {E : Ent} {S : St} {ρ : Nat → Option Nat} {X : Nat → Prop} {a : Act} {w : World} {en : List Nat} {m : List (Nat × Nat)} {sl : List (Nat × AV)} {hp : List (Nat × AObj)} (hA : InvAt E S ρ X a w) (hen : ∀ n, E.hp n ≠ none → n ∈ en) (h1 : wkOK en m sl hp = true) (h2 : wkSl S m sl) (h3 : wkHp S m hp) :
    InvAt E (mkSt S.n sl hp) (fun o => ρ (renN m o)) X a w := by
  simp only [wkOK, Bool.and_eq_true, List.all_eq_true, Bool.or_eq_true, Bool.not_eq_true', hasKey, Option.isSome_iff_ne_none] at h1
  obtain ⟨⟨⟨k1, k2⟩, k3⟩, k4⟩ := h1
  have hs := hA.sim
  have hobj : ∀ o x, (mkSt S.n sl hp).hp o = some x → S.hp (renN m o) = some (x.ren m) := fun o x h => wkHp_spec h3 o x (lkp_mem h)
  refine ⟨⟨hs.n, fun t v ht => ?_, fun o x h => ?_, fun o o' x x' b e1 e2 e3 e4 e5 e6 => ?_, fun o x b e1 e2 e3 => ?_, fun t o ho => ?_, fun o x h o' ho' => ?_⟩,
    hA.ext, hA.xs, fun o x b e1 e2 e3 => ?_, fun n hn => ?_, hA.marks⟩
  · show RepA _ X w (match lkp sl t with | some x => x | none => .top) v
    cases hl : lkp sl t with
    | none => trivial
    | some x =>
      refine RepA.ren (m := m) ?_
      rw [← wkSl_spec h2 t x (lkp_mem hl)]
      exact hs.slots t v ht
  · exact ObjAt.ren (hs.objs _ _ (hobj o x h))
  · have := hs.inj _ _ _ _ b (hobj o x e1) (by rw [AObj.ren_alive]; exact e2) (hobj o' x' e3) (by rw [AObj.ren_alive]; exact e4) e5 e6
    rcases k3 _ (lkp_mem e1) _ (lkp_mem e3) with h | h
    · exact Nat.eq_of_beq_eq_true h
    · simp only at h
      rw [this] at h; simp at h
  · exact hs.own _ _ b (hobj o x e1) (by rw [AObj.ren_alive]; exact e2) e3
  · have ho : o ∈ (match lkp sl t with | some x => x | none => .top : AV).names := ho
    cases hl : lkp sl t with
    | none => rw [hl] at ho; cases ho
    | some x => rw [hl] at ho; exact k1 _ (lkp_mem hl) o ho
  · exact k2 _ (lkp_mem h) o' ho'
  · exact hA.own _ _ b (hobj o x e1) (by rw [AObj.ren_alive]; exact e2) e3
  · obtain ⟨q1, q2⟩ := k4 n (hen n hn)
    have q1 := Nat.eq_of_beq_eq_true q1
    refine ⟨q2, ?_⟩
    show ρ (renN m n) = _
    rw [q1]; exact (hA.same n hn).2
theorem Inv.weak {E : Ent} {S : St} {a : Act} {w : World} {en : List Nat} {sl : List (Nat × AV)} {hp : List (Nat × AObj)} (hI : Inv E S a w) (hen : ∀ n, E.hp n ≠ none → n ∈ en) (h : Weak en S sl hp) : Inv E (mkSt S.n sl hp) a w := by
  obtain ⟨m, h1, h2, h3⟩ := h.h
  rw [Chk_eq] at h1
  obtain ⟨ρ, X, hA⟩ := hI
  exact ⟨_, X, hA.weakAt hen h1 h2 h3⟩
def ownK (nm e t : Nat) (S : St) (k : AV → List (Nat × AObj) → Prop) : Prop := match S.hp nm with
  | some _ => False
  | none => match S.sl t with
    | .d .nils => k (.sl nm [] e 0 0) [(nm, .row e [])]
    | .sl o p e' off len => match S.hp o with
      | some (.row e'' xs) => bif t.blt S.n then k (.sl nm p e' off len) [(nm, .row e'' xs), (o, .dead)] else False
      | _ => False
    | _ => False
def nilAt (nm e : Nat) : Nat → AV → Option AV
  | 0, .d .nils => some (.sl nm [] e 0 0)
  | f + 1, .d (.st fs) => match fs[f]? with
    | some .nils => some (.st ((fs.map AV.d).set f (.sl nm [] e 0 0)))
    | _ => none
  | f + 1, .st fs => match fs[f]? with
    | some (.d .nils) => some (.st (fs.set f (.sl nm [] e 0 0)))
    | _ => none
  | _, _ => none
theorem nilAt_rep {nm e f : Nat} {x y : AV} (h : nilAt nm e f x = some y) {ρ : Nat → Option Nat} {X : Nat → Prop} {w : World} (hρ : ρ nm = none) {cs : List Value} (hr : RepC ρ X w x cs) : RepC ρ X w y cs := by
  unfold nilAt at h
  split at h
  · cases h
    cases hr with
    | d hr => cases hr; exact .slnil hρ
  · rename_i f fs
    split at h <;> cases h
    rename_i hf
    cases hr with
    | d hr =>
      cases hr with
      | st hr =>
        obtain ⟨pre, c, post, e1, _, e3, e4⟩ := RepCs.get hr.toC (i := f) (y := .d .nils) (by rw [List.getElem?_map, hf]; rfl)
        cases e3 with
        | d e3 =>
          cases e3
          rw [e1]
          exact .st (e4 _ _ (.slnil hρ))
  · rename_i f fs
    split at h <;> cases h
    rename_i hf
    cases hr with
    | st hr =>
      obtain ⟨pre, c, post, e1, _, e3, e4⟩ := RepCs.get hr hf
      cases e3 with
      | d e3 =>
        cases e3
        rw [e1]
        exact .st (e4 _ _ (.slnil hρ))
  · cases h
theorem namesL_set {y : AV} {n : Nat} : ∀ {fs : List AV} {f : Nat}, n ∈ AV.namesL (fs.set f y) → n ∈ y.names ∨ n ∈ AV.namesL fs
  | [], _, h => by cases h
  | x :: fs, 0, h => by
    simp only [List.set_cons_zero, AV.namesL, List.mem_append] at h ⊢
    exact h.imp id .inr
  | x :: fs, f + 1, h => by
    simp only [List.set_cons_succ, AV.namesL, List.mem_append] at h ⊢
    rcases h with h | h
    · exact .inr (.inl h)
    · exact (namesL_set h).imp id .inr
theorem namesL_data {n : Nat} : ∀ {fs : List D}, n ∈ AV.namesL (fs.map AV.d) → False
  | [], h => by cases h
  | x :: fs, h => by
    simp only [List.map_cons, AV.namesL, List.mem_append] at h
    rcases h with h | h
    · cases h
    · exact namesL_data h
theorem nilAt_names {nm e f : Nat} {x y : AV} (h : nilAt nm e f x = some y) {n : Nat} (hn : n ∈ y.names) : n = nm ∨ n ∈ x.names := by
  unfold nilAt at h
  split at h
  · cases h; simp [AV.names] at hn; exact .inl hn
  · split at h <;> cases h
    simp only [AV.names] at hn
    rcases namesL_set hn with hn | hn
    · simp [AV.names] at hn; exact .inl hn
    · exact (namesL_data hn).elim
  · split at h <;> cases h
    simp only [AV.names] at hn ⊢
    rcases namesL_set hn with hn | hn
    · simp [AV.names] at hn; exact .inl hn
    · exact .inr hn
  · cases h
def ownV (f nm e o : Nat) (S : St) (k : List (Nat × AObj) → Prop) : Prop := match S.hp nm with
  | some _ => False
  | none => match S.hp o with
    | some (.var x) => match nilAt nm e f x with
      | some y => k [(o, .var y), (nm, .row e [])]
      | none => False
    | _ => False
def ptrK (t : Nat) (S : St) (k : AV → List (Nat × AObj) → Prop) : Prop := match S.sl t with
  | .ptr o [] => match S.hp o with
    | some (.var (.d x)) => bif t.blt S.n then k (.dptr x) (deads [o]) else False
    | some (.var (.st fs)) => match toD S.hp (.st fs) with
      | some (s, y, fz) => bif t.blt S.n then Side s ∧ k (.dptr y) (deads (o :: fz)) else False
      | none => False
    | _ => False
  | _ => False
def frzK : List Nat → St → (St → Prop) → Prop
  | [], S, k => k S
  | t :: ts, S, k => bif t.blt 500000 then match toD S.hp (S.sl t) with
      | some (s, y, fz) => Side s ∧ fNs fz fun fz => frzK ts ((S.write (deads fz)).put (some t) (.d y)) k
      | none => False
    else bif t.blt 1000000 then fN (t - 500000) fun u => ptrK u S fun r ws => fAV r fun r => fWs ws fun ws => frzK ts ((S.write ws).put (some u) r) k
    else bif Nat.ble 1000000000000000000 t then fN (t / 1000000000000000000000000000) fun f => fN (t / 1000000000 % 1000000000) fun nm => fN (t / 1000000000000000000 % 1000000000) fun e => fN (t % 1000000000) fun o => ownV f nm e o S fun ws => fWs ws fun ws => frzK ts (S.upd none .top ws) k
    else fN (t / 1000000) fun nm => fN (t / 1000 % 1000) fun e => fN (t % 1000) fun u => ownK nm e u S fun r ws => fAV r fun r => fWs ws fun ws => frzK ts (S.upd (some u) r ws) k
def frC (fr : List (Nat × List Nat)) (id : Nat) (S : St) (k : St → Prop) : Prop := match lkp fr id with
  | none => k S
  | some ts => frzK ts S k
theorem InvAt.marksLess {E : Ent} {S : St} {ρ : Nat → Option Nat} {X : Nat → Prop} {a : Act} {w : World} (hA : InvAt E S ρ X a w) (fz : List Nat) :
    ∃ ms : List Nat, a.defers = ms.map mark ++ E.ds ∧ (E.nm = true → ms = []) ∧ ms.Nodup ∧ ∀ D, D ∈ ms → E.w.heap.size ≤ D ∧ less S.hp ρ X fz D ∧ w.heap[D]? = some (.deferred (some [])) := by
  obtain ⟨ms, k1, kn, k0, k2⟩ := hA.marks
  refine ⟨ms, k1, kn, k0, fun D hD => ?_⟩
  obtain ⟨k3, k4, k5⟩ := k2 D hD
  refine ⟨k3, ⟨k4, fun ⟨o, x, _, q1, q2, q3⟩ => ?_⟩, k5⟩
  obtain ⟨c, T, z, q4⟩ := (hA.sim.objs o x q1).cells q2 q3
  rw [k5] at q4; cases q4
theorem InvAt.kill {E : Ent} {S : St} {ρ : Nat → Option Nat} {X : Nat → Prop} {a : Act} {w : World} (hA : InvAt E S ρ X a w) (fz : List Nat) : InvAt E (S.write (deads fz)) ρ (less S.hp ρ X fz) a w := by
  have hal : ∀ o x, (S.write (deads fz)).hp o = some x → x.alive = true → S.hp o = some x := fun o x h ha => by
    simp only [St.write] at h
    cases hl : lkp (deads fz) o with
    | some y => simp only [hl, Option.some.injEq] at h; subst h; rw [(lkp_deads hl).1] at ha; cases ha
    | none => simpa only [hl] using h
  refine ⟨hA.sim.kill fz, hA.ext, fun b hb => ⟨fun k => (hA.xs b hb).1 k.1, fun k => ?_⟩, fun o x b e1 e2 e3 => hA.own o x b (hal o x e1 e2) e2 e3, fun n hn => ⟨wr_ne (ws := deads fz) (hA.same n hn).1, (hA.same n hn).2⟩, hA.marksLess fz⟩
  rcases (hA.xs b hb).2 k with k | k
  · by_cases hl : less S.hp ρ X fz b
    · exact .inl hl
    · right
      have : ∃ o x, o ∈ fz ∧ S.hp o = some x ∧ x.alive = true ∧ ρ o = some b := Classical.byContradiction fun hn => hl ⟨k, hn⟩
      obtain ⟨o, x, _, k1, k2, k3⟩ := this
      exact (hA.own o x b k1 k2 k3).elim (fun q => by omega) id
  · exact .inr k
theorem Inv.frz {E : Ent} {S : St} {a : Act} {w : World} {t : Nat} {s : Prop} {y : D} {fz : List Nat} (hI : Inv E S a w) (h : toD S.hp (S.sl t) = some (s, y, fz)) (hs : s) : Inv E ((S.write (deads fz)).put (some t) (.d y)) a w := by
  obtain ⟨ρ, X, hA⟩ := hI
  have hk := hA.sim.kill fz
  have hdom : ∀ n, S.hp n ≠ none → (S.write (deads fz)).hp n ≠ none := fun n hn => wr_ne (ws := deads fz) hn
  have hal : ∀ o x, (S.write (deads fz)).hp o = some x → x.alive = true → S.hp o = some x := fun o x h ha => by
    simp only [St.write] at h
    cases hl : lkp (deads fz) o with
    | some y => simp only [hl, Option.some.injEq] at h; subst h; rw [(lkp_deads hl).1] at ha; cases ha
    | none => simpa only [hl] using h
  refine ⟨ρ, less S.hp ρ X fz, ⟨⟨?_, fun u v hu => ?_, ?_, ?_, ?_, fun u o ho => ?_, ?_⟩, hA.ext, fun b hb => ⟨fun k => (hA.xs b hb).1 k.1, fun k => ?_⟩, fun o x b e1 e2 e3 => ?_, fun n hn => ?_, ?_⟩⟩
  · rw [St.n_put]; exact hk.n
  · rcases St.sl_put (S.write (deads fz)) (some t) (.d y) u with ⟨h1, h2⟩ | ⟨h1, _⟩
    · cases h2
      rw [h1]
      exact toD_rep hA.sim h hs (fun _ h => h) (hA.sim.slots _ v hu)
    · rw [h1]; exact hk.slots u v hu
  · rw [St.hp_put]; exact hk.objs
  · rw [St.hp_put]; exact hk.inj
  · rw [St.hp_put]; exact hk.own
  · rw [St.hp_put]
    rcases St.sl_put (S.write (deads fz)) (some t) (.d y) u with ⟨h1, _⟩ | ⟨h1, _⟩
    · rw [h1] at ho; cases ho
    · rw [h1] at ho; exact hk.closedS u o ho
  · rw [St.hp_put]; exact hk.closedH
  · rcases (hA.xs b hb).2 k with k | k
    · by_cases hl : less S.hp ρ X fz b
      · exact .inl hl
      · right
        have : ∃ o x, o ∈ fz ∧ S.hp o = some x ∧ x.alive = true ∧ ρ o = some b := Classical.byContradiction fun hn => hl ⟨k, hn⟩
        obtain ⟨o, x, _, k1, k2, k3⟩ := this
        exact (hA.own o x b k1 k2 k3).elim (fun q => by omega) id
    · exact .inr k
  · rw [St.hp_put] at e1
    exact hA.own o x b (hal o x e1 e2) e2 e3
  · rw [St.hp_put]
    exact ⟨hdom n (hA.same n hn).1, (hA.same n hn).2⟩
  · exact hA.marksLess fz
theorem put_same {a : Act} {t : Nat} {v : Value} (h : ∀ u, a.tmps[t]? = some u → u = v) : a.put (some t) v = a := by
  have : a.tmps.setIfInBounds t v = a.tmps := by
    apply Array.ext
    · simp
    · intro i h1 h2
      rw [Array.getElem_setIfInBounds (by simpa using h2)]
      split
      · rename_i e; subst e
        exact (h _ (Array.getElem?_eq_getElem (by simpa using h2))).symm
      · rfl
  show ({ a with tmps := a.tmps.setIfInBounds t v } : Act) = a
  rw [this]
theorem ownK_sound {E : Ent} {a : Act} {w : World} {nm e t : Nat} {S : St} {k : AV → List (Nat × AObj) → Prop} (h : ownK nm e t S k) (hI : Inv E S a w) : ∃ r ws, k r ws ∧ Inv E (S.upd (some t) r ws) a w := by
  obtain ⟨ρ, X, hA⟩ := hI
  have hdom : ∀ (ws : List (Nat × AObj)) (r : AV) n, S.hp n ≠ none → (S.upd (some t) r ws).hp n ≠ none := fun ws r n hn => by
    rw [St.hp_upd']; exact wr_ne hn
  unfold ownK at h
  split at h
  · exact h.elim
  · rename_i hf
    split at h
    · rename_i hv
      refine ⟨_, _, h, ?_⟩
      have hval : ∀ u, a.tmps[t]? = some u → u = .slice none 0 0 := fun u hu => by
        have := hA.sim.slots t u hu
        rw [hv] at this
        obtain ⟨cs, h1, h2⟩ := repA_d this
        cases h1; exact h2
      obtain ⟨ρ', X', h1, h2⟩ := hA.sim.moved (w' := w) (Y := fun _ => False) (nm := nm) (x := .row e []) (ws := [(nm, .row e [])]) (dst := some t) (r := .sl nm [] e 0 0) (v := .slice none 0 0) (nb := none) hf
        (fun n y hl => .inl (by have := lkp_mem hl; simp at this; exact this)) (by simp [lkp]) (.refl _ _) (fun _ hb => hb.elim) (fun b hb => by cases hb)
        (fun ρ' X' _ hn => .inl ⟨hn, rfl⟩) (fun n hn => by cases hn) (fun ρ' X' _ hn => ⟨_, .slnil hn, rfl⟩) (fun n hn => by simp [AV.names] at hn; exact .inr hn)
      rw [put_same hval] at h1
      exact ⟨ρ', X', hA.evo h1 h2 (hdom _ _) rfl⟩
    · rename_i o p e' off len hv
      split at h
      · rename_i e'' xs ho
        cases hb : Nat.blt t S.n with
        | false => rw [hb] at h; exact h.elim
        | true =>
        rw [hb] at h
        refine ⟨_, _, h, ?_⟩
        have hlt : t < a.tmps.size := by rw [hA.sim.n]; exact Nat.le_of_ble_eq_true hb
        have hu := hA.sim.slots t _ (Array.getElem?_eq_getElem hlt)
        rw [hv] at hu
        have hne : o ≠ nm := fun he => by rw [he, hf] at ho; cases ho
        have hne2 : (nm.beq o) = false := by
          cases hb : nm.beq o with
          | true => exact absurd (Nat.eq_of_beq_eq_true hb).symm hne
          | false => rfl
        obtain ⟨ρ', X', h1, h2⟩ := hA.sim.moved (w' := w) (Y := fun _ => False) (nm := nm) (x := .row e'' xs) (ws := [(nm, .row e'' xs), (o, .dead)]) (dst := some t) (r := .sl nm p e' off len) (v := a.tmps[t]) (nb := ρ o) hf
          (fun n y hl => by
            have := lkp_mem hl
            simp only [List.mem_cons, Prod.mk.injEq, List.not_mem_nil, or_false] at this
            rcases this with ⟨q1, q2⟩ | ⟨q1, q2⟩
            · exact .inl ⟨q1, q2⟩
            · exact .inr ⟨q2, by rw [q1, ho]; simp⟩) (by simp [lkp]) (.refl _ _) (fun _ hb => hb.elim) (fun b hb => .inr ⟨o, _, by simp [lkp, hne2], ho, rfl, hb⟩)
          (fun ρ' X' g hn => by
            rcases hA.sim.objs o _ ho with ⟨q1, q2⟩ | ⟨b, cs, rest, T, z, q0, q1, q2, q3, q4⟩
            · exact .inl ⟨by rw [hn, q1], q2⟩
            · exact .inr ⟨b, cs, rest, T, z, by rw [hn, q0], q1, q2, q3.mono g.ext g.off g.own, q4⟩)
          (fun n hn => by cases hn) (fun ρ' X' g hn => by
            obtain ⟨cs, q1, q2⟩ := hu
            cases q1 with
            | sl q3 q4 q5 q6 q7 => exact ⟨_, .sl (by rw [hn, q3]) q4 q5 q6 q7, q2⟩
            | slnil q3 => exact ⟨_, .slnil (by rw [hn, q3]), q2⟩) (fun n hn => by simp [AV.names] at hn; exact .inr hn)
        rw [put_same (fun u hu => by rw [Array.getElem?_eq_getElem hlt] at hu; cases hu; rfl)] at h1
        exact ⟨ρ', X', hA.evo h1 h2 (hdom _ _) rfl⟩
      · exact h.elim
    · exact h.elim
theorem ownV_sound {E : Ent} {a : Act} {w : World} {f nm e o : Nat} {S : St} {k : List (Nat × AObj) → Prop} (h : ownV f nm e o S k) (hI : Inv E S a w) : ∃ ws, k ws ∧ Inv E (S.upd none .top ws) a w := by
  obtain ⟨ρ, X, hA⟩ := hI
  unfold ownV at h
  split at h
  · exact h.elim
  · rename_i hf
    split at h
    · rename_i x ho
      split at h
      rotate_left
      · exact h.elim
      rename_i y hy
      refine ⟨_, h, ?_⟩
      have hs := hA.sim
      have hne : o ≠ nm := fun he => by rw [he, hf] at ho; cases ho
      have hbeq : ∀ {x y : Nat}, x ≠ y → (x.beq y) = false := fun {x y} hxy => by
        cases hb : x.beq y with
        | true => exact absurd (Nat.eq_of_beq_eq_true hb) hxy
        | false => rfl
      let ρ' : Nat → Option Nat := fun n => bif nm.beq n then none else ρ n
      have hρ : ∀ n, n ≠ nm → ρ' n = ρ n := fun n hn => by simp only [ρ', hbeq (Ne.symm hn), cond_false]
      have hρn : ρ' nm = none := by simp [ρ']
      have hlk : ∀ n x, lkp [(o, AObj.var y), (nm, .row e [])] n = some x → (n = o ∧ x = .var y) ∨ (n = nm ∧ x = .row e []) := fun n x hl => by
        have := lkp_mem hl
        simpa only [List.mem_cons, Prod.mk.injEq, List.not_mem_nil, or_false] using this
      have hlko : lkp [(o, AObj.var y), (nm, .row e [])] o ≠ none := by simp [lkp]
      have hlkn : lkp [(o, AObj.var y), (nm, .row e [])] nm ≠ none := by simp [lkp, hbeq hne]
      have g : Goes ρ ρ' X X (fun _ => False) w w := ⟨.refl _ _, fun _ _ _ h => h, fun _ _ h => h⟩
      have hno : ∀ n, S.hp n ≠ none → n ≠ nm := fun n hn he => hn (by rw [he]; exact hf)
      have hst := hs.step (Y := fun _ => False) (w' := w) (ρ' := ρ') (X' := X) (dst := none) (r := .top) (v := undef) (ws := [(o, .var y), (nm, .row e [])]) (.refl _ _) (fun _ hb => hb.elim) (fun n hn => hρ n (hno n hn)) (fun _ _ h => h)
        (fun n x b _ h1 h2 h3 => hs.own n x b h1 h2 h3)
        (fun n x hl => by
          rcases hlk n x hl with ⟨rfl, rfl⟩ | ⟨rfl, rfl⟩
          · obtain ⟨b, cs, T, z, q0, q1, q2, q3⟩ := hs.objs _ _ ho
            exact ⟨b, _, T, z, by rw [hρ _ hne, q0], q1, q2, nilAt_rep hy hρn (q3.mono g fun n hn => hρ n (hno n (hs.closedH _ _ ho n hn)))⟩
          · exact .inl ⟨hρn, rfl⟩)
        (fun n x b hl ha hb => by
          rcases hlk n x hl with ⟨rfl, rfl⟩ | ⟨rfl, rfl⟩
          · exact hs.own _ _ b ho rfl (by rw [← hρ _ hne]; exact hb)
          · rw [hρn] at hb; cases hb)
        (fun n x n' x' b hl ha hl' ha' hb hb' => by
          rcases hlk n x hl with ⟨rfl, rfl⟩ | ⟨rfl, rfl⟩
          · rcases hlk n' x' hl' with ⟨rfl, rfl⟩ | ⟨rfl, rfl⟩
            · rfl
            · rw [hρn] at hb'; cases hb'
          · rw [hρn] at hb; cases hb)
        (fun n x n' x' b hl ha hl' hs' ha' hb hb' => by
          rcases hlk n x hl with ⟨rfl, rfl⟩ | ⟨rfl, rfl⟩
          · have := hs.inj _ _ _ _ b ho rfl hs' ha' (by rw [← hρ _ hne]; exact hb) hb'
            subst this; exact hlko hl'
          · rw [hρn] at hb; cases hb)
        (fun n x hl n' hn' => by
          rcases hlk n x hl with ⟨rfl, rfl⟩ | ⟨rfl, rfl⟩
          · rcases nilAt_names hy hn' with rfl | hn'
            · exact .inr hlkn
            · exact .inl (hs.closedH _ _ ho _ hn')
          · cases hn')
        trivial (fun n hn => by cases hn)
      refine ⟨ρ', X, hA.evo hst ⟨.mono (.refl _ _) fun _ _ h => h, fun b _ => ⟨id, .inl⟩, fun n x b h1 h2 h3 => ?_, fun n hn => hρ n (hno n hn)⟩ (fun n hn => upd_dom hn) rfl⟩
      rw [St.hp_upd] at h1
      split at h1
      · rename_i y hl
        cases h1
        rcases hlk n _ hl with ⟨rfl, rfl⟩ | ⟨rfl, rfl⟩
        · exact .inr ⟨_, _, ho, rfl, by rw [← hρ _ hne]; exact h3⟩
        · rw [hρn] at h3; cases h3
      · exact .inr ⟨n, x, h1, h2, by rw [← hρ n (hno n (by rw [h1]; simp))]; exact h3⟩
    · exact h.elim
theorem ptrK_sound {E : Ent} {a : Act} {w : World} {t : Nat} {S : St} {k : AV → List (Nat × AObj) → Prop} (h : ptrK t S k) (hI : Inv E S a w) : ∃ r ws, k r ws ∧ Inv E ((S.write ws).put (some t) r) a w := by
  obtain ⟨ρ, X, hA⟩ := hI
  unfold ptrK at h
  split at h
  · rename_i o hv
    split at h
    · rename_i x ho
      cases hb : Nat.blt t S.n with
      | false => rw [hb] at h; exact h.elim
      | true =>
      rw [hb] at h
      refine ⟨_, _, h, ?_⟩
      have hlt : t < a.tmps.size := by rw [hA.sim.n]; exact Nat.le_of_ble_eq_true hb
      have hu := hA.sim.slots t _ (Array.getElem?_eq_getElem hlt)
      rw [hv] at hu
      obtain ⟨b, hb0, hxv⟩ := repA_ptr hu
      obtain ⟨b', cs, T, z, q0, q1, q2, q3⟩ := hA.sim.objs o _ ho
      rw [hb0] at q0; cases q0
      have hK := hA.kill [o]
      have q4 : RepD X w x cs := by cases q3 with | d q3 => exact q3
      have g : Goes ρ ρ X (less S.hp ρ X [o]) (fun _ => False) w w := ⟨.refl _ _, fun _ _ _ h => h, fun _ _ h => h.1⟩
      have hr : RepA ρ (less S.hp ρ X [o]) w (.dptr x) a.tmps[t] := by
        rw [hxv]
        refine ⟨_, .dptr (b := b) (q := 0) (cs := cs) (fun hl => hl.2 ⟨o, _, by simp, ho, rfl, hb0⟩) (Array.getElem?_eq_some_iff.1 q1).1 (fun i v hi => ?_) (q4.mono g.ext g.off g.own), rfl⟩
        simp only [World.cell?, q1]
        simpa using hi
      obtain ⟨k1, k2⟩ := hK.sim.put (dst := some t) hr (fun _ h => by cases h)
      rw [put_same (fun u hu => by rw [Array.getElem?_eq_getElem hlt] at hu; cases hu; rfl)] at k1
      exact ⟨ρ, _, hK.evo k1 k2 (fun n hn => by rw [St.hp_put]; exact hn) rfl⟩
    · rename_i fs ho
      split at h
      · rename_i s y fz hy
        cases hb : Nat.blt t S.n with
        | false => rw [hb] at h; exact h.elim
        | true =>
        rw [hb] at h
        obtain ⟨hs, h⟩ : Side s ∧ _ := h
        rw [Side_eq] at hs
        refine ⟨_, _, h, ?_⟩
        have hlt : t < a.tmps.size := by rw [hA.sim.n]; exact Nat.le_of_ble_eq_true hb
        have hu := hA.sim.slots t _ (Array.getElem?_eq_getElem hlt)
        rw [hv] at hu
        obtain ⟨b, hb0, hxv⟩ := repA_ptr hu
        obtain ⟨b', cs, T, z, q0, q1, q2, q3⟩ := hA.sim.objs o _ ho
        rw [hb0] at q0; cases q0
        have hK := hA.kill (o :: fz)
        have q5 : RepA ρ (less S.hp ρ X (o :: fz)) w (.d y) (wrapV true cs) := toD_rep hA.sim hy hs (fun n hn => List.mem_cons_of_mem o hn) ⟨cs, q3, rfl⟩
        obtain ⟨ys, rfl⟩ : ∃ ys, y = .st ys := by
          simp only [toD] at hy
          split at hy
          · cases hy; exact ⟨_, rfl⟩
          · cases hy
        obtain ⟨cs', c1, c2⟩ := q5
        have e : cs' = cs := by
          have : wrapV true cs = wrapV true cs' := c2
          simpa [wrapV] using this.symm
        subst e
        have q4 : RepD (less S.hp ρ X (o :: fz)) w (.st ys) cs' := by cases c1 with | d c1 => exact c1
        have hr : RepA ρ (less S.hp ρ X (o :: fz)) w (.dptr (.st ys)) a.tmps[t] := by
          rw [hxv]
          refine ⟨_, .dptr (b := b) (q := 0) (cs := cs') (fun hl => hl.2 ⟨o, _, by simp, ho, rfl, hb0⟩) (Array.getElem?_eq_some_iff.1 q1).1 (fun i v hi => ?_) q4, rfl⟩
          simp only [World.cell?, q1]
          simpa using hi
        obtain ⟨k1, k2⟩ := hK.sim.put (dst := some t) hr (fun _ h => by cases h)
        rw [put_same (fun u hu => by rw [Array.getElem?_eq_getElem hlt] at hu; cases hu; rfl)] at k1
        exact ⟨ρ, _, hK.evo k1 k2 (fun n hn => by rw [St.hp_put]; exact hn) rfl⟩
      · exact h.elim
    · exact h.elim
  · exact h.elim
theorem frzK_sound {E : Ent} {a : Act} {w : World} {k : St → Prop} : ∀ {ts : List Nat} {S : St}, frzK ts S k → Inv E S a w → ∃ S', k S' ∧ Inv E S' a w
  | [], S, h, hI => ⟨S, h, hI⟩
  | t :: ts, S, h, hI => by
    simp only [frzK, fNs_eq, fN_eq, fAV_eq, fWs_eq] at h
    cases hb : Nat.blt t 500000 with
    | true =>
      simp only [hb, cond_true] at h
      split at h
      · rename_i s y fz hd
        rw [Side_eq] at h
        exact frzK_sound h.2 (hI.frz hd h.1)
      · exact h.elim
    | false =>
      simp only [hb, cond_false] at h
      cases hb3 : Nat.blt t 1000000 with
      | true =>
        simp only [hb3, cond_true] at h
        obtain ⟨r, ws, h1, h2⟩ := ptrK_sound h hI
        exact frzK_sound h1 h2
      | false =>
      simp only [hb3, cond_false] at h
      cases hb2 : Nat.ble 1000000000000000000 t with
      | true =>
        simp only [hb2, cond_true] at h
        obtain ⟨ws, h1, h2⟩ := ownV_sound h hI
        exact frzK_sound h1 h2
      | false =>
        simp only [hb2, cond_false] at h
        obtain ⟨r, ws, h1, h2⟩ := ownK_sound h hI
        exact frzK_sound h1 h2
theorem frC_sound {E : Ent} {a : Act} {w : World} {k : St → Prop} {fr : List (Nat × List Nat)} {id : Nat} {S : St} (h : frC fr id S k) (hI : Inv E S a w) : ∃ S', k S' ∧ Inv E S' a w := by
  unfold frC at h
  split at h
  · exact ⟨S, h, hI⟩
  · exact frzK_sound h hI
structure NextC {X : Type} (en : List Nat) (sl : X → List (Nat × AV)) (hp : X → List (Nat × AObj)) (μ : X → Nat) (n : Nat) (x : X) (S' : St) : Prop where
  h : ∃ x', μ x' < μ x ∧ S'.n = n ∧ Weak en S' (sl x') (hp x')
structure LoopC (en : List Nat) (S : St) (body : St → (AExit → St → Prop) → Prop) (K : AExit → St → Prop) : Prop where
  h : ∃ (X : Type) (sl : X → List (Nat × AV)) (hp : X → List (Nat × AObj)) (μ : X → Nat) (x0 : X), Weak en S (sl x0) (hp x0) ∧
    ∀ x, body (mkSt S.n (sl x) (hp x)) fun e S' => match e with
      | .normal => NextC en sl hp μ S.n x S'
      | e => K e S'
def vcR (P : Program) (id : Nat) (l : List Oper) (draw : Bool) (S : St) (K : St → Prop) (Kp : Value → St → Prop) : Prop :=
  bif draw then vcOps P l id (fun fs => Chk (okPairs l fs && edgesB l)) l false 0 0 S [] K Kp
  else vcOps P l id (fun _ => True) l false 0 0 S [] K Kp
def wsl (n : Nat) (sl : List (Nat × AV)) (S' : St) : St := ⟨n, fun t => match lkp sl t with
  | some x => x
  | none => .top, S'.hp⟩
def zipD : List Tmp → List D → List (Nat × AV)
  | t :: ts, y :: ys => (t, .d y) :: zipD ts ys
  | _, _ => []
def distB : List Nat → Bool
  | [] => true
  | t :: ts => !ts.contains t && distB ts
theorem distB_spec : ∀ {ts : List Nat}, distB ts = true → ts.Nodup
  | [], _ => .nil
  | t :: ts, h => by
    simp only [distB, Bool.and_eq_true, Bool.not_eq_true', List.contains_eq_mem, decide_eq_false_iff_not] at h
    exact List.nodup_cons.2 ⟨h.1, distB_spec h.2⟩
def rndSt (n : Nat) (ts : List Tmp) (ys : List D) (sl : List (Nat × AV)) (hp : List (Nat × AObj)) : St := mkSt n (zipD ts ys ++ sl) hp
structure EndC (en : List Nat) (n : Nat) (sl : List (Nat × AV)) (hp : List (Nat × AObj)) (I : Prop) (S' : St) : Prop where
  i : I
  w : Weak en (wsl n sl S') sl hp
structure RangeC (P : Program) (en : List Nat) (ts : List Tmp) (g : Operand) (S : St) (round : List Nat → St → (AExit → St → Prop) → Prop) (K : AExit → St → Prop) : Prop where
  h : ∃ (f o : Nat) (x : D) (n : Nat) (ys : Nat → List D) (sl : List (Nat × AV)) (hp : Nat → List (Nat × AObj)) (I : Nat → Prop),
    S.ev g = .fn (.func f) [.ptr o []] ∧ S.hp o = some (.var (.d x)) ∧ callable P f = true ∧ SeqOK P f x n ys ∧ (∀ i, (ys i).length = ts.length ∧ (ys i).all D.scal = true) ∧ distB ts = true ∧ Weak en S sl (hp 0) ∧ I 0 ∧
    (∀ i, i < n → I i → round ((hp i).map (·.1)) (rndSt S.n ts (ys i) sl (hp i)) fun e S' => match e with
      | .normal => EndC en S.n sl (hp (i + 1)) (I (i + 1)) S'
      | e => K e (wsl S.n sl S')) ∧
    (I n → K .normal (mkSt S.n sl (hp n)))
def wpC (P : Program) (fr : List (Nat × List Nat)) : Bool → List Nat → Code → St → (AExit → St → Prop) → (Value → St → Prop) → Prop
  | _, _, .skip, S, K, _ => K .normal S
  | _, _, .label _, S, K, _ => K .normal S
  | _, _, .exit id, S, K, _ => K (.exit id) S
  | _, _, .goto l, S, K, _ => K (.goto l) S
  | _, _, .ret, S, K, _ => K .ret S
  | rd, en, .seq x y, S, K, Kp => wpC P fr rd en x S (fun e S' => match e with
      | .normal => wpC P fr rd en y S' K Kp
      | e => K e S') Kp
  | rd, en, .cond c x y, S, K, Kp => match S.ev c with
      | .d (.bool b) => bcase b fun t => bif t then wpC P fr rd en x S K Kp else wpC P fr rd en y S K Kp
      | _ => False
  | rd, en, .block id x, S, K, Kp => wpC P fr rd en x S (fun e S' => match e with
      | .exit i => bif i.beq id then K .normal S' else K (.exit i) S'
      | e => K e S') Kp
  | rd, en, .scope x, S, K, Kp => wpC P fr rd en x S (fun e S' => match e with
      | .goto _ => False
      | e => K e S') Kp
  | _, _, .region id ops draw, S, K, Kp => frC fr id S fun S' => vcR P id ops.toList draw S' (fun S2 => frC fr (id + 500000) S2 fun S3 => K .normal S3) Kp
  | rd, en, .loop x, S, K, Kp => LoopC en S (fun S' K' => wpC P fr rd en x S' K' Kp) K
  | false, en, .rangeFunc g ts x y, S, K, _ => RangeC P en ts.toList g S (fun en' S1 K1 => wpC P fr true en' x S1 (fun e S2 => match e with
      | .normal => wpC P fr true en' y S2 K1 (fun _ _ => False)
      | _ => False) (fun _ _ => False)) K
  | _, _, _, _, _, _ => False
def QQ (E : Ent) (K : AExit → St → Prop) (Kp : Value → St → Prop) : Exit → Act → World → Prop
  | .normal, a, w => ∃ S, K .normal S ∧ Inv E S a w
  | .ret, a, w => ∃ S, K .ret S ∧ Inv E S a w
  | .exit i, a, w => ∃ S, K (.exit i) S ∧ Inv E S a w
  | .goto l, a, w => ∃ S, K (.goto l) S ∧ Inv E S a w
  | .panic ch, a, w => ∃ pv S, ch = [{ v := pv, recovered := false }] ∧ Kp pv S ∧ Inv E S a w
  | .outgrown, _, _ => False
theorem least (p : Nat → Prop) : ∀ n, p n → ∃ m, p m ∧ ∀ k, p k → m ≤ k := by
  intro n
  induction n using Nat.strongRecOn with
  | _ n ih =>
    intro h
    by_cases hx : ∃ k, k < n ∧ p k
    · obtain ⟨k, h1, h2⟩ := hx; exact ih k h1 h2
    · exact ⟨n, h, fun k hk => Nat.le_of_not_lt fun hlt => hx ⟨k, hlt, hk⟩⟩
open Classical in
theorem wpIn_loopI {F : Fence} {n : Nat} {P : Program} {Q : Exit → Act → World → Prop} {c : Code} {Y : Type} (I : Y → Act → World → Prop) (μ : Y → Nat) {x0 : Y} {a : Act} {w : World} (h0 : I x0 a w)
    (round : ∀ x a w, I x a w → c.wpIn F n P (Exit.then (fun a' w' => ∃ x', I x' a' w' ∧ μ x' < μ x) Q) a w) : (Code.loop c).wpIn F n P Q a w := by
  let p : Act → World → Nat → Prop := fun a w n => ∃ x, I x a w ∧ μ x = n
  let ν : Act → World → Nat := fun a w => if h : ∃ m, p a w m ∧ ∀ k, p a w k → m ≤ k then Classical.choose h else 0
  have hν : ∀ a w x, I x a w → (∃ y, I y a w ∧ μ y = ν a w) ∧ ν a w ≤ μ x := fun a w x hx => by
    have he : ∃ m, p a w m ∧ ∀ k, p a w k → m ≤ k := least (p a w) (μ x) ⟨x, hx, rfl⟩
    have : ν a w = Classical.choose he := dif_pos he
    rw [this]
    exact ⟨(Classical.choose_spec he).1, (Classical.choose_spec he).2 _ ⟨x, hx, rfl⟩⟩
  refine wpIn_loop (fun a w => ∃ x, I x a w) ν ⟨x0, h0⟩ fun a w hx => ?_
  obtain ⟨x, hx⟩ := hx
  obtain ⟨⟨y, hy, hm⟩, _⟩ := hν a w x hx
  refine wpIn_mono (round y a w hy) fun e a' w' he => ?_
  cases e <;> try exact he
  obtain ⟨x', h1, h2⟩ := he
  refine ⟨⟨x', h1⟩, ?_⟩
  have := (hν a' w' x' h1).2
  omega
theorem region_sound {P : Program} {ops : Array Oper} {id : Nat} {chk : Foots → Prop} {S : St} {K : St → Prop} {Kp : Value → St → Prop}
    (h : vcOps P ops.toList id chk ops.toList false 0 0 S [] K Kp) : ∃ pi fs out, Tr P ops.toList false pi (List.range' 0 ops.size) S fs out ∧ chk fs.reverse ∧ match out with
      | .inl S' => K S'
      | .inr p => Kp p.1 p.2 := by
  obtain ⟨pi, fs, out, h1, h2, _, h3⟩ := vc_tr _ _ _ _ _ _ _ _ (fun k o hk => by simpa using hk) h
  refine ⟨pi, fs, out, ?_, by simpa using h2, h3⟩
  have : ((List.range' 0 ops.toList.length).filter fun j => !(0 : Nat).testBit j) = List.range' 0 ops.size := by
    rw [List.filter_eq_self.2 fun j _ => by simp]
    simp
  rw [this] at h1; exact h1
theorem fold_put (ts : List Tmp) (vs : List Value) : ∀ (l : Array Value), (((ts.toArray.zip vs.toArray).foldl (fun tmps (p : Tmp × Value) => tmps.setIfInBounds p.1 p.2) l)) = (ts.zip vs).foldl (fun tmps p => tmps.setIfInBounds p.1 p.2) l := by
  intro l
  rw [← Array.foldl_toList]
  simp
theorem zip_size (ts : List Tmp) (vs : List Value) : ∀ (l : Array Value), ((ts.zip vs).foldl (fun tmps (p : Tmp × Value) => tmps.setIfInBounds p.1 p.2) l).size = l.size := by
  induction ts generalizing vs with
  | nil => intro l; rfl
  | cons t ts ih =>
    intro l
    cases vs with
    | nil => rfl
    | cons v vs => simp only [List.zip_cons_cons, List.foldl_cons]; rw [ih]; simp
theorem zip_rep {ρ : Nat → Option Nat} {X : Nat → Prop} {w : World} {sl : Nat → AV} : ∀ (ts : List Tmp) (ys : List D) (l : Array Value), ts.length = ys.length → ys.all D.scal = true → (∀ t v, l[t]? = some v → RepA ρ X w (sl t) v) → ts.Nodup →
    ∀ t v, ((ts.zip (ys.map D.sval)).foldl (fun tmps (p : Tmp × Value) => tmps.setIfInBounds p.1 p.2) l)[t]? = some v → RepA ρ X w (match lkp (zipD ts ys) t with | some x => x | none => sl t) v
  | [], [], l, _, _, h, _, t, v, ht => h t v ht
  | t0 :: ts, y :: ys, l, hl, hs, h, hnd, t, v, ht => by
    simp only [List.all_cons, Bool.and_eq_true] at hs
    have hnd' := List.nodup_cons.1 hnd
    simp only [List.map_cons, List.zip_cons_cons, List.foldl_cons] at ht
    have ih := zip_rep (sl := fun u => bif t0.beq u then .d y else sl u) ts ys (l.setIfInBounds t0 y.sval) (by simpa using hl) hs.2 (fun u x hu => by
      show RepA ρ X w (bif t0.beq u then .d y else sl u) x
      cases hb : t0.beq u with
      | true =>
        have := Nat.eq_of_beq_eq_true hb
        subst this
        simp only [Array.getElem?_setIfInBounds, if_true] at hu
        split at hu
        · cases hu; exact repA_scal hs.1
        · cases hu
      | false =>
        have hne : t0 ≠ u := fun e => by subst e; simp at hb
        rw [Array.getElem?_setIfInBounds_ne hne] at hu
        exact h u x hu) hnd'.2 t v ht
    simp only [zipD, lkp]
    cases hl2 : lkp (zipD ts ys) t with
    | some x =>
      simp only [hl2] at ih
      cases hb : t0.beq t with
      | false => exact ih
      | true =>
        exfalso
        have := Nat.eq_of_beq_eq_true hb
        subst this
        have : ∀ (ts : List Tmp) (ys : List D), lkp (zipD ts ys) t0 ≠ none → t0 ∈ ts := by
          intro ts
          induction ts with
          | nil => intro ys h; cases ys <;> exact absurd rfl h
          | cons s ts ih =>
            intro ys h
            cases ys with
            | nil => exact absurd rfl h
            | cons z ys =>
              simp only [zipD, lkp] at h
              cases hb : s.beq t0 with
              | true => simp [Nat.eq_of_beq_eq_true hb]
              | false => rw [hb] at h; exact List.mem_cons_of_mem _ (ih ys h)
        exact hnd'.1 (this ts ys (by rw [hl2]; simp))
    | none =>
      simp only [hl2] at ih
      cases hb : t0.beq t <;> rw [hb] at ih <;> exact ih
  | [], _ :: _, _, h, _, _, _, _, _, _ => by cases h
  | _ :: _, [], _, h, _, _, _, _, _, _ => by cases h
theorem zipD_data : ∀ (ts : List Tmp) (ys : List D) (t : Nat) (x : AV), lkp (zipD ts ys) t = some x → ∃ y, x = .d y
  | [], ys, t, x, h => by cases ys <;> cases h
  | _ :: _, [], t, x, h => by cases h
  | s :: ts, y :: ys, t, x, h => by
    simp only [zipD, lkp] at h
    cases hb : s.beq t <;> rw [hb] at h
    · exact zipD_data ts ys t x h
    · cases h; exact ⟨y, rfl⟩
theorem InvAt.rnd {E : Ent} {n : Nat} {ts : List Tmp} {ys : List D} {sl : List (Nat × AV)} {hp : List (Nat × AObj)} {ρ : Nat → Option Nat} {X : Nat → Prop} {a : Act} {w : World} (h : InvAt E (mkSt n sl hp) ρ X a w) (hl : ts.length = ys.length) (hs : ys.all D.scal = true) (hnd : ts.Nodup) :
    InvAt ⟨(mkSt n sl hp).hp, ρ, X, w, [], true⟩ (rndSt n ts ys sl hp) ρ X { tmps := (ts.zip (ys.map D.sval)).foldl (fun tmps p => tmps.setIfInBounds p.1 p.2) a.tmps, defers := [] } w := by
  have hsim := h.sim
  have hsl : ∀ t, (rndSt n ts ys sl hp).sl t = match lkp (zipD ts ys) t with | some x => x | none => (mkSt n sl hp).sl t := fun t => by
    show (match lkp (zipD ts ys ++ sl) t with | some x => x | none => .top : AV) = _
    rw [lkp_append]
    cases lkp (zipD ts ys) t <;> rfl
  refine ⟨⟨?_, fun t v ht => ?_, hsim.objs, hsim.inj, hsim.own, fun t o ho => ?_, hsim.closedH⟩, .refl _ _, fun b _ => ⟨id, .inl⟩, fun o x b h1 h2 h3 => .inr ⟨o, x, h1, h2, h3⟩, fun o ho => ⟨ho, rfl⟩, ⟨[], rfl, fun _ => rfl, .nil, fun D hD => by cases hD⟩⟩
  · show ((ts.zip (ys.map D.sval)).foldl _ a.tmps).size = n
    rw [zip_size]; exact hsim.n
  · rw [hsl]
    exact zip_rep ts ys a.tmps hl hs (fun t v ht => hsim.slots t v ht) hnd t v ht
  · rw [hsl] at ho
    cases hz : lkp (zipD ts ys) t with
    | none => rw [hz] at ho; exact hsim.closedS t o ho
    | some x =>
      rw [hz] at ho
      obtain ⟨y, rfl⟩ := zipD_data ts ys t x hz
      cases ho
theorem mark_inj : ∀ {l m : List Nat}, l.map mark = m.map mark → l = m
  | [], [], _ => rfl
  | [], _ :: _, h => by cases h
  | _ :: _, [], h => by cases h
  | x :: l, y :: m, h => by
    simp only [List.map_cons, List.cons.injEq] at h
    have h1 : x = y := by simpa [mark] using h.1
    rw [h1, mark_inj h.2]
theorem own_cells {S : St} {ρ : Nat → Option Nat} {X : Nat → Prop} {a : Act} {w : World} (hs : Sim S ρ X a w) {ds : List Deferred} {nm : Bool} {b : Nat} (h : Ent.own ⟨S.hp, ρ, X, w, ds, nm⟩ b) : ∃ c T z, w.heap[b]? = some (.cells c T z) := by
  obtain ⟨o, x, h1, h2, h3⟩ := h
  exact (hs.objs o x h1).cells h2 h3
section
variable {P : Program} {fr : List (Nat × List Nat)}
theorem range_sound {E : Ent} {en : List Nat} {kk : Nat} (hnm : E.nm = false) (hen : ∀ n, E.hp n ≠ none → n ∈ en) {g : Operand} {ts : Array Tmp} {x y : Code} {S : St} {K : AExit → St → Prop} {Kp : Value → St → Prop}
    (hx : ∀ {E' : Ent} {en' : List Nat} {S1 : St} {K1 : AExit → St → Prop} {Kp1 : Value → St → Prop} {l k : Nat}, (∀ n, E'.hp n ≠ none → n ∈ en') → wpC P fr true en' x S1 K1 Kp1 → ∀ {a : Act} {w : World}, Inv E' S1 a w → x.wpIn (FR (some l)) k P (QQ E' K1 Kp1) a w)
    (hy : ∀ {E' : Ent} {en' : List Nat} {S1 : St} {K1 : AExit → St → Prop} {Kp1 : Value → St → Prop} {l k : Nat}, (∀ n, E'.hp n ≠ none → n ∈ en') → wpC P fr true en' y S1 K1 Kp1 → ∀ {a : Act} {w : World}, Inv E' S1 a w → y.wpIn (FR (some l)) k P (QQ E' K1 Kp1) a w)
    (h : wpC P fr false en (.rangeFunc g ts x y) S K Kp) {a : Act} {w : World} (hI : Inv E S a w) : (Code.rangeFunc g ts x y).wpIn (FR none) kk P (QQ E K Kp) a w := by
  simp only [wpC] at h
  obtain ⟨f, o, dx, n, ys, sl, hp, I, h1, h2, hcl, hseq, hys, hdt, hw0, hI0, hbody, hend⟩ := h.h
  have hI2 := hI.weak hen hw0
  refine wpIn_rangeFunc fun fn _ => ?_
  obtain ⟨ρ0, X0, hA0⟩ := hI
  obtain ⟨ρ, X, hA⟩ := hI2
  have he := hA0.sim.ev g
  rw [h1] at he
  obtain ⟨fcs, c1, c2⟩ := he
  cases c1 with
  | fn hcs =>
  rename_i vs
  cases hcs with
  | cons hp1 hrest =>
  cases hrest with
  | nil =>
  cases hp1 with
  | ptr _ hb =>
  rename_i b
  have hgv : a.eval g = .func (.func f) #[] #[.pointer (some ⟨b, 0, none⟩)] := by rw [c2]; rfl
  obtain ⟨b', cs, T, z, q0, q1, _, q3⟩ := hA0.sim.objs o _ h2
  rw [hb] at q0; cases q0
  have hcd : RepD X0 w dx cs := by cases q3 with | d q3 => exact q3
  let rec_ : LoopState → Option Code → Obj := fun st pe => .loop { state := st, pending := pe, fn, tmps := a.tmps, params := ts, assign := x, body := y, defers := w.heap.size }
  have hrec : ∀ st pe, oCells (rec_ st pe) = false := fun _ _ => rfl
  have hrecd : ∀ st pe c, rec_ st pe ≠ .deferred c := fun _ _ _ h => by cases h
  let w1 : World := (w.alloc (.deferred (some []))).alloc (rec_ .ready none)
  let l : Nat := w.heap.size + 1
  have hl1 : (w.alloc (.deferred (some []))).heap.size = l := by simp [l]
  have hD1 : w1.heap[w.heap.size]? = some (.deferred (some [])) := by
    have := Go.RowKit.Below.heap_alloc (w.alloc (.deferred (some []))) (rec_ .ready none) w.heap.size (by simp)
    rw [this]; exact World.alloc_heap_new w _
  have hL1 : w1.heap[l]? = some (rec_ .ready none) := by
    have := World.alloc_heap_new (w.alloc (.deferred (some []))) (rec_ .ready none)
    rw [hl1] at this; exact this
  let a1 : Act := { a with defers := [mark w.heap.size] ++ a.defers }
  have hEl : E.w.heap.size ≤ l := Nat.le_trans hA.ext.size (by simp [l])
  let J : Nat → World → Prop := fun i w' => ∃ ρ X, InvAt E (mkSt S.n sl (hp i)) ρ X a1 w' ∧ X l ∧ I i ∧ w'.heap[l]? = some (rec_ .ready none)
  let Jd : World → Prop := fun w' => ∃ e S', K e S' ∧ ∃ ρ X, InvAt E S' ρ X a1 w' ∧ X l ∧ ((e = .ret ∧ w'.heap[l]? = some (rec_ .done (some .ret))) ∨ (∃ id, e = .exit id ∧ w'.heap[l]? = some (rec_ .done (some (.exit id)))) ∨ (∃ t, e = .goto t ∧ w'.heap[l]? = some (rec_ .done (some (.goto t)))))
  have hJ0 : J 0 w1 := by
    have k1 := hA.alloc (.deferred (some []))
    have k2 := k1.alloc (rec_ .ready none)
    refine ⟨ρ, _, ⟨⟨k2.sim.n, k2.sim.slots, k2.sim.objs, k2.sim.inj, k2.sim.own, k2.sim.closedS, k2.sim.closedH⟩, k2.ext, k2.xs, k2.own, k2.same, ?_⟩, .inr hl1.symm, hI0, hL1⟩
    obtain ⟨ms, m1, _, m0, m2⟩ := hA.marks
    obtain ⟨ms', m1', _, _, m2'⟩ := k2.marks
    have hms : ms' = ms := by
      have : ms'.map mark = ms.map mark := List.append_cancel_right (m1'.symm.trans m1)
      exact mark_inj this
    subst hms
    refine ⟨w.heap.size :: ms', by show [mark w.heap.size] ++ a.defers = _; rw [m1]; rfl, (fun h => by rw [hnm] at h; cases h), List.nodup_cons.2 ⟨fun hm => ?_, m0⟩, fun D hD => ?_⟩
    · have := (Array.getElem?_eq_some_iff.1 (m2 _ hm).2.2).1
      omega
    · rcases List.mem_cons.1 hD with rfl | hD
      · exact ⟨hA.ext.size, .inl (.inr rfl), hD1⟩
      · exact m2' D hD
  refine ⟨l, [{ target := .collected w.heap.size, args := #[] }], w1, { target := .fn (.func f) #[.pointer (some ⟨b, 0, none⟩)], args := #[] ++ #[.func (.yield l) #[] #[]] }, w1, f, #[.func (.yield l) #[] #[], .pointer (some ⟨b, 0, none⟩)], w1, run_enterLoop_outer fn a.tmps ts x y, ?_, fun _ _ => trivial, ?_, (fun h => by cases h), ?_⟩
  · simp only [resolve, hgv, Deferred.ofValue]
    simp [Act.eval]
  · simp only [invoke]
    exact callable_run hcl _ w1
  have keep : ∀ {w w' : World} {o : Obj}, w.heap[l]? = some o → Ext (fun _ => False) w w' → w'.heap[l]? = some o := fun h hx => by
    rw [hx.keep l (Array.getElem?_eq_some_iff.1 h).1 fun k => k]; exact h
  have hst1 : ∀ i w w', J i w → Ext (fun _ => False) w w' → J i w' := fun i w w' ⟨ρ, X, kA, kX, kI, kL⟩ hx => ⟨ρ, X, kA.grow hx, kX, kI, keep kL hx⟩
  have hst2 : ∀ w w', Jd w → Ext (fun _ => False) w w' → Jd w' := fun w w' ⟨e, S', hK, ρ, X, kA, kX, hj⟩ hx => ⟨e, S', hK, ρ, X, kA.grow hx, kX, hj.imp (fun ⟨h1, h2⟩ => ⟨h1, keep h2 hx⟩) (Or.imp (fun ⟨i, h1, h2⟩ => ⟨i, h1, keep h2 hx⟩) (fun ⟨i, h1, h2⟩ => ⟨i, h1, keep h2 hx⟩))⟩
  refine callsIn_FR ((hseq J Jd l b w1 X0 cs ?_ ?_ hst1 hst2 hJ0 fun i hi w' hJ => ?_).mono fun e w' he => ?_)
  · exact hcd.mono (Y := fun _ => False) ((Ext.alloc _ w _).trans (Ext.alloc _ _ _)) (fun _ _ _ h => h) (fun _ _ h => h)
  · intro i v hv
    have hrow : RowAt w b 0 cs := by
      have := rowAt_of_heap (pre := []) (c := cs) (post := []) (w := w) (b := b) (T := T) (z := z) (by simpa using q1)
      simpa using this
    have hbl : b < w.heap.size := (Array.getElem?_eq_some_iff.1 q1).1
    rw [cell?_of_heap (((Ext.alloc (fun _ => False) w _).trans (Ext.alloc _ _ _)).keep b hbl (fun h => h))]
    exact hrow i v hv
  · -- a round
    obtain ⟨ρi, Xi, kA, kX, kI, kL⟩ := hJ
    obtain ⟨hyl, hysc⟩ := hys i
    have hsz : ((ys i).map D.sval).toArray.size = ts.size := by simpa using hyl
    refine ⟨_, _, _, _, run_yield kL hsz, ?_⟩
    have hk := kA.rnd (ts := ts.toList) (ys := ys i) hyl.symm hysc (distB_spec hdt)
    have hoc := fun b => own_cells (ds := []) (nm := true) kA.sim (b := b)
    refine roundIn_of_wpIn trivial ?_
    have hfold : (ts.zip ((ys i).map D.sval).toArray).foldl (fun tmps (p : Tmp × Value) => tmps.setIfInBounds p.1 p.2) a.tmps = (ts.toList.zip ((ys i).map D.sval)).foldl (fun tmps p => tmps.setIfInBounds p.1 p.2) a.tmps := by
      have := fold_put ts.toList ((ys i).map D.sval) a.tmps
      simpa using this
    show x.wpIn (FR (some l)) 0 P _ { tmps := (ts.zip ((ys i).map D.sval).toArray).foldl (fun tmps (p : Tmp × Value) => tmps.setIfInBounds p.1 p.2) a.tmps, defers := [] } w'
    rw [hfold]
    have hen' : ∀ (W : World), ∀ m, (Ent.hp ⟨(mkSt S.n sl (hp i)).hp, ρi, Xi, W, [], true⟩) m ≠ none → m ∈ (hp i).map (·.1) := fun W m hm => by
      have hm : lkp (hp i) m ≠ none := hm
      obtain ⟨z, hz⟩ := Option.ne_none_iff_exists'.1 hm
      exact List.mem_map.2 ⟨_, lkp_mem hz, rfl⟩
    refine wpIn_mono (hx (hen' w') (hbody i hi kI) ⟨ρi, Xi, hk⟩) fun e a2 w2 he => ?_
    cases e with
    | normal =>
      obtain ⟨S2, hS2, ρ2, X2, hA2⟩ := he
      have hnl : ¬ Ent.own ⟨(mkSt S.n sl (hp i)).hp, ρi, Xi, w', [], true⟩ l := fun hn => by
        obtain ⟨c, T, z, hc⟩ := hoc l hn
        rw [kL] at hc; cases hc
      have hlw : l < w'.heap.size := (Array.getElem?_eq_some_iff.1 kL).1
      have hL2 : w2.heap[l]? = some (rec_ .ready none) := by rw [hA2.ext.keep l hlw hnl]; exact kL
      have hX2 : X2 l := ((hA2.xs l hlw).2 kX).resolve_right hnl
      refine ⟨_, run_beginRound hL2 rfl, ?_⟩
      have hA3 := hA2.putObj2 (rec_ .busy none) hL2 rfl kL hX2 (hrecd _ _)
      have kA3 : InvAt E (mkSt S.n sl (hp i)) ρi Xi a1 (w'.putObj l (rec_ .busy none)) := kA.putObj _ kL rfl hEl kX (hrecd _ _)
      refine wpIn_mono (hy (hen' (w'.putObj l (rec_ .busy none))) hS2 ⟨ρ2, X2, hA3⟩) fun e a4 w4 he => ?_
      have fin : ∀ {S4 : St}, Inv ⟨(mkSt S.n sl (hp i)).hp, ρi, Xi, w'.putObj l (rec_ .busy none), [], true⟩ S4 a4 w4 → w4.heap[l]? = some (rec_ .busy none) ∧ ∀ o', oCells o' = false → ∃ ρ X, InvAt E (wsl S.n sl S4) ρ X a1 (w4.putObj l o') ∧ X l := by
        intro S4 hI4
        obtain ⟨ρ4, X4, hA4⟩ := hI4
        have hnl' : ¬ Ent.own ⟨(mkSt S.n sl (hp i)).hp, ρi, Xi, w'.putObj l (rec_ .busy none), [], true⟩ l := hnl
        have hlw' : l < (w'.putObj l (rec_ .busy none)).heap.size := by simpa using hlw
        have hL4 : w4.heap[l]? = some (rec_ .busy none) := by rw [hA4.ext.keep l hlw' hnl']; exact World.putObj_heap_same hlw
        have hX4 : X4 l := ((hA4.xs l hlw').2 kX).resolve_right hnl'
        have hR := kA3.round hA4
        exact ⟨hL4, fun o' _ => ⟨ρ4, X4, hR.putObj o' hL4 rfl hEl hX4 (hrecd _ _), hX4⟩⟩
      have put_same : ∀ {o'}, w4.heap[l]? = some (rec_ .busy none) → (w4.putObj l o').heap[l]? = some o' := fun h => World.putObj_heap_same (Array.getElem?_eq_some_iff.1 h).1
      cases e with
      | normal =>
        obtain ⟨S4, hS4, hI4⟩ := he
        obtain ⟨hL4, hput⟩ := fin hI4
        obtain ⟨ρ5, X5, hA5, hX5⟩ := hput (rec_ .ready none) rfl
        have hS4 : EndC en S.n sl (hp (i + 1)) (I (i + 1)) S4 := hS4
        obtain ⟨ρ6, X6, hA6⟩ := Inv.weak ⟨ρ5, X5, hA5⟩ hen hS4.w
        refine ⟨_, _, run_endRound none hL4, true, rfl, fun _ => ?_, fun h => by cases h⟩
        obtain ⟨m, wk1, wk2, wk3⟩ := hS4.w.h
        refine ⟨_, X5, hA5.weakAt hen ?_ wk2 wk3, hX5, hS4.i, put_same hL4⟩
        rw [Chk_eq] at wk1; exact wk1
      | ret =>
        obtain ⟨S4, hS4, hI4⟩ := he
        obtain ⟨hL4, hput⟩ := fin hI4
        obtain ⟨ρ5, X5, hA5, hX5⟩ := hput (rec_ .done (some .ret)) rfl
        exact ⟨_, _, run_endRound (some .ret) hL4, false, rfl, (fun h => by cases h), fun _ => ⟨.ret, _, hS4, ρ5, X5, hA5, hX5, .inl ⟨rfl, put_same hL4⟩⟩⟩
      | exit id =>
        obtain ⟨S4, hS4, hI4⟩ := he
        obtain ⟨hL4, hput⟩ := fin hI4
        obtain ⟨ρ5, X5, hA5, hX5⟩ := hput (rec_ .done (some (.exit id))) rfl
        exact ⟨_, _, run_endRound (some (.exit id)) hL4, false, rfl, (fun h => by cases h), fun _ => ⟨.exit id, _, hS4, ρ5, X5, hA5, hX5, .inr (.inl ⟨id, rfl, put_same hL4⟩)⟩⟩
      | goto t =>
        obtain ⟨S4, hS4, hI4⟩ := he
        obtain ⟨hL4, hput⟩ := fin hI4
        obtain ⟨ρ5, X5, hA5, hX5⟩ := hput (rec_ .done (some (.goto t))) rfl
        exact ⟨_, _, run_endRound (some (.goto t)) hL4, false, rfl, (fun h => by cases h), fun _ => ⟨.goto t, _, hS4, ρ5, X5, hA5, hX5, .inr (.inr ⟨t, rfl, put_same hL4⟩)⟩⟩
      | panic ch => obtain ⟨_, _, _, hf, _⟩ := he; exact hf.elim
      | outgrown => exact he.elim
    | ret => obtain ⟨_, hf, _⟩ := he; exact hf.elim
    | exit id => obtain ⟨_, hf, _⟩ := he; exact hf.elim
    | goto t => obtain ⟨_, hf, _⟩ := he; exact hf.elim
    | panic ch => obtain ⟨_, _, _, hf, _⟩ := he; exact hf.elim
    | outgrown => exact he.elim
  · -- behind the iterator
    obtain ⟨v, rfl, hJ⟩ := he
    rcases hJ with ⟨ρn, Xn, kA, kX, kI, kL⟩ | ⟨e, S', hK, ρn, Xn, kA, kX, hj⟩
    · refine ⟨none, _, run_endLoop kL (by simp), ?_⟩
      exact ⟨_, hend kI, ρn, Xn, kA.putObj _ kL rfl hEl kX (hrecd _ _)⟩
    · rcases hj with ⟨rfl, kL⟩ | ⟨id, rfl, kL⟩ | ⟨t, rfl, kL⟩
      · exact ⟨some .ret, _, run_endLoop kL (by simp), wpIn_ret ⟨S', hK, ρn, Xn, kA.putObj _ kL rfl hEl kX (hrecd _ _)⟩⟩
      · exact ⟨some (.exit id), _, run_endLoop kL (by simp), wpIn_exit ⟨S', hK, ρn, Xn, kA.putObj _ kL rfl hEl kX (hrecd _ _)⟩⟩
      · exact ⟨some (.goto t), _, run_endLoop kL (by simp), wpIn_goto ⟨S', hK, ρn, Xn, kA.putObj _ kL rfl hEl kX (hrecd _ _)⟩⟩
theorem wpC_sound (hm : P.follows .mixedOrders = true) : ∀ (c : Code) {rd : Bool} {E : Ent} {en : List Nat} {S : St} {K : AExit → St → Prop} {Kp : Value → St → Prop} {ro : Option Nat} {k : Nat}, (rd = false → ro = none ∧ E.nm = false) → (∀ n, E.hp n ≠ none → n ∈ en) →
    wpC P fr rd en c S K Kp → ∀ {a : Act} {w : World}, Inv E S a w → c.wpIn (FR ro) k P (QQ E K Kp) a w
  | .skip, rd, E, en, S, K, Kp, ro, k, hro, hen, h, a, w, hI => by simp only [wpC] at h; exact wpIn_skip ⟨S, h, hI⟩
  | .label _, rd, E, en, S, K, Kp, ro, k, hro, hen, h, a, w, hI => by simp only [wpC] at h; exact wpIn_label ⟨S, h, hI⟩
  | .exit id, rd, E, en, S, K, Kp, ro, k, hro, hen, h, a, w, hI => by simp only [wpC] at h; exact wpIn_exit ⟨S, h, hI⟩
  | .goto l, rd, E, en, S, K, Kp, ro, k, hro, hen, h, a, w, hI => by simp only [wpC] at h; exact wpIn_goto ⟨S, h, hI⟩
  | .ret, rd, E, en, S, K, Kp, ro, k, hro, hen, h, a, w, hI => by simp only [wpC] at h; exact wpIn_ret ⟨S, h, hI⟩
  | .seq x y, rd, E, en, S, K, Kp, ro, k, hro, hen, h, a, w, hI => by
    simp only [wpC] at h
    refine wpIn_seq (wpIn_mono (wpC_sound hm x hro hen h hI) fun e a w he => ?_)
    cases e with
    | normal => obtain ⟨S', h1, h2⟩ := he; exact wpC_sound hm y hro hen h1 h2
    | ret => exact he
    | exit i => exact he
    | goto l => exact he
    | panic ch => exact he
    | outgrown => exact he
  | .cond c x y, rd, E, en, S, K, Kp, ro, k, hro, hen, h, a, w, hI => by
    simp only [wpC] at h
    split at h
    · rename_i b hb
      obtain ⟨ρ, X, hA⟩ := hI
      have he := hA.sim.ev c
      rw [hb] at he
      have hv := repA_bool he
      rw [bcase_eq] at h
      exact wpIn_cond_split hv (fun ht => wpC_sound hm x hro hen (h.1 ht) ⟨ρ, X, hA⟩) (fun ht => wpC_sound hm y hro hen (h.2 ht) ⟨ρ, X, hA⟩)
    · exact h.elim
  | .block id x, rd, E, en, S, K, Kp, ro, k, hro, hen, h, a, w, hI => by
    simp only [wpC] at h
    refine wpIn_block (wpIn_mono (wpC_sound hm x hro hen h hI) fun e a w he => ?_)
    cases e with
    | exit i =>
      obtain ⟨S', h1, h2⟩ := he
      have h1 : (bif i.beq id then K .normal S' else K (.exit i) S') := h1
      simp only [Exit.inBlock]
      cases hb : i.beq id with
      | true =>
        rw [hb] at h1
        rw [if_pos (Nat.eq_of_beq_eq_true hb)]
        exact ⟨S', h1, h2⟩
      | false =>
        rw [hb] at h1
        rw [if_neg fun e => by subst e; simp at hb]
        exact ⟨S', h1, h2⟩
    | normal => exact he
    | ret => exact he
    | goto l => exact he
    | panic ch => exact he
    | outgrown => exact he
  | .scope x, rd, E, en, S, K, Kp, ro, k, hro, hen, h, a, w, hI => by
    simp only [wpC] at h
    refine wpIn_scope_straight (wpIn_mono (wpC_sound hm x hro hen h hI) fun e a w he => ?_)
    cases e with
    | goto l => obtain ⟨_, h1, _⟩ := he; exact h1.elim
    | normal => exact he
    | ret => exact he
    | exit i => exact he
    | panic ch => exact he
    | outgrown => exact he
  | .region id ops draw, rd, E, en, S, K, Kp, ro, k, hro, hen, h, a, w, hI => by
    simp only [wpC] at h
    obtain ⟨S, h, hI⟩ := frC_sound h hI
    cases draw with
    | true =>
      simp only [vcR, cond_true] at h
      obtain ⟨pi, fs, out, t, hc, ho⟩ := region_sound h
      rw [Chk_eq, Bool.and_eq_true] at hc
      refine wpIn_region_any hm (tr_any hc.2 ops.size (by rw [show ops = ops.toList.toArray by simp]; exact t) ?_ ?_ ?_ ?_ ?_ ?_ hI.drew ?_ ?_)
      · have := okPairs_spec hc.1
        rw [List.pairwise_reverse] at this
        exact this
      · exact List.nodup_range'
      · simp
      · intro k
        rw [List.mem_range'_1]
        constructor
        · intro hk
          refine ⟨by simpa using hk.2, ?_⟩
          rw [Array.getD_eq_getD_getElem?, Array.getElem?_eq_getElem (by simpa using hk.2)]; simp
        · intro hk; exact ⟨by omega, by simpa using hk.1⟩
      · intro k hk hn j _ _
        exact hn (by rw [List.mem_range'_1]; exact ⟨by omega, by simpa using hk⟩)
      · simp
      · intro S' a' w' he hI'
        subst he
        obtain ⟨S3, k1, k2⟩ := frC_sound ho hI'
        exact ⟨S3, k1, k2⟩
      · intro pv S' a' w' he hI'
        subst he; exact ⟨pv, S', rfl, ho, hI'⟩
    | false =>
      simp only [vcR, cond_false] at h
      obtain ⟨pi, fs, out, t, _, ho⟩ := region_sound h
      refine wpIn_region ?_
      rw [List.range_eq_range']
      refine tr_text t hI ?_ ?_
      · intro S' a' w' he hI'
        subst he
        obtain ⟨S3, k1, k2⟩ := frC_sound ho hI'
        exact ⟨S3, k1, k2⟩
      · intro pv S' a' w' he hI'
        subst he; exact ⟨pv, S', rfl, ho, hI'⟩
  | .loop x, rd, E, en, S, K, Kp, ro, k, hro, hen, h, a, w, hI => by
    simp only [wpC] at h
    obtain ⟨Y, sl, hp, μ, x0, h1, h2⟩ := h.h
    refine wpIn_loopI (fun x a w => Inv E (mkSt S.n (sl x) (hp x)) a w) μ (hI.weak hen h1) fun y a w hy => ?_
    refine wpIn_mono (wpC_sound hm x hro hen (h2 y) hy) fun e a w he => ?_
    cases e with
    | normal =>
      obtain ⟨S', hn, h4⟩ := he
      have hn : NextC en sl hp μ S.n y S' := hn
      obtain ⟨x', k1, k2, k3⟩ := hn.h
      refine ⟨x', ?_, k1⟩
      have := h4.weak hen k3
      rw [k2] at this; exact this
    | ret => exact he
    | exit i => exact he
    | goto l => exact he
    | panic ch => exact he
    | outgrown => exact he
  | .rangeFunc g ts x y, rd, E, en, S, K, Kp, ro, k, hro, hen, h, a, w, hI => by
    cases rd with
    | true => simp only [wpC] at h
    | false =>
      obtain ⟨hr1, hr2⟩ := hro rfl
      subst hr1
      exact range_sound hr2 hen (fun {E' en' S1 K1 Kp1 l k} he hw {a w} hi => wpC_sound hm x (rd := true) (fun h => by cases h) he hw hi) (fun {E' en' S1 K1 Kp1 l k} he hw {a w} hi => wpC_sound hm y (rd := true) (fun h => by cases h) he hw hi) h hI
  | .refuse _, rd, E, en, S, K, Kp, ro, k, hro, hen, h, a, w, hI => by simp only [wpC] at h
end
attribute [irreducible] wpC
end Go.Sym

namespace Go.Sym
def aRes1 (P : Program) (S : St) : ResultVar → Option (Prop × AV)
  | .tmp t => bif Nat.blt t S.n then some (True, S.sl t) else none
  | .cell t T => bif Nat.blt t S.n then match aLoad P T S.hp (S.sl t) with
      | some res => some (res.side, res.r)
      | none => none
    else none
def aRes (P : Program) (S : St) : List ResultVar → Option (Prop × List AV)
  | [] => some (True, [])
  | r :: rs => match aRes1 P S r, aRes P S rs with
    | some (s, x), some (s', xs) => some (s ∧ s', x :: xs)
    | _, _ => none
def rdRes (tmps : Array Value) : ResultVar → Sem Value
  | .tmp t => pure (tmps.getD t undef)
  | .cell t T => do loadVar T (← asAddr (tmps.getD t undef))
theorem run_asAddr {P : Program} {w : World} (x : Addr) (T : TypeId) : (do loadVar T (← asAddr (.pointer (some x))) : Sem Value).run P w = (loadVar T x).run P w := by
  have h : (asAddr (.pointer (some x))).run P w = .ok x w := rfl
  rw [run_bind_ok h]
theorem aRes1_run {P : Program} {S : St} {ρ : Nat → Option Nat} {X : Nat → Prop} {a : Act} {w : World} (hs : Sim S ρ X a w) {rv : ResultVar} {s : Prop} {x : AV} (h : aRes1 P S rv = some (s, x)) (hside : s) :
    ∃ v, (rdRes a.tmps rv).run P w = .ok v w ∧ RepA ρ X w x v ∧ ∀ n, n ∈ x.names → S.hp n ≠ none := by
  cases rv with
  | tmp t =>
    simp only [aRes1] at h
    cases hb : Nat.blt t S.n <;> simp only [hb, cond_true, cond_false] at h <;> cases h
    have hlt : t < a.tmps.size := by rw [hs.n]; simpa using hb
    refine ⟨_, rfl, hs.slots t _ ?_, hs.closedS t⟩
    rw [Array.getD_eq_getD_getElem?, Array.getElem?_eq_getElem hlt]; rfl
  | cell t T =>
    simp only [aRes1] at h
    cases hb : Nat.blt t S.n <;> simp only [hb, cond_true, cond_false] at h <;> try (cases h; done)
    have hlt : t < a.tmps.size := by rw [hs.n]; simpa using hb
    have hv := hs.slots t (a.tmps.getD t undef) (by rw [Array.getD_eq_getD_getElem?, Array.getElem?_eq_getElem hlt]; rfl)
    simp only [rdRes]
    generalize a.tmps.getD t undef = v at hv ⊢
    split at h <;> cases h
    rename_i res hl
    cases hx : S.sl t <;> rw [hx] at hl <;> simp only [aLoad] at hl <;> try (cases hl; done)
    · rename_i n p
      split at hl <;> try (cases hl; done)
      rename_i obj hobj
      split at hl <;> try (cases hl; done)
      rename_i s y hn
      cases ht : tyOK P T y.size y.isAgg <;> simp only [ht, cond_true, cond_false] at hl <;> try (cases hl; done)
      cases hl
      rw [hx] at hv
      obtain ⟨b, hb0, rfl⟩ := repA_ptr hv
      obtain ⟨b', pre, c, post, T', z, h0, h1, h2, h3⟩ := objNav_rep hn hside (hs.objs n obj hobj)
      rw [hb0] at h0; cases h0
      have hrow := rowAt_of_heap h1
      rw [h2] at hrow
      have hl : c.length = y.size := h3.length
      refine ⟨wrapV y.isAgg c, ?_, repA_of_c h3, fun m hm => hs.closedH n obj hobj m (objNav_names hn m hm)⟩
      rw [run_asAddr]
      exact run_loadVar hrow (by rw [hl]; exact ht) (fun hag => notAgg_size h3 hag)
    · rename_i y
      cases ht : tyOK P T y.size y.isAgg <;> simp only [ht, cond_true, cond_false] at hl <;> try (cases hl; done)
      cases hl
      rw [hx] at hv
      obtain ⟨b, q, cs, rfl, h1, h2, h3, h4⟩ := repA_dptr hv
      refine ⟨wrapV y.isAgg cs, ?_, repA_mk h4, fun m hm => by cases hm⟩
      rw [run_asAddr]
      exact run_loadVar h3 (by rw [h4.length]; exact ht) (fun hag => notAgg_size (ρ := ρ) (.d h4) hag)
theorem aRes_run {P : Program} {S : St} {ρ : Nat → Option Nat} {X : Nat → Prop} {a : Act} {w : World} (hs : Sim S ρ X a w) : ∀ {rvs : List ResultVar} {s : Prop} {xs : List AV}, aRes P S rvs = some (s, xs) → s →
    ∃ vs : List Value, (rvs.mapM (rdRes a.tmps)).run P w = .ok vs w ∧ xs.length = vs.length ∧
      (∀ (i : Nat) (x : AV) (v : Value), xs[i]? = some x → vs[i]? = some v → RepA ρ X w x v) ∧ ∀ n, n ∈ AV.namesL xs → S.hp n ≠ none
  | [], s, xs, h, _ => by
    simp only [aRes, Option.some.injEq, Prod.mk.injEq] at h
    obtain ⟨_, rfl⟩ := h
    exact ⟨[], rfl, rfl, fun i x v h => by simp at h, fun n h => by cases h⟩
  | r :: rs, s, xs, h, hside => by
    simp only [aRes] at h
    split at h <;> cases h
    rename_i h1 h2
    obtain ⟨v, k1, k2, k3⟩ := aRes1_run hs h1 hside.1
    obtain ⟨vs, m1, m2, m3, m4⟩ := aRes_run hs h2 hside.2
    refine ⟨v :: vs, ?_, by simp [m2], fun i x u hx hu => ?_, fun n hn => ?_⟩
    · rw [List.mapM_cons]
      rw [run_bind_ok k1, run_bind_ok m1]; rfl
    · cases i with
      | zero =>
        simp only [List.getElem?_cons_zero, Option.some.injEq] at hx hu
        subst hx; subst hu; exact k2
      | succ i => exact m3 i x u (by simpa using hx) (by simpa using hu)
    · simp only [AV.namesL, List.mem_append] at hn
      exact hn.elim (k3 n) (m4 n)
def oneV : List Value → Value
  | [v] => v
  | vs => .tuple vs.toArray
theorem results_run {P : Program} {fn : Func} {a : Act} {w : World} {vs : List Value} (h : (fn.results.toList.mapM (rdRes a.tmps)).run P w = .ok vs w) :
    (results fn a.tmps).run P w = .ok (oneV vs) w := by
  have e : results fn a.tmps = (do
      let vs ← fn.results.mapM (rdRes a.tmps)
      pure (if h : vs.size = 1 then vs[0] else .tuple vs)) := rfl
  rw [e, Array.mapM_eq_mapM_toList, bind_map_left]
  refine (run_bind_ok h).trans ?_
  match vs with
  | [] => rfl
  | [_] => rfl
  | _ :: _ :: _ => rfl
def enumA : Nat → List AV → List (Nat × AV)
  | _, [] => []
  | i, x :: xs => (i, x) :: enumA (i + 1) xs
theorem enumA_lkp : ∀ (xs : List AV) (i t : Nat) (x : AV), lkp (enumA i xs) t = some x → i ≤ t ∧ xs[t - i]? = some x
  | [], _, _, _, h => by cases h
  | y :: xs, i, t, x, h => by
    simp only [enumA, lkp] at h
    cases hb : i.beq t with
    | true =>
      simp only [hb, cond_true, Option.some.injEq] at h
      have := Nat.eq_of_beq_eq_true hb
      subst this; subst h
      exact ⟨Nat.le_refl _, by simp⟩
    | false =>
      simp only [hb, cond_false] at h
      obtain ⟨h1, h2⟩ := enumA_lkp xs (i + 1) t x h
      refine ⟨by omega, ?_⟩
      rw [show t - i = (t - (i + 1)) + 1 by omega, List.getElem?_cons_succ]
      exact h2
def entOK (n : Nat) (args : List AV) (pre : List (Nat × AObj)) : Bool :=
  Nat.ble args.length n && args.all (fun x => x.names.all (hasKey pre)) && pre.all (fun p => p.2.names.all (hasKey pre))
theorem namesL_mem {n : Nat} : ∀ {xs : List AV}, n ∈ AV.namesL xs ↔ ∃ x, x ∈ xs ∧ n ∈ x.names
  | [] => by simp [AV.namesL]
  | x :: xs => by simp [AV.namesL, namesL_mem (xs := xs)]
theorem RepT.length {ρ : Nat → Option Nat} {X : Nat → Prop} {w : World} : ∀ {xs : List AV} {vs : List Value}, RepT ρ X w xs vs → xs.length = vs.length
  | [], [], _ => rfl
  | _ :: _, _ :: _, h => by simp [RepT.length h.2]
  | [], _ :: _, h => h.elim
  | _ :: _, [], h => h.elim
theorem RepA1.toA {ρ : Nat → Option Nat} {X : Nat → Prop} {w : World} {x : AV} {v : Value} (h : RepA1 ρ X w x v) : RepA ρ X w x v := by
  obtain ⟨cs, h1, h2⟩ := h
  rw [h2]; exact repA_of_c h1
theorem HSim.start {hp : Nat → Option AObj} {ρ : Nat → Option Nat} {X : Nat → Prop} {w : World} {n : Nat} {args : List AV} {pre : List (Nat × AObj)} {vs : List Value} (hh : HSim hp ρ X w) (hr : RepT ρ X w args vs)
    (hpre : ∀ p, p ∈ pre → hp p.1 = some p.2) (hok : entOK n args pre = true) :
    Inv ⟨fun o => lkp pre o, ρ, X, w, [], false⟩ (mkSt n (enumA 0 args) pre) { tmps := vs.toArray ++ Array.replicate (n - vs.toArray.size) undef, defers := [] } w := by
  simp only [entOK, Bool.and_eq_true, List.all_eq_true, hasKey, Option.isSome_iff_ne_none] at hok
  obtain ⟨⟨k0, k1⟩, k2⟩ := hok
  have hlen : args.length ≤ n := by simpa using k0
  have hvl := hr.length
  have sl : ∀ t x, lkp (enumA 0 args) t = some x → args[t]? = some x := fun t x h => (enumA_lkp args 0 t x h).2
  refine ⟨ρ, X, ⟨⟨?_, fun t v ht => ?_, fun o x h => ?_, fun o o' x x' b e1 e2 e3 e4 e5 e6 => ?_, fun o x b e1 e2 e3 => ?_, fun t o ho => ?_, fun o x h o' ho' => ?_⟩,
    .refl _ _, fun b _ => ⟨id, .inl⟩, fun o x b e1 e2 e3 => .inr ⟨o, x, e1, e2, e3⟩, fun o ho => ⟨ho, rfl⟩, ⟨[], rfl, fun _ => rfl, .nil, fun D hD => by cases hD⟩⟩⟩
  · show (vs.toArray ++ Array.replicate (n - vs.toArray.size) undef).size = n
    simp; omega
  · show RepA ρ X w (match lkp (enumA 0 args) t with | some x => x | none => .top) v
    cases hl : lkp (enumA 0 args) t with
    | none => trivial
    | some x =>
      have hx := sl t x hl
      have hlt : t < args.length := (List.getElem?_eq_some_iff.1 hx).1
      obtain ⟨u, hu1, hu2⟩ := hr.get hx
      have ht' : (vs.toArray ++ Array.replicate (n - vs.toArray.size) undef)[t]? = some v := ht
      rw [Array.getElem?_append_left (by simpa [← hvl] using hlt)] at ht'
      have : u = v := by simpa [hu1] using ht'
      rw [← this]; exact hu2.toA
  · exact hh.objs o x (hpre (o, x) (lkp_mem h))
  · exact hh.inj o o' x x' b (hpre _ (lkp_mem e1)) e2 (hpre _ (lkp_mem e3)) e4 e5 e6
  · exact hh.own o x b (hpre _ (lkp_mem e1)) e2 e3
  · have ho : o ∈ (match lkp (enumA 0 args) t with | some x => x | none => .top : AV).names := ho
    cases hl : lkp (enumA 0 args) t with
    | none => rw [hl] at ho; cases ho
    | some x => rw [hl] at ho; exact k1 x (List.mem_of_getElem? (sl t x hl)) o ho
  · exact k2 _ (lkp_mem h) o' ho'
def one : List AV → AV
  | [x] => x
  | xs => .tup xs
def eqAVs : List AV → List AV → Prop
  | [], [] => True
  | x :: xs, y :: ys => eqAV x y ∧ eqAVs xs ys
  | _, _ => False
theorem eqAVs_spec : ∀ {xs ys : List AV}, eqAVs xs ys → xs = ys
  | [], [], _ => rfl
  | _ :: _, _ :: _, h => by rw [eqAV_spec h.1, eqAVs_spec h.2]
  | [], _ :: _, h => h.elim
  | _ :: _, [], h => h.elim
def finHp (pre : List (Nat × AObj)) (ws : List (Nat × AObj)) : List (Nat × AObj) := ws ++ pre.filter fun p => !(hasKey ws p.1)
def finOK (pre : List (Nat × AObj)) (nw : List Nat) (m : List (Nat × Nat)) (rs : List AV) (ws : List (Nat × AObj)) : Bool :=
  wkOK (pre.map (·.1)) m [(0, .tup rs)] (finHp pre ws) && nw.all (hasKey ws) && ws.all (fun p => hasKey pre p.1 || nw.contains p.1)
structure RetC (P : Program) (fn : Func) (pre : List (Nat × AObj)) (nw : List Nat) (rs : List AV) (ws : List (Nat × AObj)) (S : St) : Prop where
  h : ∃ (ms : List Bool) (m : List (Nat × Nat)) (s s' : Prop) (xs ys : List AV) (fz kl : List Nat), aRes P S fn.results.toList = some (s, xs) ∧ s ∧ cvt S.hp ms xs = some (s', ys, fz) ∧ s' ∧ eqAVs ys (AV.rens m rs) ∧
    Chk (finOK pre nw m rs ws) ∧ wkHp (S.write (deads (fz ++ kl))) m (finHp pre ws)
def FnC (P : Program) (fn : Func) (c : Code) (fr : List (Nat × List Nat)) (args : List AV) (pre : List (Nat × AObj)) (nw : List Nat) (rs : List AV) (ws : List (Nat × AObj)) : Prop :=
  Chk (entOK fn.ntmps args pre) ∧ wpC P fr false (pre.map (·.1)) c (mkSt fn.ntmps (enumA 0 args) pre) (fun e S' => match e with
    | .normal => RetC P fn pre nw rs ws S'
    | .ret => RetC P fn pre nw rs ws S'
    | _ => False) (fun _ _ => False)
structure PanC (pre : List (Nat × AObj)) (nw : List Nat) (ws : List (Nat × AObj)) (S : St) : Prop where
  h : ∃ (m : List (Nat × Nat)) (kl : List Nat), Chk (finOK pre nw m [] ws) ∧ wkHp (S.write (deads kl)) m (finHp pre ws)
def FnPan (P : Program) (fn : Func) (c : Code) (fr : List (Nat × List Nat)) (args : List AV) (pre : List (Nat × AObj)) (nw : List Nat) (pv : Value) (ws : List (Nat × AObj)) : Prop :=
  Chk (entOK fn.ntmps args pre) ∧ wpC P fr false (pre.map (·.1)) c (mkSt fn.ntmps (enumA 0 args) pre) (fun _ _ => False) (fun v S' => Side (v = pv) ∧ PanC pre nw ws S')
theorem lkp_filter {α : Type} {q : Nat → Bool} {n : Nat} : ∀ {l : List (Nat × α)}, q n = true → lkp (l.filter fun p => q p.1) n = lkp l n
  | [], _ => rfl
  | (k, v) :: l, h => by
    cases hq : q k with
    | true =>
      rw [List.filter_cons_of_pos (by simpa using hq)]
      simp only [lkp]
      rw [lkp_filter h]
    | false =>
      rw [List.filter_cons_of_neg (by simp [hq])]
      simp only [lkp]
      have : k.beq n = false := by
        cases hb : k.beq n with
        | false => rfl
        | true => have := Nat.eq_of_beq_eq_true hb; subst this; rw [h] at hq; cases hq
      rw [this, cond_false]
      exact lkp_filter h
theorem finHp_lkp (pre ws : List (Nat × AObj)) (n : Nat) : lkp (finHp pre ws) n = match lkp ws n with
    | some x => some x
    | none => lkp pre n := by
  unfold finHp
  rw [lkp_append]
  cases h : lkp ws n with
  | some x => rfl
  | none => exact lkp_filter (q := fun k => !hasKey ws k) (by simp [hasKey, h])
open Classical in
theorem fin_call {hp : Nat → Option AObj} {ρ : Nat → Option Nat} {X : Nat → Prop} {w : World} {pre : List (Nat × AObj)} {nw : List Nat} (hh : HSim hp ρ X w) (hpre : ∀ p, p ∈ pre → hp p.1 = some p.2) (hnw : ∀ n, n ∈ nw → hp n = none)
    {S : St} {ρ' : Nat → Option Nat} {X' : Nat → Prop} {a : Act} {w' : World} {ds : List Deferred} {nm : Bool} (hA : InvAt ⟨fun o => lkp pre o, ρ, X, w, ds, nm⟩ S ρ' X' a w') {m : List (Nat × Nat)} {rs : List AV} {ws : List (Nat × AObj)}
    (hok : finOK pre nw m rs ws = true) (hw : wkHp S m (finHp pre ws)) :
    ∃ ρf : Nat → Option Nat, HSim (wr hp ws) ρf X' w' ∧ HEvo hp (wr hp ws) ρ ρf X X' w w' ∧ (∀ n, n ∈ AV.namesL rs → ρf n = ρ' (renN m n) ∧ wr hp ws n ≠ none) := by
  simp only [finOK, wkOK, Bool.and_eq_true, List.all_eq_true, Bool.or_eq_true, Bool.not_eq_true', hasKey, Option.isSome_iff_ne_none, List.contains_eq_mem, decide_eq_true_eq] at hok
  obtain ⟨⟨⟨⟨⟨k1, k2⟩, k3⟩, k4⟩, k5⟩, k6⟩ := hok
  let ρf : Nat → Option Nat := fun n => if hp n ≠ none then ρ n else ρ' (renN m n)
  have hwr : ∀ n x, wr hp ws n = some x → lkp (finHp pre ws) n = some x ∨ (lkp ws n = none ∧ lkp pre n = none ∧ hp n = some x) := fun n x h => by
    rw [finHp_lkp]
    unfold wr at h
    cases hl : lkp ws n with
    | some y => simp only [hl] at h ⊢; exact .inl h
    | none =>
      simp only [hl] at h ⊢
      cases hp' : lkp pre n with
      | none => exact .inr ⟨trivial, rfl, h⟩
      | some y => left; rw [← hpre _ (lkp_mem hp')]; exact h
  have hfin : ∀ n, lkp (finHp pre ws) n ≠ none → ρf n = ρ' (renN m n) ∧ wr hp ws n ≠ none := fun n h => by
    rw [finHp_lkp] at h
    have preCase : lkp pre n ≠ none → ρf n = ρ' (renN m n) ∧ hp n ≠ none := fun hn => by
      obtain ⟨x, hx⟩ := Option.ne_none_iff_exists'.1 hn
      have hpn : hp n ≠ none := by rw [hpre _ (lkp_mem hx)]; simp
      have hm : renN m n = n := Nat.eq_of_beq_eq_true (k4 n (List.mem_map.2 ⟨_, lkp_mem hx, rfl⟩)).1
      refine ⟨?_, hpn⟩
      show (if hp n ≠ none then ρ n else ρ' (renN m n)) = _
      rw [if_pos hpn, hm]
      exact (hA.same n hn).2.symm
    by_cases hn : lkp pre n = none
    · cases hl : lkp ws n with
      | none => rw [hl] at h; exact absurd hn h
      | some x =>
        have hnn : n ∈ nw := by
          rcases k6 _ (lkp_mem hl) with h' | h'
          · exact absurd hn h'
          · exact h'
        refine ⟨?_, ?_⟩
        · show (if hp n ≠ none then ρ n else ρ' (renN m n)) = _
          rw [if_neg (by rw [hnw n hnn]; simp)]
        · unfold wr; rw [hl]; simp
    · obtain ⟨h1, h2⟩ := preCase hn
      exact ⟨h1, wr_ne h2⟩
  have hobj : ∀ n x, lkp (finHp pre ws) n = some x → S.hp (renN m n) = some (x.ren m) := fun n x h => wkHp_spec hw n x (lkp_mem h)
  have hEown : ∀ b, Ent.own ⟨fun o => lkp pre o, ρ, X, w, ds, nm⟩ b → ∃ o x, hp o = some x ∧ x.alive = true ∧ ρ o = some b := fun b ⟨o, x, h1, h2, h3⟩ => ⟨o, x, hpre _ (lkp_mem h1), h2, h3⟩
  have hEX : ∀ b, Ent.own ⟨fun o => lkp pre o, ρ, X, w, ds, nm⟩ b → X b := fun b hb => by
    obtain ⟨o, x, h1, h2, h3⟩ := hEown b hb; exact hh.own o x b h1 h2 h3
  have hoth : ∀ n x b, lkp pre n = none → hp n = some x → x.alive = true → ρ n = some b → b < w.heap.size ∧ ¬ Ent.own ⟨fun o => lkp pre o, ρ, X, w, ds, nm⟩ b := fun n x b hn hx ha hb => by
    refine ⟨(hh.objs n x hx).lt ha hb, ?_⟩
    rintro ⟨o, y, h1, h2, h3⟩
    have := hh.inj n o x y b hx ha (hpre _ (lkp_mem h1)) h2 hb h3
    subst this
    have h1 : lkp pre n = some y := h1
    rw [hn] at h1; cases h1
  have hρf : ∀ n, hp n ≠ none → ρf n = ρ n := fun n h => if_pos h
  have g : Goes ρ ρf X X' (Ent.own ⟨fun o => lkp pre o, ρ, X, w, ds, nm⟩) w w' := ⟨hA.ext, fun b _ h1 h2 => h1 (hEX b h2), fun b hb h => (hA.xs b hb).1 h⟩
  have own : ∀ n x b, wr hp ws n = some x → x.alive = true → ρf n = some b → X' b ∧ (w.heap.size ≤ b ∨ ∃ o' x', hp o' = some x' ∧ x'.alive = true ∧ ρ o' = some b) := fun n x b h1 h2 h3 => by
    rcases hwr n x h1 with h | ⟨e1, e2, e3⟩
    · have hb := (hfin n (by rw [h]; simp)).1
      rw [hb] at h3
      have ha : (x.ren m).alive = true := by rw [AObj.ren_alive]; exact h2
      exact ⟨hA.sim.own _ _ b (hobj n x h) ha h3, (hA.own _ _ b (hobj n x h) ha h3).imp id (hEown b)⟩
    · rw [hρf n (by rw [e3]; simp)] at h3
      obtain ⟨q1, q2⟩ := hoth n x b e2 e3 h2 h3
      refine ⟨?_, .inr ⟨n, x, e3, h2, h3⟩⟩
      rcases (hA.xs b q1).2 (hh.own n x b e3 h2 h3) with k | k
      · exact k
      · exact absurd k q2
  refine ⟨ρf, ⟨fun n x h => ?_, fun o o' x x' b e1 e2 e3 e4 e5 e6 => ?_, fun o x b e1 e2 e3 => (own o x b e1 e2 e3).1, fun n x h o' ho' => ?_⟩, ⟨?_, fun b hb => ⟨(hA.xs b hb).1, fun k => ?_⟩, fun o x b e1 e2 e3 => (own o x b e1 e2 e3).2, hρf⟩, fun n hn => ?_⟩
  · rcases hwr n x h with h | ⟨e1, e2, e3⟩
    · have h1 := ObjAt.ren (hA.sim.objs _ _ (hobj n x h))
      refine h1.mono (Y := fun _ => False) ⟨.refl _ _, fun _ _ _ h => h, fun _ _ h => h⟩ (hfin n (by rw [h]; simp)).1 (fun _ _ => rfl) fun o ho => (hfin o (k2 _ (lkp_mem h) o ho)).1
    · have hne : hp n ≠ none := by rw [e3]; simp
      cases ha : x.alive with
      | false => cases x <;> first | trivial | cases ha
      | true =>
        refine (hh.objs n x e3).mono g (hρf n hne) (fun b hb => ?_) fun o ho => hρf o (hh.closed n x e3 o ho)
        obtain ⟨q1, q2⟩ := hoth n x b e2 e3 ha hb
        exact hA.ext.keep b q1 q2
  · rcases hwr o x e1 with h | ⟨q1, q2, q3⟩
    · have hb := (hfin o (by rw [h]; simp)).1
      rw [hb] at e5
      have ha : (x.ren m).alive = true := by rw [AObj.ren_alive]; exact e2
      rcases hwr o' x' e3 with h' | ⟨q1', q2', q3'⟩
      · have hb' := (hfin o' (by rw [h']; simp)).1
        rw [hb'] at e6
        have ha' : (x'.ren m).alive = true := by rw [AObj.ren_alive]; exact e4
        have := hA.sim.inj _ _ _ _ b (hobj o x h) ha (hobj o' x' h') ha' e5 e6
        rcases k3 _ (lkp_mem h) _ (lkp_mem h') with h | h
        · exact Nat.eq_of_beq_eq_true h
        · simp only at h
          rw [this] at h; simp at h
      · rw [hρf o' (by rw [q3']; simp)] at e6
        obtain ⟨z1, z2⟩ := hoth o' x' b q2' q3' e4 e6
        rcases hA.own _ _ b (hobj o x h) ha e5 with k | k
        · have : w.heap.size ≤ b := k
          omega
        · exact absurd k z2
    · rw [hρf o (by rw [q3]; simp)] at e5
      obtain ⟨z1, z2⟩ := hoth o x b q2 q3 e2 e5
      rcases hwr o' x' e3 with h' | ⟨q1', q2', q3'⟩
      · have hb' := (hfin o' (by rw [h']; simp)).1
        rw [hb'] at e6
        have ha' : (x'.ren m).alive = true := by rw [AObj.ren_alive]; exact e4
        rcases hA.own _ _ b (hobj o' x' h') ha' e6 with k | k
        · have : w.heap.size ≤ b := k
          omega
        · exact absurd k z2
      · rw [hρf o' (by rw [q3']; simp)] at e6
        exact hh.inj o o' x x' b q3 e2 q3' e4 e5 e6
  · rcases hwr n x h with h | ⟨e1, e2, e3⟩
    · exact (hfin o' (k2 _ (lkp_mem h) o' ho')).2
    · exact wr_ne (hh.closed n x e3 o' ho')
  · exact hA.ext.mono fun b _ hb => hEown b hb
  · exact ((hA.xs b hb).2 k).imp id (hEown b)
  · have hm : n ∈ (AV.tup rs).names := by simpa only [AV.names] using hn
    exact hfin n (k1 (0, .tup rs) (by simp) n hm)
end Go.Sym

namespace Go.Sym
theorem InvAt.take {E : Ent} {S : St} {ρ : Nat → Option Nat} {X : Nat → Prop} {a : Act} {w : World} (hA : InvAt E S ρ X a w) {D : Nat} {ms : List Nat} (hd : a.defers = (D :: ms).map mark ++ E.ds) :
    w.heap[D]? = some (.deferred (some [])) ∧ InvAt E S ρ X { a with defers := ms.map mark ++ E.ds } (w.putObj D (.deferred none)) := by
  obtain ⟨ms', m1, mn, m0, m2⟩ := hA.marks
  have hms : ms' = D :: ms := mark_inj (List.append_cancel_right (m1.symm.trans hd))
  subst hms
  obtain ⟨h1, h2, h3⟩ := m2 D (by simp)
  have hs := hA.sim.putObj (.deferred none) h3 rfl h2
  refine ⟨h3, ⟨⟨hs.n, hs.slots, hs.objs, hs.inj, hs.own, hs.closedS, hs.closedH⟩, ⟨hA.ext.os, hA.ext.tape, hA.ext.output, by simpa using hA.ext.size, fun b hb hn => ?_, fun b c T z hb => ?_⟩, hA.xs, hA.own, hA.same, ms, rfl, (fun h => by have := mn h; cases this), (List.nodup_cons.1 m0).2, fun D' hD' => ?_⟩⟩
  · rw [World.putObj_heap_other (by omega)]; exact hA.ext.keep b hb hn
  · have hb' : b < E.w.heap.size := (Array.getElem?_eq_some_iff.1 hb).1
    rw [World.putObj_heap_other (by omega)]; exact hA.ext.shape b c T z hb
  · obtain ⟨k1, k2, k3⟩ := m2 D' (by simp [hD'])
    exact ⟨k1, k2, by rw [World.putObj_heap_other fun e => (List.nodup_cons.1 m0).1 (by rw [← e]; exact hD')]; exact k3⟩
theorem take_marks {P : Program} {F : Fence} {n : Nat} {fn : Func} {R : Ending → World → Prop} {u : FrameMode} (hu : u ≠ .run) {E : Ent} {S : St} {ρ : Nat → Option Nat} {X : Nat → Prop} : ∀ (ms : List Nat) {a : Act} {w : World}, InvAt E S ρ X a w → a.defers = ms.map mark ++ E.ds →
    (∀ w', InvAt E S ρ X { a with defers := E.ds } w' → LeavesInM F n P fn a.tmps R E.ds u w') → LeavesInM F n P fn a.tmps R a.defers u w
  | [], a, w, hA, hd, h => by
    have e : a = { a with defers := E.ds } := by
      cases a; simp only [List.map_nil, List.nil_append] at hd; rw [hd]
    have h := h w (by rw [← e]; exact hA)
    rw [hd]; exact h
  | D :: ms, a, w, hA, hd, h => by
    obtain ⟨h1, h2⟩ := hA.take hd
    rw [hd]
    exact ⟨hu, .inl ⟨D, _, rfl, run_takeDeferred h1, take_marks hu ms h2 rfl h⟩⟩
theorem one_rep {ρ : Nat → Option Nat} {X : Nat → Prop} {w : World} {rs : List AV} {vs : List Value} (h : RepT ρ X w rs vs) : RepA ρ X w (one rs) (oneV vs) := by
  match rs, vs, h with
  | [], [], _ => exact ⟨[], rfl, trivial⟩
  | [x], [v], h => exact h.1.toA
  | x :: y :: xs, v :: u :: us, h => exact ⟨v :: u :: us, rfl, h⟩
  | [], _ :: _, h => exact h.elim
  | [_], [], h => exact h.elim
  | [_], _ :: _ :: _, h => exact h.2.elim
  | _ :: _ :: _, [], h => exact h.elim
  | _ :: _ :: _, [_], h => exact h.2.elim
theorem one_names {rs : List AV} {n : Nat} (h : n ∈ (one rs).names) : n ∈ AV.namesL rs := by
  match rs, h with
  | [], h => simpa [one, AV.names] using h
  | [x], h => simpa [one, AV.namesL] using h
  | x :: y :: xs, h => simpa only [one, AV.names] using h
theorem ret_fin {P : Program} {fn : Func} {hp : Nat → Option AObj} {ρ : Nat → Option Nat} {X : Nat → Prop} {w : World} {pre : List (Nat × AObj)} {nw : List Nat} (hh : HSim hp ρ X w) (hpre : ∀ p, p ∈ pre → hp p.1 = some p.2) (hnw : ∀ n, n ∈ nw → hp n = none)
    {S : St} {ρ' : Nat → Option Nat} {X' : Nat → Prop} {a : Act} {w' : World} {ds : List Deferred} {nm : Bool} (hA : InvAt ⟨fun o => lkp pre o, ρ, X, w, ds, nm⟩ S ρ' X' a w') {rs : List AV} {ws : List (Nat × AObj)} (hS : RetC P fn pre nw rs ws S) :
    ∃ v, (results fn a.tmps).run P w' = .ok v w' ∧ ∃ ρf Xf, HSim (wr hp ws) ρf Xf w' ∧ HEvo hp (wr hp ws) ρ ρf X Xf w w' ∧ RepA ρf Xf w' (one rs) v ∧ ∀ n, n ∈ (one rs).names → wr hp ws n ≠ none := by
  obtain ⟨ms, m, s, s', xs, ys, fz, kl, k1, k2, k3, k4, k5, k6, k7⟩ := hS.h
  rw [Chk_eq] at k6
  obtain ⟨us, r1, r2, r3, r4⟩ := aRes_run hA.sim k1 k2
  have hT := cvt_rep hA.sim k3 k4 (F := fz ++ kl) (fun _ h => List.mem_append_left _ h) r2 r3
  rw [eqAVs_spec k5] at hT
  obtain ⟨ρf, q1, q2, q3⟩ := fin_call hh hpre hnw (hA.kill (fz ++ kl)) k6 k7
  refine ⟨_, results_run r1, ρf, _, q1, q2, ?_, fun n hn => (q3 n (one_names hn)).2⟩
  exact one_rep (RepT.mono (Y := fun _ => False) ⟨.refl _ _, fun _ _ _ h => h, fun _ _ h => h⟩ (fun n hn => (q3 n hn).1) hT.ren)
theorem pre_mem {pre : List (Nat × AObj)} {n : Nat} (hn : lkp pre n ≠ none) : n ∈ pre.map (·.1) := by
  obtain ⟨x, hx⟩ := Option.ne_none_iff_exists'.1 hn
  exact List.mem_map.2 ⟨_, lkp_mem hx, rfl⟩
theorem calls_of_wp_marks {P : Program} {f : FuncId} {fn : Func} {c : Code} {args : Array Value} {w : World} {R : Ending → World → Prop} (hf : P.funcs[f]? = some fn) (hb : fn.body = some c)
    (h : c.wpIn (FR none) 0 P (bodyPostM (FR none) 0 P fn R) { tmps := args ++ Array.replicate (fn.ntmps - args.size) undef, defers := [] } w) : Calls P f args w R :=
  (callsIn_of_wp_marks (F := FR none) hf hb trivial h).calls fun k => room_wide k
theorem local_of_body {P : Program} (hm : P.follows .mixedOrders = true) {f : FuncId} {fn : Func} {c : Code} (hf : P.funcs[f]? = some fn) (hb : fn.body = some c) {fr : List (Nat × List Nat)} {args : List AV} {pre : List (Nat × AObj)} {nw : List Nat}
    {rs : List AV} {ws : List (Nat × AObj)} (h : FnC P fn c fr args pre nw rs ws) : LocalCall P f args pre nw (one rs) ws := by
  intro hp hpre hnw ρ X w vs hh hr hn
  obtain ⟨h1, h2⟩ := h
  rw [Chk_eq] at h1
  refine calls_of_wp_marks hf hb (wpIn_mono (wpC_sound hm (E := ⟨fun o => lkp pre o, ρ, X, w, [], false⟩) c (fun _ => ⟨rfl, rfl⟩) (fun n hn => pre_mem hn) h2 (hh.start hr hpre h1)) fun e a w' he => ?_)
  have fin : ∀ S, RetC P fn pre nw rs ws S → Inv ⟨fun o => lkp pre o, ρ, X, w, [], false⟩ S a w' → LeavesInM (FR none) 0 P fn a.tmps (fun e w' => ∃ v, e = .returned v ∧ ∃ ρ' X', HSim (wr hp ws) ρ' X' w' ∧ HEvo hp (wr hp ws) ρ ρ' X X' w w' ∧ RepA ρ' X' w' (one rs) v ∧ ∀ n, n ∈ (one rs).names → wr hp ws n ≠ none) a.defers .returning w' := by
    intro S hS hI
    obtain ⟨ρ', X', hA⟩ := hI
    obtain ⟨ms, m1, _⟩ := hA.marks
    refine take_marks (by simp) ms hA m1 fun w2 hA2 => ?_
    obtain ⟨v, hv, hrest⟩ := ret_fin hh hpre hnw hA2 hS
    exact ⟨v, hv, v, rfl, hrest⟩
  cases e with
  | normal => obtain ⟨S, k1, k2⟩ := he; exact fin S k1 k2
  | ret => obtain ⟨S, k1, k2⟩ := he; exact fin S k1 k2
  | exit i => obtain ⟨_, k1, _⟩ := he; exact k1.elim
  | goto l => obtain ⟨_, k1, _⟩ := he; exact k1.elim
  | panic ch => obtain ⟨_, _, _, k1, _⟩ := he; exact k1.elim
  | outgrown => exact he.elim
theorem pan_fin {hp : Nat → Option AObj} {ρ : Nat → Option Nat} {X : Nat → Prop} {w : World} {pre : List (Nat × AObj)} {nw : List Nat} (hh : HSim hp ρ X w) (hpre : ∀ p, p ∈ pre → hp p.1 = some p.2) (hnw : ∀ n, n ∈ nw → hp n = none)
    {S : St} {ρ' : Nat → Option Nat} {X' : Nat → Prop} {a : Act} {w' : World} {ds : List Deferred} {nm : Bool} (hA : InvAt ⟨fun o => lkp pre o, ρ, X, w, ds, nm⟩ S ρ' X' a w') {ws : List (Nat × AObj)} (hS : PanC pre nw ws S) :
    ∃ ρf Xf, HSim (wr hp ws) ρf Xf w' ∧ HEvo hp (wr hp ws) ρ ρf X Xf w w' := by
  obtain ⟨m, kl, k6, k7⟩ := hS.h
  rw [Chk_eq] at k6
  obtain ⟨ρf, q1, q2, _⟩ := fin_call hh hpre hnw (hA.kill kl) k6 k7
  exact ⟨ρf, _, q1, q2⟩
theorem localPan_of_body {P : Program} (hm : P.follows .mixedOrders = true) {f : FuncId} {fn : Func} {c : Code} (hf : P.funcs[f]? = some fn) (hb : fn.body = some c) {fr : List (Nat × List Nat)} {args : List AV} {pre : List (Nat × AObj)} {nw : List Nat} {pv : Value} {ws : List (Nat × AObj)}
    (h : FnPan P fn c fr args pre nw pv ws) : LocalPan P f args pre nw pv ws := by
  intro hp hpre hnw ρ X w vs hh hr hn
  obtain ⟨h1, h2⟩ := h
  rw [Chk_eq] at h1
  refine calls_of_wp_marks hf hb (wpIn_mono (wpC_sound hm (E := ⟨fun o => lkp pre o, ρ, X, w, [], false⟩) c (fun _ => ⟨rfl, rfl⟩) (fun n hn => pre_mem hn) h2 (hh.start hr hpre h1)) fun e a w' he => ?_)
  cases e with
  | normal => obtain ⟨_, k1, _⟩ := he; exact k1.elim
  | ret => obtain ⟨_, k1, _⟩ := he; exact k1.elim
  | exit i => obtain ⟨_, k1, _⟩ := he; exact k1.elim
  | goto l => obtain ⟨_, k1, _⟩ := he; exact k1.elim
  | panic ch =>
    obtain ⟨v, S, rfl, ⟨k1, k2⟩, ρ', X', hA⟩ := he
    rw [Side_eq] at k1
    subst k1
    obtain ⟨ms, m1, _⟩ := hA.marks
    refine take_marks (by simp) ms hA m1 fun w2 hA2 => ?_
    obtain ⟨ρf, Xf, q1, q2⟩ := pan_fin hh hpre hnw hA2 k2
    exact ⟨rfl, ρf, Xf, q1, q2⟩
  | outgrown => exact he.elim
end Go.Sym

namespace Go.Sym
structure Vc (p : Prop) : Prop where
  h : p
theorem vza {q : Prop} (k : Vc q) : Vc (Side True ∧ q) := ⟨⟨trivial⟩, k.h⟩
theorem vzb {q : Prop} (k : Vc q) : Vc (Side (True ∧ True) ∧ q) := ⟨⟨trivial, trivial⟩, k.h⟩
theorem vzc {s q : Prop} (h : s) (k : Vc q) : Vc (Side s ∧ q) := ⟨⟨h⟩, k.h⟩
theorem vzC {s : Prop} (h : s) : Vc (Side s) := ⟨⟨h⟩⟩
theorem vzD {p q : Prop} (h : Vc p) (k : Vc q) : Vc (p ∧ q) := ⟨h.h, k.h⟩
theorem vzH {b : Bool} (h : b = true) : Vc (Chk b) := ⟨⟨h⟩⟩
theorem vzd : Vc True := ⟨trivial⟩
theorem vze {p : Prop} (h : Vc p) : Vc (Later p) := ⟨⟨h.h⟩⟩
theorem vzf {f : Bool → Prop} (h : Vc (f true)) : Vc (bcase true f) := ⟨⟨fun _ => h.h, fun e => by cases e⟩⟩
theorem vzg {f : Bool → Prop} (h : Vc (f false)) : Vc (bcase false f) := ⟨⟨fun e => (by cases e), fun _ => h.h⟩⟩
theorem vzG {b : Bool} {f : Bool → Prop} (h1 : b = true → Vc (f true)) (h2 : b = false → Vc (f false)) : Vc (bcase b f) := ⟨⟨fun h => (h1 h).h, fun h => (h2 h).h⟩⟩
theorem vzE {p : Prop} [hd : Decidable p] {f : Bool → Prop} (h1 : p → Vc (f true)) (h2 : ¬ p → Vc (f false)) : Vc (bcase (decide p) f) :=
  vzG (fun h => h1 (of_decide_eq_true h)) (fun h => h2 (of_decide_eq_false h))
theorem vzF {p : Prop} [hd : Decidable p] {f : Bool → Prop} (h1 : ¬ p → Vc (f true)) (h2 : p → Vc (f false)) : Vc (bcase (!decide p) f) :=
  vzG (fun h => h1 (of_decide_eq_false (by simpa using h))) (fun h => h2 (of_decide_eq_true (by simpa using h)))
section
variable {P : Program} {ops : List Oper} {rid : Nat} {chk : Foots → Prop} {S : St} {acc : Foots} {K : St → Prop} {Kp : Value → St → Prop}
theorem vzi {q : Bool} {i m : Nat} (h1 : Vc (chk acc)) (h2 : Vc (K S)) : Vc (vcOps P ops rid chk [] q i m S acc K Kp) := by
  constructor; unfold vcOps; exact ⟨h1.h, h2.h⟩
theorem vzh {q : Bool} {o : Oper} {rest : List Oper} {i m : Nat} (h : Vc (stepOp P ops rid (fun q i m S acc K Kp => Later (vcOps P ops rid chk rest q i m S acc K Kp)) o q i m S acc K Kp)) : Vc (vcOps P ops rid chk (o :: rest) q i m S acc K Kp) := by
  constructor; unfold vcOps; exact h.h
end
def seqK (L : St → Prop) (K : AExit → St → Prop) : AExit → St → Prop
  | .normal, S => L S
  | e, S => K e S
def blockK (id : Nat) (K : AExit → St → Prop) : AExit → St → Prop
  | .exit i, S => bif i.beq id then K .normal S else K (.exit i) S
  | e, S => K e S
def scopeK (K : AExit → St → Prop) : AExit → St → Prop
  | .goto _, _ => False
  | e, S => K e S
section
variable {P : Program} {rd : Bool} {en : List Nat} {fr : List (Nat × List Nat)} {S : St} {K : AExit → St → Prop} {Kp : Value → St → Prop}
theorem vzp (h : Vc (K .normal S)) : Vc (wpC P fr rd en .skip S K Kp) := by constructor; unfold wpC; exact h.h
theorem vzr {l : Nat} (h : Vc (K .normal S)) : Vc (wpC P fr rd en (.label l) S K Kp) := by constructor; unfold wpC; exact h.h
theorem vzo {id : Nat} (h : Vc (K (.exit id) S)) : Vc (wpC P fr rd en (.exit id) S K Kp) := by constructor; unfold wpC; exact h.h
theorem vzs {l : Nat} (h : Vc (K (.goto l) S)) : Vc (wpC P fr rd en (.goto l) S K Kp) := by constructor; unfold wpC; exact h.h
theorem vzn (h : Vc (K .ret S)) : Vc (wpC P fr rd en .ret S K Kp) := by constructor; unfold wpC; exact h.h
theorem vzj {x y : Code} (h : Vc (wpC P fr rd en x S (seqK (fun S' => Later (wpC P fr rd en y S' K Kp)) K) Kp)) : Vc (wpC P fr rd en (.seq x y) S K Kp) := by
  constructor
  unfold wpC
  have e : seqK (fun S' => Later (wpC P fr rd en y S' K Kp)) K = fun e S' => match e with
      | .normal => wpC P fr rd en y S' K Kp
      | e => K e S' := by
    funext e S'
    cases e <;> simp only [seqK, Later_eq]
  rw [e] at h
  exact h.h
theorem vzl {c : Operand} {x y : Code} (h : Vc (match S.ev c with
      | .d (.bool b) => bcase b fun t => bif t then Later (wpC P fr rd en x S K Kp) else Later (wpC P fr rd en y S K Kp)
      | _ => False)) : Vc (wpC P fr rd en (.cond c x y) S K Kp) := by
  constructor
  unfold wpC
  simp only [Later_eq] at h
  exact h.h
theorem vzm {id : Nat} {x : Code} (h : Vc (wpC P fr rd en x S (blockK id K) Kp)) : Vc (wpC P fr rd en (.block id x) S K Kp) := by
  constructor
  unfold wpC
  have e : blockK id K = fun e S' => match e with
      | .exit i => bif i.beq id then K .normal S' else K (.exit i) S'
      | e => K e S' := by
    funext e S'
    cases e <;> rfl
  rw [e] at h
  exact h.h
theorem vzq {x : Code} (h : Vc (wpC P fr rd en x S (scopeK K) Kp)) : Vc (wpC P fr rd en (.scope x) S K Kp) := by
  constructor
  unfold wpC
  have e : scopeK K = fun e S' => match e with
      | .goto _ => False
      | e => K e S' := by
    funext e S'
    cases e <;> rfl
  rw [e] at h
  exact h.h
def vcRL (P : Program) (id : Nat) (l : List Oper) (draw : Bool) (S : St) (K : St → Prop) (Kp : Value → St → Prop) : Prop :=
  bif draw then Later (vcOps P l id (fun fs => Chk (okPairs l fs && edgesB l)) l false 0 0 S [] K Kp)
  else Later (vcOps P l id (fun _ => True) l false 0 0 S [] K Kp)
theorem vzk {id : Nat} {l : List Oper} {draw : Bool} (h : Vc (frC fr id S fun S' => vcRL P id l draw S' (fun S2 => frC fr (id + 500000) S2 fun S3 => K .normal S3) Kp)) : Vc (wpC P fr rd en (.region id l.toArray draw) S K Kp) := by
  constructor
  unfold wpC
  simp only [vcRL, Later_eq] at h
  exact h.h
def loopK {X : Type} (en : List Nat) (sl : X → List (Nat × AV)) (hp : X → List (Nat × AObj)) (μ : X → Nat) (n : Nat) (x : X) (K : AExit → St → Prop) : AExit → St → Prop
  | .normal, S' => NextC en sl hp μ n x S'
  | e, S' => K e S'
theorem vc_loop {y : Code} {X : Type} (n : Nat) (sl : X → List (Nat × AV)) (hp : X → List (Nat × AObj)) (μ : X → Nat) (x0 : X) (m : List (Nat × Nat)) (hn : Vc (Chk (S.n.beq n)))
    (h1 : Vc (Chk (wkOK en m (sl x0) (hp x0)))) (h2 : Vc (wkSl S m (sl x0))) (h3 : Vc (wkHp S m (hp x0))) (h : ∀ x, Vc (wpC P fr rd en y (mkSt n (sl x) (hp x)) (loopK en sl hp μ n x K) Kp)) : Vc (wpC P fr rd en (.loop y) S K Kp) := by
  have hn := Nat.eq_of_beq_eq_true hn.h.h
  subst hn
  constructor
  unfold wpC
  refine ⟨X, sl, hp, μ, x0, ⟨m, h1.h, h2.h, h3.h⟩, fun x => ?_⟩
  have e : loopK en sl hp μ S.n x K = fun e S' => match e with
      | .normal => NextC en sl hp μ S.n x S'
      | e => K e S' := by
    funext e S'
    cases e <;> rfl
  have := (h x).h
  rw [e] at this
  exact this
def loopKI {X : Type} (en : List Nat) (sl : X → List (Nat × AV)) (hp : X → List (Nat × AObj)) (μ : X → Nat) (I : X → Prop) (n : Nat) (x : X) (K : AExit → St → Prop) : AExit → St → Prop
  | .normal, S' => ∃ x', I x' ∧ μ x' < μ x ∧ S'.n = n ∧ Weak en S' (sl x') (hp x')
  | e, S' => K e S'
theorem vc_loopI {y : Code} {X : Type} (n : Nat) (sl : X → List (Nat × AV)) (hp : X → List (Nat × AObj)) (μ : X → Nat) (I : X → Prop) (x0 : X) (m : List (Nat × Nat)) (hn : Vc (Chk (S.n.beq n)))
    (h1 : Vc (Chk (wkOK en m (sl x0) (hp x0)))) (h2 : Vc (wkSl S m (sl x0))) (h3 : Vc (wkHp S m (hp x0))) (h0 : I x0) (h : ∀ x, I x → Vc (wpC P fr rd en y (mkSt n (sl x) (hp x)) (loopKI en sl hp μ I n x K) Kp)) : Vc (wpC P fr rd en (.loop y) S K Kp) := by
  refine vc_loop (X := { x : X // I x }) n (fun x => sl x.val) (fun x => hp x.val) (fun x => μ x.val) ⟨x0, h0⟩ m hn h1 h2 h3 fun x => ?_
  have := h x.val x.property
  have e : loopKI en sl hp μ I n x.val K = loopK en (fun x : { x : X // I x } => sl x.val) (fun x => hp x.val) (fun x => μ x.val) n x K := by
    funext e S'
    cases e <;> try rfl
    refine propext ⟨fun ⟨x', k1, k2, k3, k4⟩ => ⟨⟨x', k1⟩, k2, k3, k4⟩, fun h => ?_⟩
    obtain ⟨x', k2, k3, k4⟩ := h.h
    exact ⟨x'.val, x'.property, k2, k3, k4⟩
  rw [e] at this
  exact this
theorem vc_nextI {X : Type} {sl : X → List (Nat × AV)} {hp : X → List (Nat × AObj)} {μ : X → Nat} {I : X → Prop} {n : Nat} {x : X} {S' : St} (x' : X) (m : List (Nat × Nat)) (hI : I x') (hμ : μ x' < μ x)
    (hn : Vc (Chk (S'.n.beq n))) (h1 : Vc (Chk (wkOK en m (sl x') (hp x')))) (h2 : Vc (wkSl S' m (sl x'))) (h3 : Vc (wkHp S' m (hp x'))) : Vc (∃ x', I x' ∧ μ x' < μ x ∧ S'.n = n ∧ Weak en S' (sl x') (hp x')) :=
  ⟨x', hI, hμ, Nat.eq_of_beq_eq_true hn.h.h, m, h1.h, h2.h, h3.h⟩
def roundK (en : List Nat) (n : Nat) (sl : List (Nat × AV)) (hp : List (Nat × AObj)) (I : Prop) (K : AExit → St → Prop) : AExit → St → Prop
  | .normal, S' => EndC en n sl hp I S'
  | e, S' => K e (wsl n sl S')
def asgK (L : St → Prop) : AExit → St → Prop
  | .normal, S => L S
  | _, _ => False
theorem vc_range {g : Operand} {ts : List Tmp} {x y : Code} (nn : Nat) (f o : Nat) (dx : D) (n : Nat) (ys : Nat → List D) (sl : List (Nat × AV)) (hp : Nat → List (Nat × AObj)) (I : Nat → Prop) (m : List (Nat × Nat)) (hn : Vc (Chk (S.n.beq nn)))
    (hev : Vc (eqAV (S.ev g) (.fn (.func f) [.ptr o []]))) (ho : Vc (match S.hp o with
      | some y => eqObj y (.var (.d dx))
      | none => False)) (hcl : Vc (Chk (callable P f))) (hseq : SeqOK P f dx n ys) (hys : ∀ i, (ys i).length = ts.length ∧ (ys i).all D.scal = true) (hd : Vc (Chk (distB ts)))
    (h1 : Vc (Chk (wkOK en m sl (hp 0)))) (h2 : Vc (wkSl S m sl)) (h3 : Vc (wkHp S m (hp 0))) (hI : I 0)
    (hr : ∀ i, i < n → I i → Vc (fNs ((hp i).map (·.1)) fun en' => Later (wpC P fr true en' x (rndSt nn ts (ys i) sl (hp i)) (asgK fun S2 => Later (wpC P fr true en' y S2 (roundK en nn sl (hp (i + 1)) (I (i + 1)) K) (fun _ _ => False))) (fun _ _ => False))))
    (hend : I n → Vc (K .normal (mkSt nn sl (hp n)))) : Vc (wpC P fr false en (.rangeFunc g ts.toArray x y) S K Kp) := by
  have hn := Nat.eq_of_beq_eq_true hn.h.h
  subst hn
  constructor
  unfold wpC
  have ho' : S.hp o = some (.var (.d dx)) := by
    have h := ho.h
    split at h
    · rename_i y hy; rw [hy, eqObj_spec h]
    · exact h.elim
  refine ⟨f, o, dx, n, ys, sl, hp, I, eqAV_spec hev.h, ho', hcl.h.h, hseq, hys, hd.h.h, ⟨m, h1.h, h2.h, h3.h⟩, hI, fun i hi hIi => ?_, fun h => (hend h).h⟩
  have h := (hr i hi hIi).h
  simp only [fNs_eq, Later_eq] at h
  have e1 : roundK en S.n sl (hp (i + 1)) (I (i + 1)) K = fun e S' => match e with
      | .normal => EndC en S.n sl (hp (i + 1)) (I (i + 1)) S'
      | e => K e (wsl S.n sl S') := by
    funext e S'
    cases e <;> rfl
  have e2 : ∀ L : St → Prop, asgK L = fun e S2 => match e with
      | .normal => L S2
      | _ => False := by
    intro L
    funext e S'
    cases e <;> rfl
  rw [e1, e2] at h
  exact h
theorem vc_endc {n : Nat} {sl : List (Nat × AV)} {hp : List (Nat × AObj)} {I : Prop} {S' : St} (m : List (Nat × Nat)) (hI : I) (h1 : Vc (Chk (wkOK en m sl hp))) (h2 : Vc (wkSl (wsl n sl S') m sl)) (h3 : Vc (wkHp (wsl n sl S') m hp)) : Vc (EndC en n sl hp I S') :=
  ⟨hI, ⟨m, h1.h, h2.h, h3.h⟩⟩
end
theorem vzt {S : St} {m : List (Nat × Nat)} : Vc (wkSl S m []) := ⟨trivial⟩
theorem vzx {S : St} {m : List (Nat × Nat)} {t : Nat} {v : AV} {l : List (Nat × AV)} (h1 : Vc (eqAV (S.sl t) (v.ren m))) (h2 : Vc (wkSl S m l)) : Vc (wkSl S m ((t, v) :: l)) := ⟨h1.h, h2.h⟩
theorem vzu {S : St} {m : List (Nat × Nat)} : Vc (wkHp S m []) := ⟨trivial⟩
theorem vzy {S : St} {m : List (Nat × Nat)} {o : Nat} {x : AObj} {l : List (Nat × AObj)} (h1 : Vc (match S.hp (renN m o) with
    | some y => eqObj y (x.ren m)
    | none => False)) (h2 : Vc (wkHp S m l)) : Vc (wkHp S m ((o, x) :: l)) := ⟨h1.h, h2.h⟩
theorem vzv : Vc (eqAVs [] []) := ⟨trivial⟩
theorem vzz {x y : AV} {xs ys : List AV} (h1 : Vc (eqAV x y)) (h2 : Vc (eqAVs xs ys)) : Vc (eqAVs (x :: xs) (y :: ys)) := ⟨h1.h, h2.h⟩
def RetG (P : Program) (fn : Func) (pre : List (Nat × AObj)) (nw : List Nat) (rs : List AV) (ws : List (Nat × AObj)) (ms : List Bool) (m : List (Nat × Nat)) (kl : List Nat) (S : St) : Prop :=
  match aRes P S fn.results.toList with
  | some (s, xs) => Side s ∧ fAVs xs fun xs => match cvt S.hp ms xs with
    | some (s', ys, fz) => Side s' ∧ fNs fz fun fz => fAVs ys fun ys => fAVs (AV.rens m rs) fun rs' => fWs (finHp pre ws) fun ws' =>
        Later (eqAVs ys rs') ∧ Chk (finOK pre nw m rs ws) ∧ Later (wkHp (S.write (deads (fz ++ kl))) m ws')
    | none => False
  | none => False
theorem vc_retK {P : Program} {fn : Func} {pre : List (Nat × AObj)} {nw : List Nat} {rs : List AV} {ws : List (Nat × AObj)} (ms : List Bool) (m : List (Nat × Nat)) (kl : List Nat) {S : St} (h : Vc (RetG P fn pre nw rs ws ms m kl S)) : Vc (RetC P fn pre nw rs ws S) := by
  have h := h.h
  unfold RetG at h
  split at h
  · rename_i s xs h1
    rw [fAVs_eq] at h
    obtain ⟨hs, h⟩ := h
    split at h
    · rename_i s' ys fz h2
      rw [fNs_eq, Side_eq, fAVs_eq, fAVs_eq, fWs_eq, Later_eq, Later_eq] at h
      rw [Side_eq] at hs
      exact ⟨⟨ms, m, s, s', xs, ys, fz, kl, h1, hs, h2, h.1, h.2.1, h.2.2.1, h.2.2.2⟩⟩
    · exact h.elim
  · exact h.elim
theorem vc_ret {P : Program} {fn : Func} {pre : List (Nat × AObj)} {nw : List Nat} {rs : List AV} {ws : List (Nat × AObj)} (ms : List Bool) (m : List (Nat × Nat)) {S : St} (h : Vc (RetG P fn pre nw rs ws ms m [] S)) : Vc (RetC P fn pre nw rs ws S) := vc_retK ms m [] h
def preG (hp : Nat → Option AObj) : List (Nat × AObj) → Prop
  | [] => True
  | p :: l => (match hp p.1 with
    | some y => eqObj y p.2
    | none => False) ∧ preG hp l
theorem vzw {hp : Nat → Option AObj} : Vc (preG hp []) := ⟨trivial⟩
theorem vzA {hp : Nat → Option AObj} {o : Nat} {x : AObj} {l : List (Nat × AObj)} (h1 : Vc (match hp o with
    | some y => eqObj y x
    | none => False)) (h2 : Vc (preG hp l)) : Vc (preG hp ((o, x) :: l)) := ⟨h1.h, h2.h⟩
theorem preG_ok {hp : Nat → Option AObj} : ∀ {l : List (Nat × AObj)}, preG hp l → preOK hp l
  | [], _ => trivial
  | p :: l, h => by
    refine ⟨?_, preG_ok h.2⟩
    have h1 := h.1
    split at h1
    · rename_i y hy; rw [hy, eqObj_spec h1]
    · exact h1.elim
def CallG (P : Program) (f : FuncId) (args : List AV) (S : St) (ms : List Bool) (args' : List AV) (pre : List (Nat × AObj)) (nw : List Nat) (r : AV) (ws : List (Nat × AObj)) (K : AV → List (Nat × AObj) → Foot → Prop) : Prop :=
  match cvt S.hp ms args with
  | some (s, ys, fz) => Side s ∧ fNs fz fun fz => fAVs ys fun ys => Later (eqAVs ys args') ∧ Later (preG S.hp pre) ∧ Chk (okNames S.hp pre fz nw ws) ∧ Chk (callable P f) ∧
      fAV r fun r => fWs (ws ++ deads fz) fun ws' => fFoot ⟨AV.namesL args ++ pre.map (·.1), fz ++ (ws.map (·.1)).filter (fun n => !nw.contains n), nw⟩ fun φ => K r ws' φ
  | none => False
theorem vc_call {P : Program} {f : FuncId} {args args' : List AV} {S : St} {pre : List (Nat × AObj)} {nw : List Nat} {r : AV} {ws : List (Nat × AObj)} {K : AV → List (Nat × AObj) → Foot → Prop} {Kp : Value → List (Nat × AObj) → Foot → Prop} (ms : List Bool)
    (hc : LocalCall P f args' pre nw r ws) (h : Vc (CallG P f args S ms args' pre nw r ws K)) : Vc (vcCall P f args S K Kp) := by
  have h := h.h
  unfold CallG at h
  split at h
  · rename_i s ys fz h1
    rw [fNs_eq, Side_eq, fAVs_eq, Later_eq, Later_eq] at h
    obtain ⟨hs, he, hp, hn, hcl, hk⟩ := h
    rw [Chk_eq] at hn hcl
    rw [fAV_eq, fWs_eq, fFoot_eq] at hk
    rw [eqAVs_spec he] at h1
    exact ⟨⟨.inl ⟨ms, args', fz, s, pre, nw, r, ws, h1, hs, preG_ok hp, hn, hcl, hc, hk⟩⟩⟩
  · exact h.elim
theorem cvt_plain (hp : Nat → Option AObj) : ∀ l : List AV, l.all AV.plain = true → ∃ s, cvt hp [] l = some (s, l, []) ∧ s
  | [], _ => ⟨True, rfl, trivial⟩
  | x :: l, h => by
    simp only [List.all_cons, Bool.and_eq_true] at h
    obtain ⟨s, h1, h2⟩ := cvt_plain hp l h.2
    exact ⟨s, by simp only [cvt, h1, h.1, cond_true], h2⟩
theorem vc_pure {P : Program} {f : FuncId} {args : List AV} {S : St} {r : AV} {K : AV → List (Nat × AObj) → Foot → Prop} {Kp : Value → List (Nat × AObj) → Foot → Prop}
    (hc : LocalCall P f args [] [] r []) (hp : Vc (Chk (args.all AV.plain))) (hcl : Vc (Chk (callable P f))) (h : Vc (fAV r fun r => fNs (AV.namesL args) fun l => K r [] ⟨l, [], []⟩)) : Vc (vcCall P f args S K Kp) := by
  have h := h.h
  rw [fAV_eq, fNs_eq] at h
  obtain ⟨s, h1, h2⟩ := cvt_plain S.hp args hp.h.h
  exact ⟨⟨.inl ⟨[], args, [], s, [], [], r, [], h1, h2, trivial, rfl, hcl.h.h, hc, by simpa [deads] using h⟩⟩⟩
def CallU (P : Program) (f : FuncId) (args : List AV) (S : St) (pre : List (Nat × AObj)) (nw : List Nat) (r : AV) (ws : List (Nat × AObj)) (K : AV → List (Nat × AObj) → Foot → Prop) : Prop :=
  Later (preG S.hp pre) ∧ Chk (okNames S.hp pre [] nw ws) ∧ Chk (callable P f) ∧
      fAV r fun r => fWs ws fun ws' => fFoot ⟨AV.namesL args ++ pre.map (·.1), (ws.map (·.1)).filter (fun n => !nw.contains n), nw⟩ fun φ => K r ws' φ
theorem vc_callU {P : Program} {f : FuncId} {args : List AV} {S : St} {pre : List (Nat × AObj)} {nw : List Nat} {r : AV} {ws : List (Nat × AObj)} {K : AV → List (Nat × AObj) → Foot → Prop} {Kp : Value → List (Nat × AObj) → Foot → Prop}
    (hc : LocalCall P f args pre nw r ws) (hp : Vc (Chk (args.all AV.plain))) (h : Vc (CallU P f args S pre nw r ws K)) : Vc (vcCall P f args S K Kp) := by
  obtain ⟨h1, h2, h3, h4⟩ := h.h
  rw [Later_eq] at h1
  rw [Chk_eq] at h2 h3
  rw [fAV_eq, fWs_eq, fFoot_eq] at h4
  obtain ⟨s, e1, e2⟩ := cvt_plain S.hp args hp.h.h
  exact ⟨⟨.inl ⟨[], args, [], s, pre, nw, r, ws, e1, e2, preG_ok h1, h2, h3, hc, by simpa [deads] using h4⟩⟩⟩
def PanG (P : Program) (f : FuncId) (args : List AV) (S : St) (ms : List Bool) (args' : List AV) (pre : List (Nat × AObj)) (nw : List Nat) (pv : Value) (ws : List (Nat × AObj)) (Kp : Value → List (Nat × AObj) → Foot → Prop) : Prop :=
  match cvt S.hp ms args with
  | some (s, ys, fz) => Side s ∧ fNs fz fun fz => fAVs ys fun ys => Later (eqAVs ys args') ∧ Later (preG S.hp pre) ∧ Chk (okNames S.hp pre fz nw ws) ∧ Chk (callable P f) ∧
      fWs (ws ++ deads fz) fun ws' => fFoot ⟨AV.namesL args ++ pre.map (·.1), fz ++ (ws.map (·.1)).filter (fun n => !nw.contains n), nw⟩ fun φ => Kp pv ws' φ
  | none => False
theorem vc_pan {P : Program} {f : FuncId} {args args' : List AV} {S : St} {pre : List (Nat × AObj)} {nw : List Nat} {pv : Value} {ws : List (Nat × AObj)} {K : AV → List (Nat × AObj) → Foot → Prop} {Kp : Value → List (Nat × AObj) → Foot → Prop} (ms : List Bool)
    (hc : LocalPan P f args' pre nw pv ws) (h : Vc (PanG P f args S ms args' pre nw pv ws Kp)) : Vc (vcCall P f args S K Kp) := by
  have h := h.h
  unfold PanG at h
  split at h
  · rename_i s ys fz h1
    rw [fNs_eq, Side_eq, fAVs_eq, Later_eq, Later_eq] at h
    obtain ⟨hs, he, hp, hn, hcl, hk⟩ := h
    rw [Chk_eq] at hn hcl
    rw [fWs_eq, fFoot_eq] at hk
    rw [eqAVs_spec he] at h1
    exact ⟨⟨.inr ⟨ms, args', fz, s, pre, nw, pv, ws, h1, hs, preG_ok hp, hn, hcl, hc, hk⟩⟩⟩
  · exact h.elim
def fnK (P : Program) (fn : Func) (pre : List (Nat × AObj)) (nw : List Nat) (rs : List AV) (ws : List (Nat × AObj)) : AExit → St → Prop
  | .normal, S' => RetC P fn pre nw rs ws S'
  | .ret, S' => RetC P fn pre nw rs ws S'
  | _, _ => False
theorem vc_fn {P : Program} (hm : P.follows .mixedOrders = true) {f : FuncId} {fn : Func} {c : Code} (hf : P.funcs[f]? = some fn) (hb : fn.body = some c) {n : Nat} (hn : fn.ntmps = n) (fr : List (Nat × List Nat)) {args : List AV} {pre : List (Nat × AObj)} {nw : List Nat}
    {rs : List AV} {ws : List (Nat × AObj)} (h1 : Vc (Chk (entOK n args pre))) (h2 : Vc (fNs (pre.map (·.1)) fun en => Later (wpC P fr false en c (mkSt n (enumA 0 args) pre) (fnK P fn pre nw rs ws) (fun _ _ => False)))) : LocalCall P f args pre nw (one rs) ws := by
  subst hn
  refine local_of_body hm hf hb (fr := fr) ⟨h1.h, ?_⟩
  have h2 := h2.h
  rw [fNs_eq, Later_eq] at h2
  have e : fnK P fn pre nw rs ws = fun e S' => match e with
    | .normal => RetC P fn pre nw rs ws S'
    | .ret => RetC P fn pre nw rs ws S'
    | _ => False := by
    funext e S'
    cases e <;> rfl
  rw [e] at h2
  exact h2
def panK (pre : List (Nat × AObj)) (nw : List Nat) (pv : Value) (ws : List (Nat × AObj)) : Value → St → Prop := fun v S' => Side (v = pv) ∧ PanC pre nw ws S'
theorem vc_panc {pre : List (Nat × AObj)} {nw : List Nat} {ws : List (Nat × AObj)} {S : St} (m : List (Nat × Nat)) (kl : List Nat) (h1 : Vc (Chk (finOK pre nw m [] ws))) (h2 : Vc (fWs (finHp pre ws) fun ws' => Later (wkHp (S.write (deads kl)) m ws'))) : Vc (PanC pre nw ws S) := by
  have h2 := h2.h
  rw [fWs_eq, Later_eq] at h2
  exact ⟨m, kl, h1.h, h2⟩
theorem vc_fnPan {P : Program} (hm : P.follows .mixedOrders = true) {f : FuncId} {fn : Func} {c : Code} (hf : P.funcs[f]? = some fn) (hb : fn.body = some c) {n : Nat} (hn : fn.ntmps = n) (fr : List (Nat × List Nat)) {args : List AV} {pre : List (Nat × AObj)} {nw : List Nat} {pv : Value} {ws : List (Nat × AObj)}
    (h1 : Vc (Chk (entOK n args pre))) (h2 : Vc (fNs (pre.map (·.1)) fun en => Later (wpC P fr false en c (mkSt n (enumA 0 args) pre) (fun _ _ => False) (panK pre nw pv ws)))) : LocalPan P f args pre nw pv ws := by
  subst hn
  refine localPan_of_body hm hf hb (fr := fr) ⟨h1.h, ?_⟩
  have h2 := h2.h
  simp only [fNs_eq, Later_eq] at h2
  exact h2
end Go.Sym
namespace Go.Sym
theorem vs1 : type_of% (And.intro @Bool.cond_true_left <| And.intro @Bool.cond_false_right <| And.intro @Bool.cond_true_right <| And.intro @Bool.cond_false_left <| And.intro @Bool.and_eq_true <| And.intro @Bool.or_eq_true <| And.intro @Bool.and_eq_false_iff <| And.intro @Bool.or_eq_false_iff <| And.intro @Bool.not_eq_true' <| And.intro @Bool.not_eq_false' <| And.intro @Bool.not_eq_true <| And.intro @Bool.not_eq_false <| And.intro @Bool.not_not <| And.intro @decide_eq_true_eq <| And.intro @decide_eq_false_iff_not <| And.intro @beq_iff_eq.{0} <| And.intro @beq_eq_false_iff_ne.{0} <| And.intro @bne_iff_ne.{0} <| And.intro @bne_eq_false_iff_eq.{0} <| And.intro @ne_eq.{1} <| And.intro @Classical.not_not <| And.intro @false_or <| And.intro @or_false <| And.intro @true_and <| And.intro @and_true <| And.intro Bool.false_eq_true Bool.true_eq_false) := And.intro @Bool.cond_true_left <| And.intro @Bool.cond_false_right <| And.intro @Bool.cond_true_right <| And.intro @Bool.cond_false_left <| And.intro @Bool.and_eq_true <| And.intro @Bool.or_eq_true <| And.intro @Bool.and_eq_false_iff <| And.intro @Bool.or_eq_false_iff <| And.intro @Bool.not_eq_true' <| And.intro @Bool.not_eq_false' <| And.intro @Bool.not_eq_true <| And.intro @Bool.not_eq_false <| And.intro @Bool.not_not <| And.intro @decide_eq_true_eq <| And.intro @decide_eq_false_iff_not <| And.intro @beq_iff_eq.{0} <| And.intro @beq_eq_false_iff_ne.{0} <| And.intro @bne_iff_ne.{0} <| And.intro @bne_eq_false_iff_eq.{0} <| And.intro @ne_eq.{1} <| And.intro @Classical.not_not <| And.intro @false_or <| And.intro @or_false <| And.intro @true_and <| And.intro @and_true <| And.intro Bool.false_eq_true Bool.true_eq_false
end Go.Sym

namespace Go.Sym
/-- The rules that need nothing told, tried one behind the other. -/
inductive Vz : Prop → Prop
  | a {q : Prop} (k : Vc q) : Vz (Side True ∧ q)
  | b {q : Prop} (k : Vc q) : Vz (Side (True ∧ True) ∧ q)
  | c {s q : Prop} (h : s) (k : Vc q) : Vz (Side s ∧ q)
  | d : Vz True
  | e {p : Prop} (h : Vc p) : Vz (Later p)
  | f {g : Bool → Prop} (h : Vc (g true)) : Vz (bcase true g)
  | g {g : Bool → Prop} (h : Vc (g false)) : Vz (bcase false g)
  | h {P : Program} {ops : List Oper} {rid : Nat} {chk : Foots → Prop} {S : St} {acc : Foots} {K : St → Prop} {Kp : Value → St → Prop} {q : Bool} {o : Oper} {rest : List Oper} {i m : Nat} (h : Vc (stepOp P ops rid (fun q i m S acc K Kp => Later (vcOps P ops rid chk rest q i m S acc K Kp)) o q i m S acc K Kp)) : Vz (vcOps P ops rid chk (o :: rest) q i m S acc K Kp)
  | i {P : Program} {ops : List Oper} {rid : Nat} {chk : Foots → Prop} {S : St} {acc : Foots} {K : St → Prop} {Kp : Value → St → Prop} {q : Bool} {i m : Nat} (h1 : Vc (chk acc)) (h2 : Vc (K S)) : Vz (vcOps P ops rid chk [] q i m S acc K Kp)
  | j {P : Program} {rd : Bool} {en : List Nat} {fr : List (Nat × List Nat)} {S : St} {K : AExit → St → Prop} {Kp : Value → St → Prop} {x y : Code} (h : Vc (wpC P fr rd en x S (seqK (fun S' => Later (wpC P fr rd en y S' K Kp)) K) Kp)) : Vz (wpC P fr rd en (.seq x y) S K Kp)
  | k {P : Program} {rd : Bool} {en : List Nat} {fr : List (Nat × List Nat)} {S : St} {K : AExit → St → Prop} {Kp : Value → St → Prop} {id : Nat} {l : List Oper} {draw : Bool} (h : Vc (frC fr id S fun S' => vcRL P id l draw S' (fun S2 => frC fr (id + 500000) S2 fun S3 => K .normal S3) Kp)) : Vz (wpC P fr rd en (.region id l.toArray draw) S K Kp)
  | l {P : Program} {rd : Bool} {en : List Nat} {fr : List (Nat × List Nat)} {S : St} {K : AExit → St → Prop} {Kp : Value → St → Prop} {c : Operand} {x y : Code} (h : Vc (match S.ev c with
      | .d (.bool b) => bcase b fun t => bif t then Later (wpC P fr rd en x S K Kp) else Later (wpC P fr rd en y S K Kp)
      | _ => False)) : Vz (wpC P fr rd en (.cond c x y) S K Kp)
  | m {P : Program} {rd : Bool} {en : List Nat} {fr : List (Nat × List Nat)} {S : St} {K : AExit → St → Prop} {Kp : Value → St → Prop} {id : Nat} {x : Code} (h : Vc (wpC P fr rd en x S (blockK id K) Kp)) : Vz (wpC P fr rd en (.block id x) S K Kp)
  | n {P : Program} {rd : Bool} {en : List Nat} {fr : List (Nat × List Nat)} {S : St} {K : AExit → St → Prop} {Kp : Value → St → Prop} (h : Vc (K .ret S)) : Vz (wpC P fr rd en .ret S K Kp)
  | o {P : Program} {rd : Bool} {en : List Nat} {fr : List (Nat × List Nat)} {S : St} {K : AExit → St → Prop} {Kp : Value → St → Prop} {id : Nat} (h : Vc (K (.exit id) S)) : Vz (wpC P fr rd en (.exit id) S K Kp)
  | p {P : Program} {rd : Bool} {en : List Nat} {fr : List (Nat × List Nat)} {S : St} {K : AExit → St → Prop} {Kp : Value → St → Prop} (h : Vc (K .normal S)) : Vz (wpC P fr rd en .skip S K Kp)
  | q {P : Program} {rd : Bool} {en : List Nat} {fr : List (Nat × List Nat)} {S : St} {K : AExit → St → Prop} {Kp : Value → St → Prop} {x : Code} (h : Vc (wpC P fr rd en x S (scopeK K) Kp)) : Vz (wpC P fr rd en (.scope x) S K Kp)
  | r {P : Program} {rd : Bool} {en : List Nat} {fr : List (Nat × List Nat)} {S : St} {K : AExit → St → Prop} {Kp : Value → St → Prop} {l : Nat} (h : Vc (K .normal S)) : Vz (wpC P fr rd en (.label l) S K Kp)
  | s {P : Program} {rd : Bool} {en : List Nat} {fr : List (Nat × List Nat)} {S : St} {K : AExit → St → Prop} {Kp : Value → St → Prop} {l : Nat} (h : Vc (K (.goto l) S)) : Vz (wpC P fr rd en (.goto l) S K Kp)
  | t {S : St} {m : List (Nat × Nat)} : Vz (wkSl S m [])
  | u {S : St} {m : List (Nat × Nat)} : Vz (wkHp S m [])
  | v : Vz (eqAVs [] [])
  | w {hp : Nat → Option AObj} : Vz (preG hp [])
  | x {S : St} {m : List (Nat × Nat)} {t : Nat} {v : AV} {l : List (Nat × AV)} (h1 : Vc (eqAV (S.sl t) (v.ren m))) (h2 : Vc (wkSl S m l)) : Vz (wkSl S m ((t, v) :: l))
  | y {S : St} {m : List (Nat × Nat)} {o : Nat} {x : AObj} {l : List (Nat × AObj)} (h1 : Vc (match S.hp (renN m o) with
    | some y => eqObj y (x.ren m)
    | none => False)) (h2 : Vc (wkHp S m l)) : Vz (wkHp S m ((o, x) :: l))
  | z {x y : AV} {xs ys : List AV} (h1 : Vc (eqAV x y)) (h2 : Vc (eqAVs xs ys)) : Vz (eqAVs (x :: xs) (y :: ys))
  | A {hp : Nat → Option AObj} {o : Nat} {x : AObj} {l : List (Nat × AObj)} (h1 : Vc (match hp o with
    | some y => eqObj y x
    | none => False)) (h2 : Vc (preG hp l)) : Vz (preG hp ((o, x) :: l))
theorem vzZ {p : Prop} (h : Vz p) : Vc p := by
  cases h with
  | a k => exact vza k
  | b k => exact vzb k
  | c h k => exact vzc h k
  | d => exact vzd
  | e h => exact vze h
  | f h => exact vzf h
  | g h => exact vzg h
  | h h => exact vzh h
  | i h1 h2 => exact vzi h1 h2
  | j h => exact vzj h
  | k h => exact vzk h
  | l h => exact vzl h
  | m h => exact vzm h
  | n h => exact vzn h
  | o h => exact vzo h
  | p h => exact vzp h
  | q h => exact vzq h
  | r h => exact vzr h
  | s h => exact vzs h
  | t => exact vzt
  | u => exact vzu
  | v => exact vzv
  | w => exact vzw
  | x h1 h2 => exact vzx h1 h2
  | y h1 h2 => exact vzy h1 h2
  | z h1 h2 => exact vzz h1 h2
  | A h1 h2 => exact vzA h1 h2
end Go.Sym

namespace Go.Sym
def contig (P : Program) : Nat → List Field → Bool
  | _, [] => true
  | o, f :: fs => f.offset.beq o && contig P (o + P.cellsOf f.type) fs
def widths (P : Program) : List Field → Nat
  | [] => 0
  | f :: fs => P.cellsOf f.type + widths P fs
def plainT (P : Program) : Nat → TypeId → Bool
  | 0, _ => false
  | n + 1, t => match P.underlying t with
    | some .bool => (P.cellsOf t).beq 1
    | some (.int _) => (P.cellsOf t).beq 1
    | some .string => (P.cellsOf t).beq 1
    | some (.struct fs) => contig P 0 fs.toList && (P.cellsOf t).beq (widths P fs.toList) && fs.toList.all fun f => plainT P n f.type
    | some (.array m e) => (P.cellsOf t).beq (m * P.cellsOf e) && plainT P n e
    | some (.slice e) => (P.cellsOf t).beq 1 && Nat.blt 0 (P.cellsOf e) && plainT P n e
    | _ => false
def okAll (p : TypeId → D → Prop) : List TypeId → List D → Prop
  | [], [] => True
  | t :: ts, x :: xs => p t x ∧ okAll p ts xs
  | _, _ => False
def okD (P : Program) : Nat → TypeId → D → Prop
  | 0, _, _ => False
  | n + 1, t, x => match P.underlying t with
    | some .bool => ∃ b, x = .bool b
    | some (.int k) => ∃ m, x = .int k m ∧ (Lit.int k m).wf = true
    | some .string => ∃ s, x = .str s ∧ s.size ≤ maxLen
    | some (.struct fs) => ∃ xs, x = .st xs ∧ okAll (okD P n) (fs.toList.map (·.type)) xs
    | some (.array m e) => ∃ xs, x = .arr m (P.cellsOf e) xs ∧ xs.length = m ∧ ∀ y, y ∈ xs → okD P n e y
    | some (.slice e) => ∃ xs, x = .sl xs ∧ xs.length ≤ maxLen ∧ ∀ y, y ∈ xs → okD P n e y
    | _ => False
mutual
def D.bulk : D → Nat
  | .str s => s.size + 1
  | .st fs => D.bulks fs + 1
  | .arr _ _ xs => D.bulks xs + 1
  | .sl xs => D.bulks xs + 1
  | _ => 1
def D.bulks : List D → Nat
  | [] => 0
  | x :: xs => D.bulk x + D.bulks xs
end
mutual
inductive RelD {H : Type} : D → DataW H → Prop
  | int (k : IntKind) (n : Int) : RelD (.int k n) (.lit (.int k n))
  | bool (b : Bool) : RelD (.bool b) (.lit (.bool b))
  | str (s : ByteArray) : RelD (.str s) (.lit (.string s.data.toList))
  | st {xs : List D} {ds : List (DataW H)} : RelL xs ds → RelD (.st xs) (.agg ds)
  | arr {n e : Nat} {xs : List D} {ds : List (DataW H)} : RelL xs ds → RelD (.arr n e xs) (.agg ds)
  | slnil : RelD (.sl []) .nil
  | sl {xs : List D} {ds es : List (DataW H)} : RelL xs ds → RelD (.sl xs) (.slice ds es)
inductive RelL {H : Type} : List D → List (DataW H) → Prop
  | nil : RelL [] []
  | cons {x : D} {xs : List D} {d : DataW H} {ds : List (DataW H)} : RelD x d → RelL xs ds → RelL (x :: xs) (d :: ds)
end
theorem mapM_some {α β : Type} {f : α → Option β} : ∀ {l : List α} {ys : List β}, l.mapM f = some ys → ys.length = l.length ∧ ∀ (i : Nat) (x : α), l[i]? = some x → ∃ y, ys[i]? = some y ∧ f x = some y
  | [], ys, h => by
    simp at h; subst h; exact ⟨rfl, fun i x h => by simp at h⟩
  | a :: l, ys, h => by
    rw [List.mapM_cons] at h
    cases ha : f a with
    | none => rw [ha] at h; simp at h
    | some b =>
      rw [ha] at h
      cases hl : l.mapM f with
      | none => rw [hl] at h; simp at h
      | some bs =>
        rw [hl] at h
        simp at h
        subst h
        obtain ⟨h1, h2⟩ := mapM_some hl
        refine ⟨by simp [h1], fun i x hx => ?_⟩
        cases i with
        | zero => simp at hx; subst hx; exact ⟨b, rfl, ha⟩
        | succ i => simpa using h2 i x (by simpa using hx)
section
variable {H : Type} {enc : TypeId × Value → H} {P : Program} {w : World} {sp : Nat → Bool} {held : Bool}
def noX : Nat → Prop := fun _ => False
theorem cells?_row {a : Addr} {n : Nat} {cs : List Value} (h : w.cells? 0 a n = some cs) : cs.length = n ∧ ∀ i v, cs[i]? = some v → w.cell? (a.add i) = some v := by
  unfold World.cells? at h
  rw [if_pos (Nat.zero_le _)] at h
  obtain ⟨h1, h2⟩ := mapM_some h
  refine ⟨by simpa using h1, fun i v hv => ?_⟩
  have hi : i < n := by
    have := (List.getElem?_eq_some_iff.1 hv).1
    rw [h1] at this; simpa using this
  obtain ⟨y, hy1, hy2⟩ := h2 i i (by simp [hi])
  rw [hv] at hy1; cases hy1; exact hy2
theorem row_rep {e : TypeId} {n : Nat} {z : Nat} : ∀ (m : Nat) (cs : List Value) (ds : List (DataW H)), cs.length = m * z → ds.length = m →
    (∀ i, i < m → ∃ d x, ds[i]? = some d ∧ RepD noX w x ((cs.drop (i * z)).take z) ∧ okD P n e x ∧ x.size = z ∧ RelD x d) →
    ∃ xs, RepL noX w xs cs ∧ xs.length = m ∧ (∀ x, x ∈ xs → okD P n e x) ∧ (∀ x, x ∈ xs → x.size = z) ∧ RelL xs ds
  | 0, cs, ds, hc, hd, _ => by
    have : cs = [] := List.eq_nil_of_length_eq_zero (by simpa using hc)
    subst this
    have : ds = [] := List.eq_nil_of_length_eq_zero hd
    subst this
    exact ⟨[], .nil, rfl, fun x h => by simp at h, fun x h => by simp at h, .nil⟩
  | m + 1, cs, ds, hc, hd, h => by
    cases ds with
    | nil => cases hd
    | cons d ds =>
      obtain ⟨d', x, h1, h2, h3, h4, h5⟩ := h 0 (Nat.succ_pos _)
      simp only [List.getElem?_cons_zero, Option.some.injEq] at h1
      subst h1
      simp only [Nat.zero_mul, List.drop_zero] at h2
      have hlen : (cs.drop z).length = m * z := by rw [List.length_drop, hc, Nat.succ_mul]; omega
      obtain ⟨xs, k1, k2, k3, k4, k5⟩ := row_rep m (cs.drop z) ds hlen (by simpa using hd) (fun i hi => by
        obtain ⟨d', x, g1, g2, g3, g4, g5⟩ := h (i + 1) (by omega)
        refine ⟨d', x, by simpa using g1, ?_, g3, g4, g5⟩
        rw [List.drop_drop]
        rw [show z + i * z = (i + 1) * z by rw [Nat.succ_mul]; omega]
        exact g2)
      refine ⟨x :: xs, ?_, by simp [k2], fun y hy => ?_, fun y hy => ?_, .cons h5 k5⟩
      · have : cs = cs.take z ++ cs.drop z := (List.take_append_drop z cs).symm
        rw [this]
        exact .cons h2 k1
      · rcases List.mem_cons.1 hy with rfl | hy
        · exact h3
        · exact k3 y hy
      · rcases List.mem_cons.1 hy with rfl | hy
        · exact h4
        · exact k4 y hy
theorem elems_rep {e : TypeId} {n z b : Nat} : ∀ (m off : Nat) (ds : List (DataW H)), ds.length = m →
    (∀ i, i < m → ∃ d x c, ds[i]? = some d ∧ RowAt w b (off + i * z) c ∧ RepD noX w x c ∧ okD P n e x ∧ x.size = z ∧ RelD x d) →
    ∃ xs cs, RowAt w b off cs ∧ RepL noX w xs cs ∧ xs.length = m ∧ (∀ x, x ∈ xs → okD P n e x) ∧ (∀ x, x ∈ xs → x.size = z) ∧ RelL xs ds
  | 0, off, ds, hd, _ => by
    have : ds = [] := List.eq_nil_of_length_eq_zero hd
    subst this
    exact ⟨[], [], fun i v h => by simp at h, .nil, rfl, fun x h => by simp at h, fun x h => by simp at h, .nil⟩
  | m + 1, off, ds, hd, h => by
    cases ds with
    | nil => cases hd
    | cons d ds =>
      obtain ⟨d', x, c, h1, h2, h3, h4, h5, h6⟩ := h 0 (Nat.succ_pos _)
      simp only [List.getElem?_cons_zero, Option.some.injEq] at h1
      subst h1
      obtain ⟨xs, cs, k1, k2, k3, k4, k5, k6⟩ := elems_rep m (off + z) ds (by simpa using hd) (fun i hi => by
        obtain ⟨d', x, c, g1, g2, g3, g4, g5, g6⟩ := h (i + 1) (by omega)
        refine ⟨d', x, c, by simpa using g1, ?_, g3, g4, g5, g6⟩
        rw [show off + z + i * z = off + (i + 1) * z by rw [Nat.succ_mul]; omega]
        exact g2)
      have hl : c.length = z := by rw [h3.length, h5]
      refine ⟨x :: xs, c ++ cs, fun i v hv => ?_, .cons h3 k2, by simp [k3], fun y hy => ?_, fun y hy => ?_, .cons h6 k6⟩
      · by_cases hi : i < c.length
        · rw [List.getElem?_append_left hi] at hv
          have := h2 i v hv
          simpa using this
        · rw [List.getElem?_append_right (by omega)] at hv
          have := k1 _ v hv
          rw [show off + z + (i - c.length) = off + i by omega] at this
          exact this
      · rcases List.mem_cons.1 hy with rfl | hy
        · exact h4
        · exact k4 y hy
      · rcases List.mem_cons.1 hy with rfl | hy
        · exact h5
        · exact k5 y hy
theorem fields_rep {n : Nat} {all : List Value} (ih : ∀ (t : TypeId) (cs : List Value) (r : DataW H × List MemPlace), plainT P n t = true → (∃ fuel, DataW.trod enc P w 0 sp held fuel t cs = some r) → ∃ x, RepD noX w x cs ∧ okD P n t x ∧ x.size = P.cellsOf t ∧ RelD x r.1) :
    ∀ (fs : List Field) (o : Nat) (rs : List (DataW H × List MemPlace)), contig P o fs = true → (∀ f, f ∈ fs → plainT P n f.type = true) → o + widths P fs = all.length → rs.length = fs.length →
      (∀ (i : Nat) (f : Field), fs[i]? = some f → ∃ r fuel, rs[i]? = some r ∧ DataW.trod enc P w 0 sp held fuel f.type ((all.drop f.offset).take (P.cellsOf f.type)) = some r) →
      ∃ xs, RepL noX w xs (all.drop o) ∧ okAll (okD P n) (fs.map (·.type)) xs ∧ D.sizes xs = widths P fs ∧ RelL xs (rs.map (·.1))
  | [], o, rs, _, _, hl, hr, _ => by
    have : rs = [] := List.eq_nil_of_length_eq_zero (by simpa using hr)
    subst this
    refine ⟨[], ?_, trivial, rfl, .nil⟩
    rw [List.drop_of_length_le (by simp only [widths] at hl; omega)]; exact .nil
  | f :: fs, o, rs, hc, hp, hl, hr, h => by
    simp only [contig, Bool.and_eq_true] at hc
    have ho := Nat.eq_of_beq_eq_true hc.1
    cases rs with
    | nil => simp at hr
    | cons r rs =>
      obtain ⟨r', fuel, h1, h2⟩ := h 0 f rfl
      simp only [List.getElem?_cons_zero, Option.some.injEq] at h1
      subst h1
      obtain ⟨x, k1, k2, k3, k4⟩ := ih _ _ _ (hp f (by simp)) ⟨fuel, h2⟩
      simp only [widths] at hl
      obtain ⟨xs, m1, m2, m3, m4⟩ := fields_rep (all := all) ih fs (o + P.cellsOf f.type) rs hc.2 (fun g hg => hp g (by simp [hg])) (by omega) (by simpa using hr) (fun i g hg => by
        obtain ⟨r', fuel, q1, q2⟩ := h (i + 1) g (by simpa using hg)
        exact ⟨r', fuel, by simpa using q1, q2⟩)
      refine ⟨x :: xs, ?_, ⟨k2, m2⟩, by simp only [D.sizes, widths, k3, m3], .cons k4 m4⟩
      have : all.drop o = (all.drop o).take (P.cellsOf f.type) ++ all.drop (o + P.cellsOf f.type) := by
        rw [← List.drop_drop, List.take_append_drop]
      rw [this]
      rw [ho] at k1
      exact .cons k1 m1
theorem trod_rep : ∀ (n : Nat) (t : TypeId) (cs : List Value) (r : DataW H × List MemPlace), plainT P n t = true → (∃ fuel, DataW.trod enc P w 0 sp held fuel t cs = some r) → ∃ x, RepD noX w x cs ∧ okD P n t x ∧ x.size = P.cellsOf t ∧ RelD x r.1
  | 0, t, cs, r, hp, _ => by simp [plainT] at hp
  | n + 1, t, cs, r, hp, ⟨fuel, h⟩ => by
    cases fuel with
    | zero => simp [DataW.trod] at h
    | succ fuel =>
      have ih := trod_rep n
      simp only [plainT] at hp
      simp only [okD]
      unfold DataW.trod at h
      split at hp <;> try (cases hp; done)
      · rename_i hu
        simp only [hu] at h ⊢
        split at h <;> try (cases h; done)
        all_goals try (rename_i heq; cases heq; done)
        rename_i b heq
        cases h
        exact ⟨.bool b, .bool b, ⟨b, rfl⟩, (Nat.eq_of_beq_eq_true hp).symm, .bool b⟩
      · rename_i k hu
        simp only [hu] at h ⊢
        split at h <;> try (cases h; done)
        all_goals try (rename_i heq; cases heq; done)
        all_goals try (rename_i heq _; cases heq; done)
        rename_i k1 k2 m heq
        split at h <;> cases h
        rename_i hk
        cases heq
        obtain ⟨rfl, hw⟩ := hk
        exact ⟨.int _ m, .int _ m, ⟨m, rfl, hw⟩, (Nat.eq_of_beq_eq_true hp).symm, .int _ m⟩
      · rename_i hu
        simp only [hu] at h ⊢
        split at h <;> try (cases h; done)
        all_goals try (rename_i heq; cases heq; done)
        all_goals try (rename_i heq _; cases heq; done)
        rename_i q heq
        split at h <;> cases h
        rename_i hk
        exact ⟨.str q, .str q, ⟨q, rfl, hk⟩, (Nat.eq_of_beq_eq_true hp).symm, .str q⟩
      · rename_i fs hu
        simp only [hu] at h ⊢
        simp only [Bool.and_eq_true, List.all_eq_true] at hp
        obtain ⟨⟨p1, p2⟩, p3⟩ := hp
        have p2 := Nat.eq_of_beq_eq_true p2
        split at h <;> try (cases h; done)
        all_goals try (rename_i heq; cases heq; done)
        all_goals try (rename_i heq _; cases heq; done)
        rename_i hlen
        cases hm : fs.toList.mapM (fun f => DataW.trod enc P w 0 sp held fuel f.type ((cs.drop f.offset).take (P.cellsOf f.type))) with
        | none => rw [hm] at h; cases h
        | some rs =>
          rw [hm] at h
          simp only [Option.map_some, Option.some.injEq] at h
          subst h
          obtain ⟨m1, m2⟩ := mapM_some hm
          obtain ⟨xs, k1, k2, k3, k4⟩ := fields_rep (all := cs) ih fs.toList 0 rs p1 p3 (by omega) m1 (fun i f hf => by
            obtain ⟨y, y1, y2⟩ := m2 i f hf
            exact ⟨y, fuel, y1, y2⟩)
          rw [List.drop_zero] at k1
          exact ⟨.st xs, .st k1, ⟨xs, rfl, k2⟩, by rw [p2, ← k3]; rfl, .st k4⟩
      · rename_i m e hu
        simp only [hu] at h ⊢
        simp only [Bool.and_eq_true] at hp
        obtain ⟨p1, p2⟩ := hp
        have p1 := Nat.eq_of_beq_eq_true p1
        split at h <;> try (cases h; done)
        all_goals try (rename_i heq; cases heq; done)
        all_goals try (rename_i heq _; cases heq; done)
        rename_i hlen
        cases hm : (List.range m).mapM (fun i => DataW.trod enc P w 0 sp held fuel e ((cs.drop (i * P.cellsOf e)).take (P.cellsOf e))) with
        | none => rw [hm] at h; cases h
        | some rs =>
          rw [hm] at h
          simp only [Option.map_some, Option.some.injEq] at h
          subst h
          obtain ⟨m1, m2⟩ := mapM_some hm
          obtain ⟨xs, k1, k2, k3, k4, k5⟩ := row_rep (e := e) (n := n) m cs (rs.map (·.1)) (by rw [hlen, p1]) (by simpa using m1) (fun i hi => by
            obtain ⟨y, y1, y2⟩ := m2 i i (by simp [hi])
            obtain ⟨x, q1, q2, q3, q4⟩ := ih e _ y p2 ⟨fuel, y2⟩
            exact ⟨y.1, x, by simp [y1], q1, q2, q3, q4⟩)
          exact ⟨.arr m (P.cellsOf e) xs, .arr k2 k4 k1, ⟨xs, rfl, k2, k3⟩, by rw [p1]; rfl, .arr k5⟩
      · rename_i e hu
        simp only [hu] at h ⊢
        simp only [Bool.and_eq_true] at hp
        obtain ⟨⟨p1, p3⟩, p2⟩ := hp
        have p1 := Nat.eq_of_beq_eq_true p1
        have p3 : 0 < P.cellsOf e := by simpa using p3
        split at h <;> try (cases h; done)
        all_goals try (rename_i heq; cases heq; done)
        all_goals try (rename_i heq _; cases heq; done)
        · cases h
          exact ⟨.sl [], .slnil, ⟨[], rfl, Nat.zero_le _, fun y hy => by simp at hy⟩, p1.symm, .slnil⟩
        · rename_i e' ad len cap heq
          cases heq
          split at h <;> try (cases h; done)
          rename_i hb
          obtain ⟨_, hlc, hcm⟩ := hb
          cases hm : (List.range len).mapM (fun i => (w.cells? 0 (ad.add (i * P.cellsOf e)) (P.cellsOf e)).bind (DataW.trod enc P w 0 sp held fuel e)) with
          | none => rw [hm] at h; cases h
          | some rs =>
            rw [hm, Option.bind_some, Option.map_eq_some_iff] at h
            obtain ⟨rest, _, rfl⟩ := h
            obtain ⟨m1, m2⟩ := mapM_some hm
            have m1 : rs.length = len := by simpa using m1
            by_cases hl : len = 0
            · subst hl
              have : rs = [] := List.eq_nil_of_length_eq_zero m1
              subst this
              exact ⟨.sl [], .slnil, ⟨[], rfl, Nat.zero_le _, fun y hy => by simp at hy⟩, p1.symm, .sl .nil⟩
            · have el : ∀ i, i < len → ∃ y cs, rs[i]? = some y ∧ w.cells? 0 (ad.add (i * P.cellsOf e)) (P.cellsOf e) = some cs ∧ DataW.trod enc P w 0 sp held fuel e cs = some y := fun i hi => by
                obtain ⟨y, y1, y2⟩ := m2 i i (by simp [hi])
                rw [Option.bind_eq_some_iff] at y2
                obtain ⟨cs, c1, c2⟩ := y2
                exact ⟨y, cs, y1, c1, c2⟩
              have h0 : ad.spot = none ∧ ad.block < w.heap.size := by
                obtain ⟨y, cs, _, c1, _⟩ := el 0 (by omega)
                obtain ⟨d1, d2⟩ := cells?_row c1
                cases cs with
                | nil => simp at d1; omega
                | cons v cs =>
                  have := d2 0 v rfl
                  have e0 : ((ad.add (0 * P.cellsOf e)).add 0) = ad := by simp [Addr.add]
                  rw [e0] at this
                  unfold World.cell? at this
                  split at this
                  · rename_i hh
                    refine ⟨?_, (Array.getElem?_eq_some_iff.1 hh).1⟩
                    split at this
                    · cases this
                    · rename_i hs
                      cases hsp : ad.spot with
                      | none => rfl
                      | some _ => rw [hsp] at hs; simp at hs
                  · cases this
              obtain ⟨ab, ao, as⟩ := ad
              obtain ⟨rfl, hlt⟩ := h0
              obtain ⟨xs, cs, k1, k2, k3, k4, k5, k6⟩ := elems_rep (e := e) (n := n) (z := P.cellsOf e) (b := ab) len ao (rs.map (·.1)) (by simpa using m1) (fun i hi => by
                obtain ⟨y, cs, y1, c1, c2⟩ := el i hi
                obtain ⟨d1, d2⟩ := cells?_row c1
                obtain ⟨x, q1, q2, q3, q4⟩ := ih e _ y p2 ⟨fuel, c2⟩
                refine ⟨y.1, x, cs, by simp [y1], fun j v hv => ?_, q1, q2, q3, q4⟩
                have := d2 j v hv
                rw [addr_add, addr_add] at this
                exact this)
              subst k3
              exact ⟨.sl xs, .sl (fun h => h) hlt k5 hlc k1 k2, ⟨xs, rfl, by omega, k4⟩, p1.symm, .sl k6⟩
end
end Go.Sym
