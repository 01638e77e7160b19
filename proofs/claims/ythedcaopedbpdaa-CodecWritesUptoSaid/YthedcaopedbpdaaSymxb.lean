/-
A function that takes a slice of its own takes nil too.
-/
import Derived.Test.YthedcaopedbpdaaSymx
namespace Go.Sym

theorem HSim.withNil {hp : Nat → Option AObj} {ρ : Nat → Option Nat} {X : Nat → Prop} {w : World} {o e : Nat} (hs : HSim hp ρ X w) (ho : hp o = none) :
    HSim (wr hp [(o, .row e [])]) (fun n => bif o.beq n then none else ρ n) X w := by
  have hlk : ∀ n x, wr hp [(o, .row e [])] n = some x → (n = o ∧ x = .row e []) ∨ (n ≠ o ∧ hp n = some x) := fun n x h => by
    by_cases hn : n = o
    · subst hn; simp [wr, lkp] at h; exact .inl ⟨rfl, h.symm⟩
    · have : (o.beq n) = false := by
        cases hb : o.beq n with
        | true => exact absurd (Nat.eq_of_beq_eq_true hb).symm hn
        | false => rfl
      simp [wr, lkp, this] at h; exact .inr ⟨hn, h⟩
  have hρ : ∀ n, n ≠ o → (fun n => bif o.beq n then none else ρ n : Nat → Option Nat) n = ρ n := fun n hn => by
    have : (o.beq n) = false := by
      cases hb : o.beq n with
      | true => exact absurd (Nat.eq_of_beq_eq_true hb).symm hn
      | false => rfl
    simp [this]
  have hρo : (fun n => bif o.beq n then none else ρ n : Nat → Option Nat) o = none := by simp
  have g : Goes ρ (fun n => bif o.beq n then none else ρ n) X X (fun _ => False) w w := ⟨.refl _ _, fun _ _ _ h => h, fun _ _ h => h⟩
  have hne : ∀ n, hp n ≠ none → n ≠ o := fun n h he => h (by rw [he]; exact ho)
  refine ⟨fun n x h => ?_, fun n n' x x' b h1 h2 h3 h4 h5 h6 => ?_, fun n x b h1 h2 h3 => ?_, fun n x h1 n' hn' => ?_⟩
  · rcases hlk n x h with ⟨rfl, rfl⟩ | ⟨q1, q2⟩
    · exact .inl ⟨hρo, rfl⟩
    · exact (hs.objs n x q2).mono g (hρ n q1) (fun _ _ => rfl) (fun m hm => hρ m (hne m (hs.closed n x q2 m hm)))
  · rcases hlk n x h1 with ⟨rfl, rfl⟩ | ⟨q1, q2⟩
    · exact absurd (hρo.symm.trans h5) (by simp)
    · rcases hlk n' x' h3 with ⟨rfl, rfl⟩ | ⟨q3, q4⟩
      · exact absurd (hρo.symm.trans h6) (by simp)
      · exact hs.inj n n' x x' b q2 h2 q4 h4 ((hρ n q1).symm.trans h5) ((hρ n' q3).symm.trans h6)
  · rcases hlk n x h1 with ⟨rfl, rfl⟩ | ⟨q1, q2⟩
    · exact absurd (hρo.symm.trans h3) (by simp)
    · exact hs.own n x b q2 h2 ((hρ n q1).symm.trans h3)
  · rcases hlk n x h1 with ⟨rfl, rfl⟩ | ⟨q1, q2⟩
    · cases hn'
    · exact wr_ne (hs.closed n x q2 n' hn')

theorem wr_wr {hp : Nat → Option AObj} {o : Nat} {x : AObj} {ws : List (Nat × AObj)} (h : hasKey ws o = true) : wr (wr hp [(o, x)]) ws = wr hp ws := by
  funext n
  unfold wr
  cases hl : lkp ws n with
  | some y => rfl
  | none =>
    have hn : (o.beq n) = false := by
      cases hb : o.beq n with
      | true =>
        have := Nat.eq_of_beq_eq_true hb
        subst this
        unfold hasKey at h
        rw [hl] at h; cases h
      | false => rfl
    simp [lkp, hn]

theorem local_nil {P : Program} {f : FuncId} {xs : List AV} {pre : List (Nat × AObj)} {nw : List Nat} {r : AV} {ws : List (Nat × AObj)} (o e : Nat) (h : LocalCall P f (.sl o [] e 0 0 :: xs) ((o, .row e []) :: pre) nw r ws)
    (hk : hasKey ws o = true) (hpr : pre.all (fun p => !(p.1.beq o)) = true) (hnw : nw.all (fun n => !(n.beq o)) = true) : LocalCall P f (.d .nils :: xs) pre (o :: nw) r ws := by
  intro hp h1 h2 ρ X w vs hs hr hn
  have ho : hp o = none := h2 o (by simp)
  have hw : ∀ n, n ≠ o → wr hp [(o, .row e [])] n = hp n := fun n hne => by
    have : (o.beq n) = false := by
      cases hb : o.beq n with
      | true => exact absurd (Nat.eq_of_beq_eq_true hb).symm hne
      | false => rfl
    simp [wr, lkp, this]
  have hρ : ∀ n, n ≠ o → (fun n => bif o.beq n then none else ρ n : Nat → Option Nat) n = ρ n := fun n hne => by
    have : (o.beq n) = false := by
      cases hb : o.beq n with
      | true => exact absurd (Nat.eq_of_beq_eq_true hb).symm hne
      | false => rfl
    simp [this]
  have hρo : (fun n => bif o.beq n then none else ρ n : Nat → Option Nat) o = none := by simp
  have hs2 := hs.withNil (e := e) ho
  have g : Goes ρ (fun n => bif o.beq n then none else ρ n) X X (fun _ => False) w w := ⟨.refl _ _, fun _ _ _ h => h, fun _ _ h => h⟩
  have hne : ∀ n, hp n ≠ none → n ≠ o := fun n h he => h (by rw [he]; exact ho)
  have hr2 : RepT (fun n => bif o.beq n then none else ρ n) X w (.sl o [] e 0 0 :: xs) vs := by
    cases vs with
    | nil => exact hr.elim
    | cons v vs =>
      obtain ⟨⟨cs, k1, k2⟩, k3⟩ := hr
      refine ⟨?_, k3.mono g fun n hm => hρ n (hne n (hn n (by simpa [AV.namesL, AV.names] using hm)))⟩
      cases k1 with
      | d k1 => cases k1; exact ⟨_, .slnil hρo, k2⟩
  have key := h (wr hp [(o, .row e [])]) (fun p hp' => by
      rcases List.mem_cons.1 hp' with rfl | hp'
      · simp [wr, lkp]
      · rw [hw _ (fun he => by have := List.all_eq_true.1 hpr p hp'; simp [he] at this)]
        exact h1 p hp')
    (fun n hn' => by
      rw [hw n (fun he => by have := List.all_eq_true.1 hnw n hn'; simp [he] at this)]
      exact h2 n (by simp [hn'])) _ X w vs hs2 hr2 (fun n hm => by
        simp only [AV.namesL, AV.names, List.mem_append, List.mem_singleton] at hm
        rcases hm with rfl | hm
        · simp [wr, lkp]
        · exact wr_ne (hn n (by simpa [AV.namesL, AV.names] using hm)))
  rw [wr_wr hk] at key
  refine key.mono fun e' w' ⟨v, e1, ρ', X', k1, k2, k3, k4⟩ => ⟨v, e1, ρ', X', k1, ⟨k2.ext.mono fun b _ hb => ?_, fun b hb => ⟨(k2.xs b hb).1, fun hx => ?_⟩, fun n x b q1 q2 q3 => ?_, fun n hn' => ?_⟩, k3, k4⟩
  all_goals
    have conv : ∀ b, (∃ n x, wr hp [(o, .row e [])] n = some x ∧ x.alive = true ∧ (fun n => bif o.beq n then none else ρ n : Nat → Option Nat) n = some b) → ∃ n x, hp n = some x ∧ x.alive = true ∧ ρ n = some b := fun b ⟨n, x, q1, q2, q3⟩ => by
      by_cases hn : n = o
      · subst hn; exact absurd (hρo.symm.trans q3) (by simp)
      · exact ⟨n, x, (hw n hn).symm.trans q1, q2, (hρ n hn).symm.trans q3⟩
  · exact conv b hb
  · exact ((k2.xs b hb).2 hx).imp id (conv b)
  · exact (k2.own n x b q1 q2 q3).imp id (conv b)
  · rw [k2.same n (wr_ne hn')]; exact hρ n (hne n hn')

end Go.Sym
