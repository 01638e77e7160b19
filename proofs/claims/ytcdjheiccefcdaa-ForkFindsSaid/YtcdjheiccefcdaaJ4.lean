import Derived.Test.YtcdjheiccefcdaaJ3
import Derived.Below
import Derived.Laws.Sem
import Derived.Tactics
import GoSem.ClaimChange
import Derived.WideKeyArgs
import Derived.RowKit
import Derived.ChangeOld
set_option linter.unusedSimpArgs false
set_option linter.unusedVariables false
/-
Control: what is asked of a body ('wpC'), and that it serves.
-/
set_option linter.unusedSimpArgs false
set_option linter.unusedVariables false
namespace Go.Sym

inductive AExit where
  | normal
  | ret
  | exit (id : Nat)
  | goto (l : Nat)

/-! ### Renamed frames -/

def renN (m : List (Nat × Nat)) (o : Nat) : Nat := match lkp m o with
  | some o' => o'
  | none => o

mutual
def AV.ren (m : List (Nat × Nat)) : AV → AV
  | .ptr o p => .ptr (renN m o) p
  | .sl o p e off len => .sl (renN m o) p e off len
  | .st fs => .st (AV.rens m fs)
  | .fn f cs => .fn f (AV.rens m cs)
  | .tup vs => .tup (AV.rens m vs)
  | .d x => .d x
  | .dptr x => .dptr x
  | .top => .top
  | .cst v => .cst v
def AV.rens (m : List (Nat × Nat)) : List AV → List AV
  | [] => []
  | x :: xs => AV.ren m x :: AV.rens m xs
end

def AObj.ren (m : List (Nat × Nat)) : AObj → AObj
  | .var x => .var (x.ren m)
  | .row e xs => .row e xs
  | .dead => .dead

theorem AV.ren_agg (m : List (Nat × Nat)) (x : AV) : (x.ren m).isAgg = x.isAgg := by cases x <;> simp only [AV.ren, AV.isAgg]

mutual
theorem RepC.ren {m : List (Nat × Nat)} {ρ : Nat → Option Nat} {X : Nat → Prop} {w : World} : ∀ {x : AV} {cs : List Value}, RepC ρ X w (x.ren m) cs → RepC (fun o => ρ (renN m o)) X w x cs
  | .d x, cs, h => by
    simp only [AV.ren] at h
    cases h with
    | d h => exact .d h
  | .ptr o p, cs, h => by
    simp only [AV.ren] at h
    cases h with
    | ptr _ h => exact .ptr p h
  | .sl o p e off len, cs, h => by
    simp only [AV.ren] at h
    cases h with
    | sl h0 h1 h2 h3 h4 => exact .sl h0 h1 h2 h3 h4
    | slnil h => exact .slnil h
  | .st fs, cs, h => by
    simp only [AV.ren] at h
    cases h with
    | st h => exact .st (RepCs.ren h)
  | .dptr x, cs, h => by
    simp only [AV.ren] at h
    cases h with
    | dptr h1 h2 h3 h4 => exact .dptr h1 h2 h3 h4
  | .fn f fs, cs, h => by
    simp only [AV.ren] at h
    cases h with
    | fn h => exact .fn (RepCs.ren h)
  | .tup vs, cs, h => by
    simp only [AV.ren] at h
    cases h
  | .top, cs, h => by
    simp only [AV.ren] at h
    cases h with
    | top h => exact .top h
  | .cst v, cs, h => by
    simp only [AV.ren] at h
    cases h with
    | cst h => exact .cst h
theorem RepCs.ren {m : List (Nat × Nat)} {ρ : Nat → Option Nat} {X : Nat → Prop} {w : World} : ∀ {xs : List AV} {cs : List Value}, RepCs ρ X w (AV.rens m xs) cs → RepCs (fun o => ρ (renN m o)) X w xs cs
  | [], cs, h => by
    simp only [AV.rens] at h
    cases h; exact .nil
  | x :: xs, cs, h => by
    simp only [AV.rens] at h
    cases h with
    | cons h hs => exact .cons (RepC.ren h) (RepCs.ren hs)
end

theorem RepA1.ren {m : List (Nat × Nat)} {ρ : Nat → Option Nat} {X : Nat → Prop} {w : World} {x : AV} {v : Value} (h : RepA1 ρ X w (x.ren m) v) : RepA1 (fun o => ρ (renN m o)) X w x v := by
  obtain ⟨cs, h1, h2⟩ := h
  rw [AV.ren_agg] at h2
  exact ⟨cs, h1.ren, h2⟩

theorem RepT.ren {m : List (Nat × Nat)} {ρ : Nat → Option Nat} {X : Nat → Prop} {w : World} : ∀ {xs : List AV} {vs : List Value}, RepT ρ X w (AV.rens m xs) vs → RepT (fun o => ρ (renN m o)) X w xs vs
  | [], [], _ => trivial
  | [], _ :: _, h => by simp only [AV.rens] at h; exact h.elim
  | _ :: _, [], h => by simp only [AV.rens] at h; exact h.elim
  | _ :: _, _ :: _, h => by
    simp only [AV.rens] at h
    exact ⟨h.1.ren, RepT.ren h.2⟩

theorem RepA.ren {m : List (Nat × Nat)} {ρ : Nat → Option Nat} {X : Nat → Prop} {w : World} {x : AV} {v : Value} (h : RepA ρ X w (x.ren m) v) : RepA (fun o => ρ (renN m o)) X w x v := by
  cases x <;> simp only [AV.ren] at h
  case top => trivial
  case tup vs => obtain ⟨us, h1, h2⟩ := h; exact ⟨us, h1, h2.ren⟩
  all_goals
    refine RepA1.ren (m := m) ?_
    simp only [AV.ren]
    exact h

theorem ObjAt.ren {m : List (Nat × Nat)} {ρ : Nat → Option Nat} {X : Nat → Prop} {w : World} {o : Nat} {x : AObj} (h : ObjAt ρ X w (renN m o) (x.ren m)) : ObjAt (fun o => ρ (renN m o)) X w o x := by
  cases x with
  | var x => obtain ⟨b, cs, T, z, h0, h1, h2, h3⟩ := h; exact ⟨b, cs, T, z, h0, h1, h2, h3.ren⟩
  | row e xs => exact h
  | dead => trivial

theorem AObj.ren_alive (m : List (Nat × Nat)) (x : AObj) : (x.ren m).alive = x.alive := by cases x <;> rfl

def mkSt (n : Nat) (sl : List (Nat × AV)) (hp : List (Nat × AObj)) : St :=
  ⟨n, fun t => match lkp sl t with
    | some x => x
    | none => .top, fun o => lkp hp o⟩

/-- Are two values one? What is left of that to be shown. -/
def eqAV : AV → AV → Prop
  | .d x, .d y => Side (x = y)
  | .dptr x, .dptr y => Side (x = y)
  | .ptr o p, .ptr o' p' => bif o.beq o' then Side (p = p') else False
  | .sl o p e off len, .sl o' p' e' off' len' => bif o.beq o' && e.beq e' then Side (p = p') ∧ Side (off = off') ∧ Side (len = len') else False
  | .fn f cs, .fn f' cs' => Side (AV.fn f cs = .fn f' cs')
  | .top, .top => True
  | x, y => Side (x = y)

theorem eqAV_spec {x y : AV} (h : eqAV x y) : x = y := by
  unfold eqAV at h
  split at h
  · rw [Side_eq] at h; rw [h]
  · rw [Side_eq] at h; rw [h]
  · rename_i o p o' p'
    cases hb : o.beq o' <;> simp only [hb, cond_true, cond_false] at h
    rw [Side_eq] at h
    rw [h, Nat.eq_of_beq_eq_true hb]
  · rename_i o p e off len o' p' e' off' len'
    cases hb : o.beq o' <;> cases hc : e.beq e' <;> simp only [hb, hc, Bool.and_true, Bool.and_false, cond_true, cond_false] at h
    simp only [Side_eq] at h
    rw [h.1, h.2.1, h.2.2, Nat.eq_of_beq_eq_true hb, Nat.eq_of_beq_eq_true hc]
  · rw [Side_eq] at h; exact h
  · rfl
  · rw [Side_eq] at h; exact h

def eqObj : AObj → AObj → Prop
  | .var x, .var y => eqAV x y
  | .row e xs, .row e' ys => bif e.beq e' then Side (xs = ys) else False
  | .dead, .dead => True
  | _, _ => False

theorem eqObj_spec {x y : AObj} (h : eqObj x y) : x = y := by
  unfold eqObj at h
  split at h
  · rw [eqAV_spec h]
  · rename_i e xs e' ys
    cases hb : e.beq e' <;> simp only [hb, cond_true, cond_false] at h
    rw [Side_eq] at h
    rw [h, Nat.eq_of_beq_eq_true hb]
  · rfl
  · exact h.elim

def wkSl (S : St) (m : List (Nat × Nat)) : List (Nat × AV) → Prop
  | [] => True
  | (t, v) :: l => eqAV (S.sl t) (v.ren m) ∧ wkSl S m l

def wkHp (S : St) (m : List (Nat × Nat)) : List (Nat × AObj) → Prop
  | [] => True
  | (o, x) :: l => (match S.hp (renN m o) with
    | some y => eqObj y (x.ren m)
    | none => False) ∧ wkHp S m l

theorem wkSl_spec {S : St} {m : List (Nat × Nat)} : ∀ {l : List (Nat × AV)}, wkSl S m l → ∀ t v, (t, v) ∈ l → S.sl t = v.ren m
  | [], _, _, _, h => by cases h
  | (t', v') :: l, h, t, v, hm => by
    rcases List.mem_cons.1 hm with he | hm
    · cases he; exact eqAV_spec h.1
    · exact wkSl_spec h.2 t v hm

theorem wkHp_spec {S : St} {m : List (Nat × Nat)} : ∀ {l : List (Nat × AObj)}, wkHp S m l → ∀ o x, (o, x) ∈ l → S.hp (renN m o) = some (x.ren m)
  | [], _, _, _, h => by cases h
  | (o', x') :: l, h, o, x, hm => by
    rcases List.mem_cons.1 hm with he | hm
    · cases he
      have h1 := h.1
      split at h1
      · rename_i y hy; rw [hy, eqObj_spec h1]
      · exact h1.elim
    · exact wkHp_spec h.2 o x hm

def hasKey {α : Type} (l : List (Nat × α)) (n : Nat) : Bool := (lkp l n).isSome

/-- The names of a renamed frame are well chosen. -/
def wkOK (en : List Nat) (m : List (Nat × Nat)) (sl : List (Nat × AV)) (hp : List (Nat × AObj)) : Bool :=
  sl.all (fun p => p.2.names.all (hasKey hp)) && hp.all (fun p => p.2.names.all (hasKey hp)) &&
  hp.all (fun p => hp.all fun q => p.1.beq q.1 || !(renN m p.1).beq (renN m q.1)) && en.all (fun n => (renN m n).beq n && hasKey hp n)

/-- What a frame may be taken for. -/
structure Weak (en : List Nat) (S : St) (sl : List (Nat × AV)) (hp : List (Nat × AObj)) : Prop where
  h : ∃ m, Chk (wkOK en m sl hp) ∧ wkSl S m sl ∧ wkHp S m hp

theorem InvAt.weakAt {E : Ent} {S : St} {ρ : Nat → Option Nat} {X : Nat → Prop} {a : Act} {w : World} {en : List Nat} {m : List (Nat × Nat)} {sl : List (Nat × AV)} {hp : List (Nat × AObj)} (hA : InvAt E S ρ X a w) (hen : ∀ n, E.hp n ≠ none → n ∈ en) (h1 : wkOK en m sl hp = true) (h2 : wkSl S m sl) (h3 : wkHp S m hp) :
    InvAt E (mkSt S.n sl hp) (fun o => ρ (renN m o)) X a w := by
  simp only [wkOK, Bool.and_eq_true, List.all_eq_true, Bool.or_eq_true, Bool.not_eq_true', hasKey, Option.isSome_iff_ne_none] at h1
  obtain ⟨⟨⟨k1, k2⟩, k3⟩, k4⟩ := h1
  have hs := hA.sim
  have hobj : ∀ o x, (mkSt S.n sl hp).hp o = some x → S.hp (renN m o) = some (x.ren m) := fun o x h => wkHp_spec h3 o x (lkp_mem h)
  refine ⟨⟨hs.n, fun t v ht => ?_, fun o x h => ?_, fun o o' x x' b e1 e2 e3 e4 e5 e6 => ?_, fun o x b e1 e2 e3 => ?_, fun t o ho => ?_, fun o x h o' ho' => ?_⟩,
    hA.ext, hA.xs, fun o x b e1 e2 e3 => ?_, fun n hn => ?_, hA.marks⟩
  · show RepA _ X w (match lkp sl t with | some x => x | none => .top) v
    cases hl : lkp sl t with
    | none => trivial
    | some x =>
      refine RepA.ren (m := m) ?_
      rw [← wkSl_spec h2 t x (lkp_mem hl)]
      exact hs.slots t v ht
  · exact ObjAt.ren (hs.objs _ _ (hobj o x h))
  · have := hs.inj _ _ _ _ b (hobj o x e1) (by rw [AObj.ren_alive]; exact e2) (hobj o' x' e3) (by rw [AObj.ren_alive]; exact e4) e5 e6
    rcases k3 _ (lkp_mem e1) _ (lkp_mem e3) with h | h
    · exact Nat.eq_of_beq_eq_true h
    · simp only at h
      rw [this] at h; simp at h
  · exact hs.own _ _ b (hobj o x e1) (by rw [AObj.ren_alive]; exact e2) e3
  · have ho : o ∈ (match lkp sl t with | some x => x | none => .top : AV).names := ho
    cases hl : lkp sl t with
    | none => rw [hl] at ho; cases ho
    | some x => rw [hl] at ho; exact k1 _ (lkp_mem hl) o ho
  · exact k2 _ (lkp_mem h) o' ho'
  · exact hA.own _ _ b (hobj o x e1) (by rw [AObj.ren_alive]; exact e2) e3
  · obtain ⟨q1, q2⟩ := k4 n (hen n hn)
    have q1 := Nat.eq_of_beq_eq_true q1
    refine ⟨q2, ?_⟩
    show ρ (renN m n) = _
    rw [q1]; exact (hA.same n hn).2

theorem Inv.weak {E : Ent} {S : St} {a : Act} {w : World} {en : List Nat} {sl : List (Nat × AV)} {hp : List (Nat × AObj)} (hI : Inv E S a w) (hen : ∀ n, E.hp n ≠ none → n ∈ en) (h : Weak en S sl hp) : Inv E (mkSt S.n sl hp) a w := by
  obtain ⟨m, h1, h2, h3⟩ := h.h
  rw [Chk_eq] at h1
  obtain ⟨ρ, X, hA⟩ := hI
  exact ⟨_, X, hA.weakAt hen h1 h2 h3⟩

/-! ### What is owned given up for data -/

/-- A slot's slice given a name of its own ('nm * 1000000 + e * 1000 + t'): nil owns a row of nothing. -/
def ownK (nm e t : Nat) (S : St) (k : AV → List (Nat × AObj) → Prop) : Prop := match S.hp nm with
  | some _ => False
  | none => match S.sl t with
    | .d .nils => k (.sl nm [] e 0 0) [(nm, .row e [])]
    | .sl o p e' off len => match S.hp o with
      | some (.row e'' xs) => bif t.blt S.n then k (.sl nm p e' off len) [(nm, .row e'' xs), (o, .dead)] else False
      | _ => False
    | _ => False

/-- Nil in a value (0), or in a struct's field (f + 1), as a row of nothing. -/
def nilAt (nm e : Nat) : Nat → AV → Option AV
  | 0, .d .nils => some (.sl nm [] e 0 0)
  | f + 1, .d (.st fs) => match fs[f]? with
    | some .nils => some (.st ((fs.map AV.d).set f (.sl nm [] e 0 0)))
    | _ => none
  | f + 1, .st fs => match fs[f]? with
    | some (.d .nils) => some (.st (fs.set f (.sl nm [] e 0 0)))
    | _ => none
  | _, _ => none

theorem nilAt_rep {nm e f : Nat} {x y : AV} (h : nilAt nm e f x = some y) {ρ : Nat → Option Nat} {X : Nat → Prop} {w : World} (hρ : ρ nm = none) {cs : List Value} (hr : RepC ρ X w x cs) : RepC ρ X w y cs := by
  unfold nilAt at h
  split at h
  · cases h
    cases hr with
    | d hr => cases hr; exact .slnil hρ
  · rename_i f fs
    split at h <;> cases h
    rename_i hf
    cases hr with
    | d hr =>
      cases hr with
      | st hr =>
        obtain ⟨pre, c, post, e1, _, e3, e4⟩ := RepCs.get hr.toC (i := f) (y := .d .nils) (by rw [List.getElem?_map, hf]; rfl)
        cases e3 with
        | d e3 =>
          cases e3
          rw [e1]
          exact .st (e4 _ _ (.slnil hρ))
  · rename_i f fs
    split at h <;> cases h
    rename_i hf
    cases hr with
    | st hr =>
      obtain ⟨pre, c, post, e1, _, e3, e4⟩ := RepCs.get hr hf
      cases e3 with
      | d e3 =>
        cases e3
        rw [e1]
        exact .st (e4 _ _ (.slnil hρ))
  · cases h

theorem namesL_set {y : AV} {n : Nat} : ∀ {fs : List AV} {f : Nat}, n ∈ AV.namesL (fs.set f y) → n ∈ y.names ∨ n ∈ AV.namesL fs
  | [], _, h => by cases h
  | x :: fs, 0, h => by
    simp only [List.set_cons_zero, AV.namesL, List.mem_append] at h ⊢
    exact h.imp id .inr
  | x :: fs, f + 1, h => by
    simp only [List.set_cons_succ, AV.namesL, List.mem_append] at h ⊢
    rcases h with h | h
    · exact .inr (.inl h)
    · exact (namesL_set h).imp id .inr

theorem namesL_data {n : Nat} : ∀ {fs : List D}, n ∈ AV.namesL (fs.map AV.d) → False
  | [], h => by cases h
  | x :: fs, h => by
    simp only [List.map_cons, AV.namesL, List.mem_append] at h
    rcases h with h | h
    · cases h
    · exact namesL_data h

theorem nilAt_names {nm e f : Nat} {x y : AV} (h : nilAt nm e f x = some y) {n : Nat} (hn : n ∈ y.names) : n = nm ∨ n ∈ x.names := by
  unfold nilAt at h
  split at h
  · cases h; simp [AV.names] at hn; exact .inl hn
  · split at h <;> cases h
    simp only [AV.names] at hn
    rcases namesL_set hn with hn | hn
    · simp [AV.names] at hn; exact .inl hn
    · exact (namesL_data hn).elim
  · split at h <;> cases h
    simp only [AV.names] at hn ⊢
    rcases namesL_set hn with hn | hn
    · simp [AV.names] at hn; exact .inl hn
    · exact .inr hn
  · cases h

/-- The same of a variable that holds nil, or a struct that has nil in its field f - 1 ('f * 10^27 + e * 10^18 + nm * 10^9 + o'). -/
def ownV (f nm e o : Nat) (S : St) (k : List (Nat × AObj) → Prop) : Prop := match S.hp nm with
  | some _ => False
  | none => match S.hp o with
    | some (.var x) => match nilAt nm e f x with
      | some y => k [(o, .var y), (nm, .row e [])]
      | none => False
    | _ => False

/-- What a slot's pointer points at given up for data ('500000 + t'). -/
def ptrK (t : Nat) (S : St) (k : AV → List (Nat × AObj) → Prop) : Prop := match S.sl t with
  | .ptr o [] => match S.hp o with
    | some (.var (.d x)) => bif t.blt S.n then k (.dptr x) (deads [o]) else False
    | some (.var (.st fs)) => match toD S.hp (.st fs) with
      | some (s, y, fz) => bif t.blt S.n then Side s ∧ k (.dptr y) (deads (o :: fz)) else False
      | none => False
    | _ => False
  | _ => False

def frzK : List Nat → St → (St → Prop) → Prop
  | [], S, k => k S
  | t :: ts, S, k => bif t.blt 500000 then match toD S.hp (S.sl t) with
      | some (s, y, fz) => Side s ∧ fNs fz fun fz => frzK ts ((S.write (deads fz)).put (some t) (.d y)) k
      | none => False
    else bif t.blt 1000000 then fN (t - 500000) fun u => ptrK u S fun r ws => fAV r fun r => fWs ws fun ws => frzK ts ((S.write ws).put (some u) r) k
    else bif Nat.ble 1000000000000000000 t then fN (t / 1000000000000000000000000000) fun f => fN (t / 1000000000 % 1000000000) fun nm => fN (t / 1000000000000000000 % 1000000000) fun e => fN (t % 1000000000) fun o => ownV f nm e o S fun ws => fWs ws fun ws => frzK ts (S.upd none .top ws) k
    else fN (t / 1000000) fun nm => fN (t / 1000 % 1000) fun e => fN (t % 1000) fun u => ownK nm e u S fun r ws => fAV r fun r => fWs ws fun ws => frzK ts (S.upd (some u) r ws) k

def frC (fr : List (Nat × List Nat)) (id : Nat) (S : St) (k : St → Prop) : Prop := match lkp fr id with
  | none => k S
  | some ts => frzK ts S k

theorem InvAt.marksLess {E : Ent} {S : St} {ρ : Nat → Option Nat} {X : Nat → Prop} {a : Act} {w : World} (hA : InvAt E S ρ X a w) (fz : List Nat) :
    ∃ ms : List Nat, a.defers = ms.map mark ++ E.ds ∧ (E.nm = true → ms = []) ∧ ms.Nodup ∧ ∀ D, D ∈ ms → E.w.heap.size ≤ D ∧ less S.hp ρ X fz D ∧ w.heap[D]? = some (.deferred (some [])) := by
  obtain ⟨ms, k1, kn, k0, k2⟩ := hA.marks
  refine ⟨ms, k1, kn, k0, fun D hD => ?_⟩
  obtain ⟨k3, k4, k5⟩ := k2 D hD
  refine ⟨k3, ⟨k4, fun ⟨o, x, _, q1, q2, q3⟩ => ?_⟩, k5⟩
  obtain ⟨c, T, z, q4⟩ := (hA.sim.objs o x q1).cells q2 q3
  rw [k5] at q4; cases q4

theorem InvAt.kill {E : Ent} {S : St} {ρ : Nat → Option Nat} {X : Nat → Prop} {a : Act} {w : World} (hA : InvAt E S ρ X a w) (fz : List Nat) : InvAt E (S.write (deads fz)) ρ (less S.hp ρ X fz) a w := by
  have hal : ∀ o x, (S.write (deads fz)).hp o = some x → x.alive = true → S.hp o = some x := fun o x h ha => by
    simp only [St.write] at h
    cases hl : lkp (deads fz) o with
    | some y => simp only [hl, Option.some.injEq] at h; subst h; rw [(lkp_deads hl).1] at ha; cases ha
    | none => simpa only [hl] using h
  refine ⟨hA.sim.kill fz, hA.ext, fun b hb => ⟨fun k => (hA.xs b hb).1 k.1, fun k => ?_⟩, fun o x b e1 e2 e3 => hA.own o x b (hal o x e1 e2) e2 e3, fun n hn => ⟨wr_ne (ws := deads fz) (hA.same n hn).1, (hA.same n hn).2⟩, hA.marksLess fz⟩
  rcases (hA.xs b hb).2 k with k | k
  · by_cases hl : less S.hp ρ X fz b
    · exact .inl hl
    · right
      have : ∃ o x, o ∈ fz ∧ S.hp o = some x ∧ x.alive = true ∧ ρ o = some b := Classical.byContradiction fun hn => hl ⟨k, hn⟩
      obtain ⟨o, x, _, k1, k2, k3⟩ := this
      exact (hA.own o x b k1 k2 k3).elim (fun q => by omega) id
  · exact .inr k

theorem Inv.frz {E : Ent} {S : St} {a : Act} {w : World} {t : Nat} {s : Prop} {y : D} {fz : List Nat} (hI : Inv E S a w) (h : toD S.hp (S.sl t) = some (s, y, fz)) (hs : s) : Inv E ((S.write (deads fz)).put (some t) (.d y)) a w := by
  obtain ⟨ρ, X, hA⟩ := hI
  have hk := hA.sim.kill fz
  have hdom : ∀ n, S.hp n ≠ none → (S.write (deads fz)).hp n ≠ none := fun n hn => wr_ne (ws := deads fz) hn
  have hal : ∀ o x, (S.write (deads fz)).hp o = some x → x.alive = true → S.hp o = some x := fun o x h ha => by
    simp only [St.write] at h
    cases hl : lkp (deads fz) o with
    | some y => simp only [hl, Option.some.injEq] at h; subst h; rw [(lkp_deads hl).1] at ha; cases ha
    | none => simpa only [hl] using h
  refine ⟨ρ, less S.hp ρ X fz, ⟨⟨?_, fun u v hu => ?_, ?_, ?_, ?_, fun u o ho => ?_, ?_⟩, hA.ext, fun b hb => ⟨fun k => (hA.xs b hb).1 k.1, fun k => ?_⟩, fun o x b e1 e2 e3 => ?_, fun n hn => ?_, ?_⟩⟩
  · rw [St.n_put]; exact hk.n
  · rcases St.sl_put (S.write (deads fz)) (some t) (.d y) u with ⟨h1, h2⟩ | ⟨h1, _⟩
    · cases h2
      rw [h1]
      exact toD_rep hA.sim h hs (fun _ h => h) (hA.sim.slots _ v hu)
    · rw [h1]; exact hk.slots u v hu
  · rw [St.hp_put]; exact hk.objs
  · rw [St.hp_put]; exact hk.inj
  · rw [St.hp_put]; exact hk.own
  · rw [St.hp_put]
    rcases St.sl_put (S.write (deads fz)) (some t) (.d y) u with ⟨h1, _⟩ | ⟨h1, _⟩
    · rw [h1] at ho; cases ho
    · rw [h1] at ho; exact hk.closedS u o ho
  · rw [St.hp_put]; exact hk.closedH
  · rcases (hA.xs b hb).2 k with k | k
    · by_cases hl : less S.hp ρ X fz b
      · exact .inl hl
      · right
        have : ∃ o x, o ∈ fz ∧ S.hp o = some x ∧ x.alive = true ∧ ρ o = some b := Classical.byContradiction fun hn => hl ⟨k, hn⟩
        obtain ⟨o, x, _, k1, k2, k3⟩ := this
        exact (hA.own o x b k1 k2 k3).elim (fun q => by omega) id
    · exact .inr k
  · rw [St.hp_put] at e1
    exact hA.own o x b (hal o x e1 e2) e2 e3
  · rw [St.hp_put]
    exact ⟨hdom n (hA.same n hn).1, (hA.same n hn).2⟩
  · exact hA.marksLess fz

theorem put_same {a : Act} {t : Nat} {v : Value} (h : ∀ u, a.tmps[t]? = some u → u = v) : a.put (some t) v = a := by
  have : a.tmps.setIfInBounds t v = a.tmps := by
    apply Array.ext
    · simp
    · intro i h1 h2
      rw [Array.getElem_setIfInBounds (by simpa using h2)]
      split
      · rename_i e; subst e
        exact (h _ (Array.getElem?_eq_getElem (by simpa using h2))).symm
      · rfl
  show ({ a with tmps := a.tmps.setIfInBounds t v } : Act) = a
  rw [this]

theorem ownK_sound {E : Ent} {a : Act} {w : World} {nm e t : Nat} {S : St} {k : AV → List (Nat × AObj) → Prop} (h : ownK nm e t S k) (hI : Inv E S a w) : ∃ r ws, k r ws ∧ Inv E (S.upd (some t) r ws) a w := by
  obtain ⟨ρ, X, hA⟩ := hI
  have hdom : ∀ (ws : List (Nat × AObj)) (r : AV) n, S.hp n ≠ none → (S.upd (some t) r ws).hp n ≠ none := fun ws r n hn => by
    rw [St.hp_upd']; exact wr_ne hn
  unfold ownK at h
  split at h
  · exact h.elim
  · rename_i hf
    split at h
    · rename_i hv
      refine ⟨_, _, h, ?_⟩
      have hval : ∀ u, a.tmps[t]? = some u → u = .slice none 0 0 := fun u hu => by
        have := hA.sim.slots t u hu
        rw [hv] at this
        obtain ⟨cs, h1, h2⟩ := repA_d this
        cases h1; exact h2
      obtain ⟨ρ', X', h1, h2⟩ := hA.sim.moved (w' := w) (Y := fun _ => False) (nm := nm) (x := .row e []) (ws := [(nm, .row e [])]) (dst := some t) (r := .sl nm [] e 0 0) (v := .slice none 0 0) (nb := none) hf
        (fun n y hl => .inl (by have := lkp_mem hl; simp at this; exact this)) (by simp [lkp]) (.refl _ _) (fun _ hb => hb.elim) (fun b hb => by cases hb)
        (fun ρ' X' _ hn => .inl ⟨hn, rfl⟩) (fun n hn => by cases hn) (fun ρ' X' _ hn => ⟨_, .slnil hn, rfl⟩) (fun n hn => by simp [AV.names] at hn; exact .inr hn)
      rw [put_same hval] at h1
      exact ⟨ρ', X', hA.evo h1 h2 (hdom _ _) rfl⟩
    · rename_i o p e' off len hv
      split at h
      · rename_i e'' xs ho
        cases hb : Nat.blt t S.n with
        | false => rw [hb] at h; exact h.elim
        | true =>
        rw [hb] at h
        refine ⟨_, _, h, ?_⟩
        have hlt : t < a.tmps.size := by rw [hA.sim.n]; exact Nat.le_of_ble_eq_true hb
        have hu := hA.sim.slots t _ (Array.getElem?_eq_getElem hlt)
        rw [hv] at hu
        have hne : o ≠ nm := fun he => by rw [he, hf] at ho; cases ho
        have hne2 : (nm.beq o) = false := by
          cases hb : nm.beq o with
          | true => exact absurd (Nat.eq_of_beq_eq_true hb).symm hne
          | false => rfl
        obtain ⟨ρ', X', h1, h2⟩ := hA.sim.moved (w' := w) (Y := fun _ => False) (nm := nm) (x := .row e'' xs) (ws := [(nm, .row e'' xs), (o, .dead)]) (dst := some t) (r := .sl nm p e' off len) (v := a.tmps[t]) (nb := ρ o) hf
          (fun n y hl => by
            have := lkp_mem hl
            simp only [List.mem_cons, Prod.mk.injEq, List.not_mem_nil, or_false] at this
            rcases this with ⟨q1, q2⟩ | ⟨q1, q2⟩
            · exact .inl ⟨q1, q2⟩
            · exact .inr ⟨q2, by rw [q1, ho]; simp⟩) (by simp [lkp]) (.refl _ _) (fun _ hb => hb.elim) (fun b hb => .inr ⟨o, _, by simp [lkp, hne2], ho, rfl, hb⟩)
          (fun ρ' X' g hn => by
            rcases hA.sim.objs o _ ho with ⟨q1, q2⟩ | ⟨b, cs, rest, T, z, q0, q1, q2, q3, q4⟩
            · exact .inl ⟨by rw [hn, q1], q2⟩
            · exact .inr ⟨b, cs, rest, T, z, by rw [hn, q0], q1, q2, q3.mono g.ext g.off g.own, q4⟩)
          (fun n hn => by cases hn) (fun ρ' X' g hn => by
            obtain ⟨cs, q1, q2⟩ := hu
            cases q1 with
            | sl q3 q4 q5 q6 q7 => exact ⟨_, .sl (by rw [hn, q3]) q4 q5 q6 q7, q2⟩
            | slnil q3 => exact ⟨_, .slnil (by rw [hn, q3]), q2⟩) (fun n hn => by simp [AV.names] at hn; exact .inr hn)
        rw [put_same (fun u hu => by rw [Array.getElem?_eq_getElem hlt] at hu; cases hu; rfl)] at h1
        exact ⟨ρ', X', hA.evo h1 h2 (hdom _ _) rfl⟩
      · exact h.elim
    · exact h.elim

theorem ownV_sound {E : Ent} {a : Act} {w : World} {f nm e o : Nat} {S : St} {k : List (Nat × AObj) → Prop} (h : ownV f nm e o S k) (hI : Inv E S a w) : ∃ ws, k ws ∧ Inv E (S.upd none .top ws) a w := by
  obtain ⟨ρ, X, hA⟩ := hI
  unfold ownV at h
  split at h
  · exact h.elim
  · rename_i hf
    split at h
    · rename_i x ho
      split at h
      rotate_left
      · exact h.elim
      rename_i y hy
      refine ⟨_, h, ?_⟩
      have hs := hA.sim
      have hne : o ≠ nm := fun he => by rw [he, hf] at ho; cases ho
      have hbeq : ∀ {x y : Nat}, x ≠ y → (x.beq y) = false := fun {x y} hxy => by
        cases hb : x.beq y with
        | true => exact absurd (Nat.eq_of_beq_eq_true hb) hxy
        | false => rfl
      let ρ' : Nat → Option Nat := fun n => bif nm.beq n then none else ρ n
      have hρ : ∀ n, n ≠ nm → ρ' n = ρ n := fun n hn => by simp only [ρ', hbeq (Ne.symm hn), cond_false]
      have hρn : ρ' nm = none := by simp [ρ']
      have hlk : ∀ n x, lkp [(o, AObj.var y), (nm, .row e [])] n = some x → (n = o ∧ x = .var y) ∨ (n = nm ∧ x = .row e []) := fun n x hl => by
        have := lkp_mem hl
        simpa only [List.mem_cons, Prod.mk.injEq, List.not_mem_nil, or_false] using this
      have hlko : lkp [(o, AObj.var y), (nm, .row e [])] o ≠ none := by simp [lkp]
      have hlkn : lkp [(o, AObj.var y), (nm, .row e [])] nm ≠ none := by simp [lkp, hbeq hne]
      have g : Goes ρ ρ' X X (fun _ => False) w w := ⟨.refl _ _, fun _ _ _ h => h, fun _ _ h => h⟩
      have hno : ∀ n, S.hp n ≠ none → n ≠ nm := fun n hn he => hn (by rw [he]; exact hf)
      have hst := hs.step (Y := fun _ => False) (w' := w) (ρ' := ρ') (X' := X) (dst := none) (r := .top) (v := undef) (ws := [(o, .var y), (nm, .row e [])]) (.refl _ _) (fun _ hb => hb.elim) (fun n hn => hρ n (hno n hn)) (fun _ _ h => h)
        (fun n x b _ h1 h2 h3 => hs.own n x b h1 h2 h3)
        (fun n x hl => by
          rcases hlk n x hl with ⟨rfl, rfl⟩ | ⟨rfl, rfl⟩
          · obtain ⟨b, cs, T, z, q0, q1, q2, q3⟩ := hs.objs _ _ ho
            exact ⟨b, _, T, z, by rw [hρ _ hne, q0], q1, q2, nilAt_rep hy hρn (q3.mono g fun n hn => hρ n (hno n (hs.closedH _ _ ho n hn)))⟩
          · exact .inl ⟨hρn, rfl⟩)
        (fun n x b hl ha hb => by
          rcases hlk n x hl with ⟨rfl, rfl⟩ | ⟨rfl, rfl⟩
          · exact hs.own _ _ b ho rfl (by rw [← hρ _ hne]; exact hb)
          · rw [hρn] at hb; cases hb)
        (fun n x n' x' b hl ha hl' ha' hb hb' => by
          rcases hlk n x hl with ⟨rfl, rfl⟩ | ⟨rfl, rfl⟩
          · rcases hlk n' x' hl' with ⟨rfl, rfl⟩ | ⟨rfl, rfl⟩
            · rfl
            · rw [hρn] at hb'; cases hb'
          · rw [hρn] at hb; cases hb)
        (fun n x n' x' b hl ha hl' hs' ha' hb hb' => by
          rcases hlk n x hl with ⟨rfl, rfl⟩ | ⟨rfl, rfl⟩
          · have := hs.inj _ _ _ _ b ho rfl hs' ha' (by rw [← hρ _ hne]; exact hb) hb'
            subst this; exact hlko hl'
          · rw [hρn] at hb; cases hb)
        (fun n x hl n' hn' => by
          rcases hlk n x hl with ⟨rfl, rfl⟩ | ⟨rfl, rfl⟩
          · rcases nilAt_names hy hn' with rfl | hn'
            · exact .inr hlkn
            · exact .inl (hs.closedH _ _ ho _ hn')
          · cases hn')
        trivial (fun n hn => by cases hn)
      refine ⟨ρ', X, hA.evo hst ⟨.mono (.refl _ _) fun _ _ h => h, fun b _ => ⟨id, .inl⟩, fun n x b h1 h2 h3 => ?_, fun n hn => hρ n (hno n hn)⟩ (fun n hn => upd_dom hn) rfl⟩
      rw [St.hp_upd] at h1
      split at h1
      · rename_i y hl
        cases h1
        rcases hlk n _ hl with ⟨rfl, rfl⟩ | ⟨rfl, rfl⟩
        · exact .inr ⟨_, _, ho, rfl, by rw [← hρ _ hne]; exact h3⟩
        · rw [hρn] at h3; cases h3
      · exact .inr ⟨n, x, h1, h2, by rw [← hρ n (hno n (by rw [h1]; simp))]; exact h3⟩
    · exact h.elim

theorem ptrK_sound {E : Ent} {a : Act} {w : World} {t : Nat} {S : St} {k : AV → List (Nat × AObj) → Prop} (h : ptrK t S k) (hI : Inv E S a w) : ∃ r ws, k r ws ∧ Inv E ((S.write ws).put (some t) r) a w := by
  obtain ⟨ρ, X, hA⟩ := hI
  unfold ptrK at h
  split at h
  · rename_i o hv
    split at h
    · rename_i x ho
      cases hb : Nat.blt t S.n with
      | false => rw [hb] at h; exact h.elim
      | true =>
      rw [hb] at h
      refine ⟨_, _, h, ?_⟩
      have hlt : t < a.tmps.size := by rw [hA.sim.n]; exact Nat.le_of_ble_eq_true hb
      have hu := hA.sim.slots t _ (Array.getElem?_eq_getElem hlt)
      rw [hv] at hu
      obtain ⟨b, hb0, hxv⟩ := repA_ptr hu
      obtain ⟨b', cs, T, z, q0, q1, q2, q3⟩ := hA.sim.objs o _ ho
      rw [hb0] at q0; cases q0
      have hK := hA.kill [o]
      have q4 : RepD X w x cs := by cases q3 with | d q3 => exact q3
      have g : Goes ρ ρ X (less S.hp ρ X [o]) (fun _ => False) w w := ⟨.refl _ _, fun _ _ _ h => h, fun _ _ h => h.1⟩
      have hr : RepA ρ (less S.hp ρ X [o]) w (.dptr x) a.tmps[t] := by
        rw [hxv]
        refine ⟨_, .dptr (b := b) (q := 0) (cs := cs) (fun hl => hl.2 ⟨o, _, by simp, ho, rfl, hb0⟩) (Array.getElem?_eq_some_iff.1 q1).1 (fun i v hi => ?_) (q4.mono g.ext g.off g.own), rfl⟩
        simp only [World.cell?, q1]
        simpa using hi
      obtain ⟨k1, k2⟩ := hK.sim.put (dst := some t) hr (fun _ h => by cases h)
      rw [put_same (fun u hu => by rw [Array.getElem?_eq_getElem hlt] at hu; cases hu; rfl)] at k1
      exact ⟨ρ, _, hK.evo k1 k2 (fun n hn => by rw [St.hp_put]; exact hn) rfl⟩
    · rename_i fs ho
      split at h
      · rename_i s y fz hy
        cases hb : Nat.blt t S.n with
        | false => rw [hb] at h; exact h.elim
        | true =>
        rw [hb] at h
        obtain ⟨hs, h⟩ : Side s ∧ _ := h
        rw [Side_eq] at hs
        refine ⟨_, _, h, ?_⟩
        have hlt : t < a.tmps.size := by rw [hA.sim.n]; exact Nat.le_of_ble_eq_true hb
        have hu := hA.sim.slots t _ (Array.getElem?_eq_getElem hlt)
        rw [hv] at hu
        obtain ⟨b, hb0, hxv⟩ := repA_ptr hu
        obtain ⟨b', cs, T, z, q0, q1, q2, q3⟩ := hA.sim.objs o _ ho
        rw [hb0] at q0; cases q0
        have hK := hA.kill (o :: fz)
        have q5 : RepA ρ (less S.hp ρ X (o :: fz)) w (.d y) (wrapV true cs) := toD_rep hA.sim hy hs (fun n hn => List.mem_cons_of_mem o hn) ⟨cs, q3, rfl⟩
        obtain ⟨ys, rfl⟩ : ∃ ys, y = .st ys := by
          simp only [toD] at hy
          split at hy
          · cases hy; exact ⟨_, rfl⟩
          · cases hy
        obtain ⟨cs', c1, c2⟩ := q5
        have e : cs' = cs := by
          have : wrapV true cs = wrapV true cs' := c2
          simpa [wrapV] using this.symm
        subst e
        have q4 : RepD (less S.hp ρ X (o :: fz)) w (.st ys) cs' := by cases c1 with | d c1 => exact c1
        have hr : RepA ρ (less S.hp ρ X (o :: fz)) w (.dptr (.st ys)) a.tmps[t] := by
          rw [hxv]
          refine ⟨_, .dptr (b := b) (q := 0) (cs := cs') (fun hl => hl.2 ⟨o, _, by simp, ho, rfl, hb0⟩) (Array.getElem?_eq_some_iff.1 q1).1 (fun i v hi => ?_) q4, rfl⟩
          simp only [World.cell?, q1]
          simpa using hi
        obtain ⟨k1, k2⟩ := hK.sim.put (dst := some t) hr (fun _ h => by cases h)
        rw [put_same (fun u hu => by rw [Array.getElem?_eq_getElem hlt] at hu; cases hu; rfl)] at k1
        exact ⟨ρ, _, hK.evo k1 k2 (fun n hn => by rw [St.hp_put]; exact hn) rfl⟩
      · exact h.elim
    · exact h.elim
  · exact h.elim

theorem frzK_sound {E : Ent} {a : Act} {w : World} {k : St → Prop} : ∀ {ts : List Nat} {S : St}, frzK ts S k → Inv E S a w → ∃ S', k S' ∧ Inv E S' a w
  | [], S, h, hI => ⟨S, h, hI⟩
  | t :: ts, S, h, hI => by
    simp only [frzK, fNs_eq, fN_eq, fAV_eq, fWs_eq] at h
    cases hb : Nat.blt t 500000 with
    | true =>
      simp only [hb, cond_true] at h
      split at h
      · rename_i s y fz hd
        rw [Side_eq] at h
        exact frzK_sound h.2 (hI.frz hd h.1)
      · exact h.elim
    | false =>
      simp only [hb, cond_false] at h
      cases hb3 : Nat.blt t 1000000 with
      | true =>
        simp only [hb3, cond_true] at h
        obtain ⟨r, ws, h1, h2⟩ := ptrK_sound h hI
        exact frzK_sound h1 h2
      | false =>
      simp only [hb3, cond_false] at h
      cases hb2 : Nat.ble 1000000000000000000 t with
      | true =>
        simp only [hb2, cond_true] at h
        obtain ⟨ws, h1, h2⟩ := ownV_sound h hI
        exact frzK_sound h1 h2
      | false =>
        simp only [hb2, cond_false] at h
        obtain ⟨r, ws, h1, h2⟩ := ownK_sound h hI
        exact frzK_sound h1 h2

theorem frC_sound {E : Ent} {a : Act} {w : World} {k : St → Prop} {fr : List (Nat × List Nat)} {id : Nat} {S : St} (h : frC fr id S k) (hI : Inv E S a w) : ∃ S', k S' ∧ Inv E S' a w := by
  unfold frC at h
  split at h
  · exact ⟨S, h, hI⟩
  · exact frzK_sound h hI

/-! ### Bodies -/

structure NextC {X : Type} (en : List Nat) (sl : X → List (Nat × AV)) (hp : X → List (Nat × AObj)) (μ : X → Nat) (n : Nat) (x : X) (S' : St) : Prop where
  h : ∃ x', μ x' < μ x ∧ S'.n = n ∧ Weak en S' (sl x') (hp x')

structure LoopC (en : List Nat) (S : St) (body : St → (AExit → St → Prop) → Prop) (K : AExit → St → Prop) : Prop where
  h : ∃ (X : Type) (sl : X → List (Nat × AV)) (hp : X → List (Nat × AObj)) (μ : X → Nat) (x0 : X), Weak en S (sl x0) (hp x0) ∧
    ∀ x, body (mkSt S.n (sl x) (hp x)) fun e S' => match e with
      | .normal => NextC en sl hp μ S.n x S'
      | e => K e S'

def vcR (P : Program) (id : Nat) (l : List Oper) (draw : Bool) (S : St) (K : St → Prop) (Kp : Value → St → Prop) : Prop :=
  bif draw then vcOps P l id (fun fs => Chk (okPairs l fs && edgesB l)) l false 0 0 S [] K Kp
  else vcOps P l id (fun _ => True) l false 0 0 S [] K Kp

/-- The slots told over a frame's own. -/
def wsl (n : Nat) (sl : List (Nat × AV)) (S' : St) : St := ⟨n, fun t => match lkp sl t with
  | some x => x
  | none => .top, S'.hp⟩

def zipD : List Tmp → List D → List (Nat × AV)
  | t :: ts, y :: ys => (t, .d y) :: zipD ts ys
  | _, _ => []

def distB : List Nat → Bool
  | [] => true
  | t :: ts => !ts.contains t && distB ts

theorem distB_spec : ∀ {ts : List Nat}, distB ts = true → ts.Nodup
  | [], _ => .nil
  | t :: ts, h => by
    simp only [distB, Bool.and_eq_true, Bool.not_eq_true', List.contains_eq_mem, decide_eq_false_iff_not] at h
    exact List.nodup_cons.2 ⟨h.1, distB_spec h.2⟩

/-- The frame of a round. -/
def rndSt (n : Nat) (ts : List Tmp) (ys : List D) (sl : List (Nat × AV)) (hp : List (Nat × AObj)) : St := mkSt n (zipD ts ys ++ sl) hp

structure EndC (en : List Nat) (n : Nat) (sl : List (Nat × AV)) (hp : List (Nat × AObj)) (I : Prop) (S' : St) : Prop where
  i : I
  w : Weak en (wsl n sl S') sl hp

structure RangeC (P : Program) (en : List Nat) (ts : List Tmp) (g : Operand) (S : St) (round : List Nat → St → (AExit → St → Prop) → Prop) (K : AExit → St → Prop) : Prop where
  h : ∃ (f o : Nat) (x : D) (n : Nat) (ys : Nat → List D) (sl : List (Nat × AV)) (hp : Nat → List (Nat × AObj)) (I : Nat → Prop),
    S.ev g = .fn (.func f) [.ptr o []] ∧ S.hp o = some (.var (.d x)) ∧ callable P f = true ∧ SeqOK P f x n ys ∧ (∀ i, (ys i).length = ts.length ∧ (ys i).all D.scal = true) ∧ distB ts = true ∧ Weak en S sl (hp 0) ∧ I 0 ∧
    (∀ i, i < n → I i → round ((hp i).map (·.1)) (rndSt S.n ts (ys i) sl (hp i)) fun e S' => match e with
      | .normal => EndC en S.n sl (hp (i + 1)) (I (i + 1)) S'
      | e => K e (wsl S.n sl S')) ∧
    (I n → K .normal (mkSt S.n sl (hp n)))

def wpC (P : Program) (fr : List (Nat × List Nat)) : Bool → List Nat → Code → St → (AExit → St → Prop) → (Value → St → Prop) → Prop
  | _, _, .skip, S, K, _ => K .normal S
  | _, _, .label _, S, K, _ => K .normal S
  | _, _, .exit id, S, K, _ => K (.exit id) S
  | _, _, .goto l, S, K, _ => K (.goto l) S
  | _, _, .ret, S, K, _ => K .ret S
  | rd, en, .seq x y, S, K, Kp => wpC P fr rd en x S (fun e S' => match e with
      | .normal => wpC P fr rd en y S' K Kp
      | e => K e S') Kp
  | rd, en, .cond c x y, S, K, Kp => match S.ev c with
      | .d (.bool b) => bcase b fun t => bif t then wpC P fr rd en x S K Kp else wpC P fr rd en y S K Kp
      | _ => False
  | rd, en, .block id x, S, K, Kp => wpC P fr rd en x S (fun e S' => match e with
      | .exit i => bif i.beq id then K .normal S' else K (.exit i) S'
      | e => K e S') Kp
  | rd, en, .scope x, S, K, Kp => wpC P fr rd en x S (fun e S' => match e with
      | .goto _ => False
      | e => K e S') Kp
  | _, _, .region id ops draw, S, K, Kp => frC fr id S fun S' => vcR P id ops.toList draw S' (fun S2 => frC fr (id + 500000) S2 fun S3 => K .normal S3) Kp
  | rd, en, .loop x, S, K, Kp => LoopC en S (fun S' K' => wpC P fr rd en x S' K' Kp) K
  | false, en, .rangeFunc g ts x y, S, K, _ => RangeC P en ts.toList g S (fun en' S1 K1 => wpC P fr true en' x S1 (fun e S2 => match e with
      | .normal => wpC P fr true en' y S2 K1 (fun _ _ => False)
      | _ => False) (fun _ _ => False)) K
  | _, _, _, _, _, _ => False

def QQ (E : Ent) (K : AExit → St → Prop) (Kp : Value → St → Prop) : Exit → Act → World → Prop
  | .normal, a, w => ∃ S, K .normal S ∧ Inv E S a w
  | .ret, a, w => ∃ S, K .ret S ∧ Inv E S a w
  | .exit i, a, w => ∃ S, K (.exit i) S ∧ Inv E S a w
  | .goto l, a, w => ∃ S, K (.goto l) S ∧ Inv E S a w
  | .panic ch, a, w => ∃ pv S, ch = [{ v := pv, recovered := false }] ∧ Kp pv S ∧ Inv E S a w
  | .outgrown, _, _ => False

theorem least (p : Nat → Prop) : ∀ n, p n → ∃ m, p m ∧ ∀ k, p k → m ≤ k := by
  intro n
  induction n using Nat.strongRecOn with
  | _ n ih =>
    intro h
    by_cases hx : ∃ k, k < n ∧ p k
    · obtain ⟨k, h1, h2⟩ := hx; exact ih k h1 h2
    · exact ⟨n, h, fun k hk => Nat.le_of_not_lt fun hlt => hx ⟨k, hlt, hk⟩⟩

open Classical in
theorem wpIn_loopI {F : Fence} {n : Nat} {P : Program} {Q : Exit → Act → World → Prop} {c : Code} {Y : Type} (I : Y → Act → World → Prop) (μ : Y → Nat) {x0 : Y} {a : Act} {w : World} (h0 : I x0 a w)
    (round : ∀ x a w, I x a w → c.wpIn F n P (Exit.then (fun a' w' => ∃ x', I x' a' w' ∧ μ x' < μ x) Q) a w) : (Code.loop c).wpIn F n P Q a w := by
  let p : Act → World → Nat → Prop := fun a w n => ∃ x, I x a w ∧ μ x = n
  let ν : Act → World → Nat := fun a w => if h : ∃ m, p a w m ∧ ∀ k, p a w k → m ≤ k then Classical.choose h else 0
  have hν : ∀ a w x, I x a w → (∃ y, I y a w ∧ μ y = ν a w) ∧ ν a w ≤ μ x := fun a w x hx => by
    have he : ∃ m, p a w m ∧ ∀ k, p a w k → m ≤ k := least (p a w) (μ x) ⟨x, hx, rfl⟩
    have : ν a w = Classical.choose he := dif_pos he
    rw [this]
    exact ⟨(Classical.choose_spec he).1, (Classical.choose_spec he).2 _ ⟨x, hx, rfl⟩⟩
  refine wpIn_loop (fun a w => ∃ x, I x a w) ν ⟨x0, h0⟩ fun a w hx => ?_
  obtain ⟨x, hx⟩ := hx
  obtain ⟨⟨y, hy, hm⟩, _⟩ := hν a w x hx
  refine wpIn_mono (round y a w hy) fun e a' w' he => ?_
  cases e <;> try exact he
  obtain ⟨x', h1, h2⟩ := he
  refine ⟨⟨x', h1⟩, ?_⟩
  have := (hν a' w' x' h1).2
  omega

theorem region_sound {P : Program} {ops : Array Oper} {id : Nat} {chk : Foots → Prop} {S : St} {K : St → Prop} {Kp : Value → St → Prop}
    (h : vcOps P ops.toList id chk ops.toList false 0 0 S [] K Kp) : ∃ pi fs out, Tr P ops.toList false pi (List.range' 0 ops.size) S fs out ∧ chk fs.reverse ∧ match out with
      | .inl S' => K S'
      | .inr p => Kp p.1 p.2 := by
  obtain ⟨pi, fs, out, h1, h2, _, h3⟩ := vc_tr _ _ _ _ _ _ _ _ (fun k o hk => by simpa using hk) h
  refine ⟨pi, fs, out, ?_, by simpa using h2, h3⟩
  have : ((List.range' 0 ops.toList.length).filter fun j => !(0 : Nat).testBit j) = List.range' 0 ops.size := by
    rw [List.filter_eq_self.2 fun j _ => by simp]
    simp
  rw [this] at h1; exact h1

/-! ### A range over a function -/

theorem fold_put (ts : List Tmp) (vs : List Value) : ∀ (l : Array Value), (((ts.toArray.zip vs.toArray).foldl (fun tmps (p : Tmp × Value) => tmps.setIfInBounds p.1 p.2) l)) = (ts.zip vs).foldl (fun tmps p => tmps.setIfInBounds p.1 p.2) l := by
  intro l
  rw [← Array.foldl_toList]
  simp

theorem zip_size (ts : List Tmp) (vs : List Value) : ∀ (l : Array Value), ((ts.zip vs).foldl (fun tmps (p : Tmp × Value) => tmps.setIfInBounds p.1 p.2) l).size = l.size := by
  induction ts generalizing vs with
  | nil => intro l; rfl
  | cons t ts ih =>
    intro l
    cases vs with
    | nil => rfl
    | cons v vs => simp only [List.zip_cons_cons, List.foldl_cons]; rw [ih]; simp

theorem zip_rep {ρ : Nat → Option Nat} {X : Nat → Prop} {w : World} {sl : Nat → AV} : ∀ (ts : List Tmp) (ys : List D) (l : Array Value), ts.length = ys.length → ys.all D.scal = true → (∀ t v, l[t]? = some v → RepA ρ X w (sl t) v) → ts.Nodup →
    ∀ t v, ((ts.zip (ys.map D.sval)).foldl (fun tmps (p : Tmp × Value) => tmps.setIfInBounds p.1 p.2) l)[t]? = some v → RepA ρ X w (match lkp (zipD ts ys) t with | some x => x | none => sl t) v
  | [], [], l, _, _, h, _, t, v, ht => h t v ht
  | t0 :: ts, y :: ys, l, hl, hs, h, hnd, t, v, ht => by
    simp only [List.all_cons, Bool.and_eq_true] at hs
    have hnd' := List.nodup_cons.1 hnd
    simp only [List.map_cons, List.zip_cons_cons, List.foldl_cons] at ht
    have ih := zip_rep (sl := fun u => bif t0.beq u then .d y else sl u) ts ys (l.setIfInBounds t0 y.sval) (by simpa using hl) hs.2 (fun u x hu => by
      show RepA ρ X w (bif t0.beq u then .d y else sl u) x
      cases hb : t0.beq u with
      | true =>
        have := Nat.eq_of_beq_eq_true hb
        subst this
        simp only [Array.getElem?_setIfInBounds, if_true] at hu
        split at hu
        · cases hu; exact repA_scal hs.1
        · cases hu
      | false =>
        have hne : t0 ≠ u := fun e => by subst e; simp at hb
        rw [Array.getElem?_setIfInBounds_ne hne] at hu
        exact h u x hu) hnd'.2 t v ht
    simp only [zipD, lkp]
    cases hl2 : lkp (zipD ts ys) t with
    | some x =>
      simp only [hl2] at ih
      cases hb : t0.beq t with
      | false => exact ih
      | true =>
        exfalso
        have := Nat.eq_of_beq_eq_true hb
        subst this
        have : ∀ (ts : List Tmp) (ys : List D), lkp (zipD ts ys) t0 ≠ none → t0 ∈ ts := by
          intro ts
          induction ts with
          | nil => intro ys h; cases ys <;> exact absurd rfl h
          | cons s ts ih =>
            intro ys h
            cases ys with
            | nil => exact absurd rfl h
            | cons z ys =>
              simp only [zipD, lkp] at h
              cases hb : s.beq t0 with
              | true => simp [Nat.eq_of_beq_eq_true hb]
              | false => rw [hb] at h; exact List.mem_cons_of_mem _ (ih ys h)
        exact hnd'.1 (this ts ys (by rw [hl2]; simp))
    | none =>
      simp only [hl2] at ih
      cases hb : t0.beq t <;> rw [hb] at ih <;> exact ih
  | [], _ :: _, _, h, _, _, _, _, _, _ => by cases h
  | _ :: _, [], _, h, _, _, _, _, _, _ => by cases h

theorem zipD_data : ∀ (ts : List Tmp) (ys : List D) (t : Nat) (x : AV), lkp (zipD ts ys) t = some x → ∃ y, x = .d y
  | [], ys, t, x, h => by cases ys <;> cases h
  | _ :: _, [], t, x, h => by cases h
  | s :: ts, y :: ys, t, x, h => by
    simp only [zipD, lkp] at h
    cases hb : s.beq t <;> rw [hb] at h
    · exact zipD_data ts ys t x h
    · cases h; exact ⟨y, rfl⟩

/-- The frame of a round at its start. -/
theorem InvAt.rnd {E : Ent} {n : Nat} {ts : List Tmp} {ys : List D} {sl : List (Nat × AV)} {hp : List (Nat × AObj)} {ρ : Nat → Option Nat} {X : Nat → Prop} {a : Act} {w : World} (h : InvAt E (mkSt n sl hp) ρ X a w) (hl : ts.length = ys.length) (hs : ys.all D.scal = true) (hnd : ts.Nodup) :
    InvAt ⟨(mkSt n sl hp).hp, ρ, X, w, [], true⟩ (rndSt n ts ys sl hp) ρ X { tmps := (ts.zip (ys.map D.sval)).foldl (fun tmps p => tmps.setIfInBounds p.1 p.2) a.tmps, defers := [] } w := by
  have hsim := h.sim
  have hsl : ∀ t, (rndSt n ts ys sl hp).sl t = match lkp (zipD ts ys) t with | some x => x | none => (mkSt n sl hp).sl t := fun t => by
    show (match lkp (zipD ts ys ++ sl) t with | some x => x | none => .top : AV) = _
    rw [lkp_append]
    cases lkp (zipD ts ys) t <;> rfl
  refine ⟨⟨?_, fun t v ht => ?_, hsim.objs, hsim.inj, hsim.own, fun t o ho => ?_, hsim.closedH⟩, .refl _ _, fun b _ => ⟨id, .inl⟩, fun o x b h1 h2 h3 => .inr ⟨o, x, h1, h2, h3⟩, fun o ho => ⟨ho, rfl⟩, ⟨[], rfl, fun _ => rfl, .nil, fun D hD => by cases hD⟩⟩
  · show ((ts.zip (ys.map D.sval)).foldl _ a.tmps).size = n
    rw [zip_size]; exact hsim.n
  · rw [hsl]
    exact zip_rep ts ys a.tmps hl hs (fun t v ht => hsim.slots t v ht) hnd t v ht
  · rw [hsl] at ho
    cases hz : lkp (zipD ts ys) t with
    | none => rw [hz] at ho; exact hsim.closedS t o ho
    | some x =>
      rw [hz] at ho
      obtain ⟨y, rfl⟩ := zipD_data ts ys t x hz
      cases ho

theorem mark_inj : ∀ {l m : List Nat}, l.map mark = m.map mark → l = m
  | [], [], _ => rfl
  | [], _ :: _, h => by cases h
  | _ :: _, [], h => by cases h
  | x :: l, y :: m, h => by
    simp only [List.map_cons, List.cons.injEq] at h
    have h1 : x = y := by simpa [mark] using h.1
    rw [h1, mark_inj h.2]

theorem own_cells {S : St} {ρ : Nat → Option Nat} {X : Nat → Prop} {a : Act} {w : World} (hs : Sim S ρ X a w) {ds : List Deferred} {nm : Bool} {b : Nat} (h : Ent.own ⟨S.hp, ρ, X, w, ds, nm⟩ b) : ∃ c T z, w.heap[b]? = some (.cells c T z) := by
  obtain ⟨o, x, h1, h2, h3⟩ := h
  exact (hs.objs o x h1).cells h2 h3

section
variable {P : Program} {fr : List (Nat × List Nat)}

theorem range_sound {E : Ent} {en : List Nat} {kk : Nat} (hnm : E.nm = false) (hen : ∀ n, E.hp n ≠ none → n ∈ en) {g : Operand} {ts : Array Tmp} {x y : Code} {S : St} {K : AExit → St → Prop} {Kp : Value → St → Prop}
    (hx : ∀ {E' : Ent} {en' : List Nat} {S1 : St} {K1 : AExit → St → Prop} {Kp1 : Value → St → Prop} {l k : Nat}, (∀ n, E'.hp n ≠ none → n ∈ en') → wpC P fr true en' x S1 K1 Kp1 → ∀ {a : Act} {w : World}, Inv E' S1 a w → x.wpIn (FR (some l)) k P (QQ E' K1 Kp1) a w)
    (hy : ∀ {E' : Ent} {en' : List Nat} {S1 : St} {K1 : AExit → St → Prop} {Kp1 : Value → St → Prop} {l k : Nat}, (∀ n, E'.hp n ≠ none → n ∈ en') → wpC P fr true en' y S1 K1 Kp1 → ∀ {a : Act} {w : World}, Inv E' S1 a w → y.wpIn (FR (some l)) k P (QQ E' K1 Kp1) a w)
    (h : wpC P fr false en (.rangeFunc g ts x y) S K Kp) {a : Act} {w : World} (hI : Inv E S a w) : (Code.rangeFunc g ts x y).wpIn (FR none) kk P (QQ E K Kp) a w := by
  simp only [wpC] at h
  obtain ⟨f, o, dx, n, ys, sl, hp, I, h1, h2, hcl, hseq, hys, hdt, hw0, hI0, hbody, hend⟩ := h.h
  have hI2 := hI.weak hen hw0
  refine wpIn_rangeFunc fun fn _ => ?_
  obtain ⟨ρ0, X0, hA0⟩ := hI
  obtain ⟨ρ, X, hA⟩ := hI2
  -- the function and what it captured
  have he := hA0.sim.ev g
  rw [h1] at he
  obtain ⟨fcs, c1, c2⟩ := he
  cases c1 with
  | fn hcs =>
  rename_i vs
  cases hcs with
  | cons hp1 hrest =>
  cases hrest with
  | nil =>
  cases hp1 with
  | ptr _ hb =>
  rename_i b
  have hgv : a.eval g = .func (.func f) #[] #[.pointer (some ⟨b, 0, none⟩)] := by rw [c2]; rfl
  obtain ⟨b', cs, T, z, q0, q1, _, q3⟩ := hA0.sim.objs o _ h2
  rw [hb] at q0; cases q0
  have hcd : RepD X0 w dx cs := by cases q3 with | d q3 => exact q3
  -- the record is laid
  let rec_ : LoopState → Option Code → Obj := fun st pe => .loop { state := st, pending := pe, fn, tmps := a.tmps, params := ts, assign := x, body := y, defers := w.heap.size }
  have hrec : ∀ st pe, oCells (rec_ st pe) = false := fun _ _ => rfl
  have hrecd : ∀ st pe c, rec_ st pe ≠ .deferred c := fun _ _ _ h => by cases h
  let w1 : World := (w.alloc (.deferred (some []))).alloc (rec_ .ready none)
  let l : Nat := w.heap.size + 1
  have hl1 : (w.alloc (.deferred (some []))).heap.size = l := by simp [l]
  have hD1 : w1.heap[w.heap.size]? = some (.deferred (some [])) := by
    have := Go.RowKit.Below.heap_alloc (w.alloc (.deferred (some []))) (rec_ .ready none) w.heap.size (by simp)
    rw [this]; exact World.alloc_heap_new w _
  have hL1 : w1.heap[l]? = some (rec_ .ready none) := by
    have := World.alloc_heap_new (w.alloc (.deferred (some []))) (rec_ .ready none)
    rw [hl1] at this; exact this
  let a1 : Act := { a with defers := [mark w.heap.size] ++ a.defers }
  have hEl : E.w.heap.size ≤ l := Nat.le_trans hA.ext.size (by simp [l])
  let J : Nat → World → Prop := fun i w' => ∃ ρ X, InvAt E (mkSt S.n sl (hp i)) ρ X a1 w' ∧ X l ∧ I i ∧ w'.heap[l]? = some (rec_ .ready none)
  let Jd : World → Prop := fun w' => ∃ e S', K e S' ∧ ∃ ρ X, InvAt E S' ρ X a1 w' ∧ X l ∧ ((e = .ret ∧ w'.heap[l]? = some (rec_ .done (some .ret))) ∨ (∃ id, e = .exit id ∧ w'.heap[l]? = some (rec_ .done (some (.exit id)))) ∨ (∃ t, e = .goto t ∧ w'.heap[l]? = some (rec_ .done (some (.goto t)))))
  have hJ0 : J 0 w1 := by
    have k1 := hA.alloc (.deferred (some []))
    have k2 := k1.alloc (rec_ .ready none)
    refine ⟨ρ, _, ⟨⟨k2.sim.n, k2.sim.slots, k2.sim.objs, k2.sim.inj, k2.sim.own, k2.sim.closedS, k2.sim.closedH⟩, k2.ext, k2.xs, k2.own, k2.same, ?_⟩, .inr hl1.symm, hI0, hL1⟩
    obtain ⟨ms, m1, _, m0, m2⟩ := hA.marks
    obtain ⟨ms', m1', _, _, m2'⟩ := k2.marks
    have hms : ms' = ms := by
      have : ms'.map mark = ms.map mark := List.append_cancel_right (m1'.symm.trans m1)
      exact mark_inj this
    subst hms
    refine ⟨w.heap.size :: ms', by show [mark w.heap.size] ++ a.defers = _; rw [m1]; rfl, (fun h => by rw [hnm] at h; cases h), List.nodup_cons.2 ⟨fun hm => ?_, m0⟩, fun D hD => ?_⟩
    · have := (Array.getElem?_eq_some_iff.1 (m2 _ hm).2.2).1
      omega
    · rcases List.mem_cons.1 hD with rfl | hD
      · exact ⟨hA.ext.size, .inl (.inr rfl), hD1⟩
      · exact m2' D hD
  refine ⟨l, [{ target := .collected w.heap.size, args := #[] }], w1, { target := .fn (.func f) #[.pointer (some ⟨b, 0, none⟩)], args := #[] ++ #[.func (.yield l) #[] #[]] }, w1, f, #[.func (.yield l) #[] #[], .pointer (some ⟨b, 0, none⟩)], w1, run_enterLoop_outer fn a.tmps ts x y, ?_, fun _ _ => trivial, ?_, (fun h => by cases h), ?_⟩
  · simp only [resolve, hgv, Deferred.ofValue]
    simp [Act.eval]
  · simp only [invoke]
    exact callable_run hcl _ w1
  have keep : ∀ {w w' : World} {o : Obj}, w.heap[l]? = some o → Ext (fun _ => False) w w' → w'.heap[l]? = some o := fun h hx => by
    rw [hx.keep l (Array.getElem?_eq_some_iff.1 h).1 fun k => k]; exact h
  have hst1 : ∀ i w w', J i w → Ext (fun _ => False) w w' → J i w' := fun i w w' ⟨ρ, X, kA, kX, kI, kL⟩ hx => ⟨ρ, X, kA.grow hx, kX, kI, keep kL hx⟩
  have hst2 : ∀ w w', Jd w → Ext (fun _ => False) w w' → Jd w' := fun w w' ⟨e, S', hK, ρ, X, kA, kX, hj⟩ hx => ⟨e, S', hK, ρ, X, kA.grow hx, kX, hj.imp (fun ⟨h1, h2⟩ => ⟨h1, keep h2 hx⟩) (Or.imp (fun ⟨i, h1, h2⟩ => ⟨i, h1, keep h2 hx⟩) (fun ⟨i, h1, h2⟩ => ⟨i, h1, keep h2 hx⟩))⟩
  refine callsIn_FR ((hseq J Jd l b w1 X0 cs ?_ ?_ hst1 hst2 hJ0 fun i hi w' hJ => ?_).mono fun e w' he => ?_)
  · exact hcd.mono (Y := fun _ => False) ((Ext.alloc _ w _).trans (Ext.alloc _ _ _)) (fun _ _ _ h => h) (fun _ _ h => h)
  · intro i v hv
    have hrow : RowAt w b 0 cs := by
      have := rowAt_of_heap (pre := []) (c := cs) (post := []) (w := w) (b := b) (T := T) (z := z) (by simpa using q1)
      simpa using this
    have hbl : b < w.heap.size := (Array.getElem?_eq_some_iff.1 q1).1
    rw [cell?_of_heap (((Ext.alloc (fun _ => False) w _).trans (Ext.alloc _ _ _)).keep b hbl (fun h => h))]
    exact hrow i v hv
  · -- a round
    obtain ⟨ρi, Xi, kA, kX, kI, kL⟩ := hJ
    obtain ⟨hyl, hysc⟩ := hys i
    have hsz : ((ys i).map D.sval).toArray.size = ts.size := by simpa using hyl
    refine ⟨_, _, _, _, run_yield kL hsz, ?_⟩
    have hk := kA.rnd (ts := ts.toList) (ys := ys i) hyl.symm hysc (distB_spec hdt)
    have hoc := fun b => own_cells (ds := []) (nm := true) kA.sim (b := b)
    refine roundIn_of_wpIn trivial ?_
    have hfold : (ts.zip ((ys i).map D.sval).toArray).foldl (fun tmps (p : Tmp × Value) => tmps.setIfInBounds p.1 p.2) a.tmps = (ts.toList.zip ((ys i).map D.sval)).foldl (fun tmps p => tmps.setIfInBounds p.1 p.2) a.tmps := by
      have := fold_put ts.toList ((ys i).map D.sval) a.tmps
      simpa using this
    show x.wpIn (FR (some l)) 0 P _ { tmps := (ts.zip ((ys i).map D.sval).toArray).foldl (fun tmps (p : Tmp × Value) => tmps.setIfInBounds p.1 p.2) a.tmps, defers := [] } w'
    rw [hfold]
    have hen' : ∀ (W : World), ∀ m, (Ent.hp ⟨(mkSt S.n sl (hp i)).hp, ρi, Xi, W, [], true⟩) m ≠ none → m ∈ (hp i).map (·.1) := fun W m hm => by
      have hm : lkp (hp i) m ≠ none := hm
      obtain ⟨z, hz⟩ := Option.ne_none_iff_exists'.1 hm
      exact List.mem_map.2 ⟨_, lkp_mem hz, rfl⟩
    refine wpIn_mono (hx (hen' w') (hbody i hi kI) ⟨ρi, Xi, hk⟩) fun e a2 w2 he => ?_
    cases e with
    | normal =>
      obtain ⟨S2, hS2, ρ2, X2, hA2⟩ := he
      have hnl : ¬ Ent.own ⟨(mkSt S.n sl (hp i)).hp, ρi, Xi, w', [], true⟩ l := fun hn => by
        obtain ⟨c, T, z, hc⟩ := hoc l hn
        rw [kL] at hc; cases hc
      have hlw : l < w'.heap.size := (Array.getElem?_eq_some_iff.1 kL).1
      have hL2 : w2.heap[l]? = some (rec_ .ready none) := by rw [hA2.ext.keep l hlw hnl]; exact kL
      have hX2 : X2 l := ((hA2.xs l hlw).2 kX).resolve_right hnl
      refine ⟨_, run_beginRound hL2 rfl, ?_⟩
      have hA3 := hA2.putObj2 (rec_ .busy none) hL2 rfl kL hX2 (hrecd _ _)
      have kA3 : InvAt E (mkSt S.n sl (hp i)) ρi Xi a1 (w'.putObj l (rec_ .busy none)) := kA.putObj _ kL rfl hEl kX (hrecd _ _)
      refine wpIn_mono (hy (hen' (w'.putObj l (rec_ .busy none))) hS2 ⟨ρ2, X2, hA3⟩) fun e a4 w4 he => ?_
      -- the end of a round
      have fin : ∀ {S4 : St}, Inv ⟨(mkSt S.n sl (hp i)).hp, ρi, Xi, w'.putObj l (rec_ .busy none), [], true⟩ S4 a4 w4 → w4.heap[l]? = some (rec_ .busy none) ∧ ∀ o', oCells o' = false → ∃ ρ X, InvAt E (wsl S.n sl S4) ρ X a1 (w4.putObj l o') ∧ X l := by
        intro S4 hI4
        obtain ⟨ρ4, X4, hA4⟩ := hI4
        have hnl' : ¬ Ent.own ⟨(mkSt S.n sl (hp i)).hp, ρi, Xi, w'.putObj l (rec_ .busy none), [], true⟩ l := hnl
        have hlw' : l < (w'.putObj l (rec_ .busy none)).heap.size := by simpa using hlw
        have hL4 : w4.heap[l]? = some (rec_ .busy none) := by rw [hA4.ext.keep l hlw' hnl']; exact World.putObj_heap_same hlw
        have hX4 : X4 l := ((hA4.xs l hlw').2 kX).resolve_right hnl'
        have hR := kA3.round hA4
        exact ⟨hL4, fun o' _ => ⟨ρ4, X4, hR.putObj o' hL4 rfl hEl hX4 (hrecd _ _), hX4⟩⟩
      have put_same : ∀ {o'}, w4.heap[l]? = some (rec_ .busy none) → (w4.putObj l o').heap[l]? = some o' := fun h => World.putObj_heap_same (Array.getElem?_eq_some_iff.1 h).1
      cases e with
      | normal =>
        obtain ⟨S4, hS4, hI4⟩ := he
        obtain ⟨hL4, hput⟩ := fin hI4
        obtain ⟨ρ5, X5, hA5, hX5⟩ := hput (rec_ .ready none) rfl
        have hS4 : EndC en S.n sl (hp (i + 1)) (I (i + 1)) S4 := hS4
        obtain ⟨ρ6, X6, hA6⟩ := Inv.weak ⟨ρ5, X5, hA5⟩ hen hS4.w
        refine ⟨_, _, run_endRound none hL4, true, rfl, fun _ => ?_, fun h => by cases h⟩
        obtain ⟨m, wk1, wk2, wk3⟩ := hS4.w.h
        refine ⟨_, X5, hA5.weakAt hen ?_ wk2 wk3, hX5, hS4.i, put_same hL4⟩
        rw [Chk_eq] at wk1; exact wk1
      | ret =>
        obtain ⟨S4, hS4, hI4⟩ := he
        obtain ⟨hL4, hput⟩ := fin hI4
        obtain ⟨ρ5, X5, hA5, hX5⟩ := hput (rec_ .done (some .ret)) rfl
        exact ⟨_, _, run_endRound (some .ret) hL4, false, rfl, (fun h => by cases h), fun _ => ⟨.ret, _, hS4, ρ5, X5, hA5, hX5, .inl ⟨rfl, put_same hL4⟩⟩⟩
      | exit id =>
        obtain ⟨S4, hS4, hI4⟩ := he
        obtain ⟨hL4, hput⟩ := fin hI4
        obtain ⟨ρ5, X5, hA5, hX5⟩ := hput (rec_ .done (some (.exit id))) rfl
        exact ⟨_, _, run_endRound (some (.exit id)) hL4, false, rfl, (fun h => by cases h), fun _ => ⟨.exit id, _, hS4, ρ5, X5, hA5, hX5, .inr (.inl ⟨id, rfl, put_same hL4⟩)⟩⟩
      | goto t =>
        obtain ⟨S4, hS4, hI4⟩ := he
        obtain ⟨hL4, hput⟩ := fin hI4
        obtain ⟨ρ5, X5, hA5, hX5⟩ := hput (rec_ .done (some (.goto t))) rfl
        exact ⟨_, _, run_endRound (some (.goto t)) hL4, false, rfl, (fun h => by cases h), fun _ => ⟨.goto t, _, hS4, ρ5, X5, hA5, hX5, .inr (.inr ⟨t, rfl, put_same hL4⟩)⟩⟩
      | panic ch => obtain ⟨_, _, _, hf, _⟩ := he; exact hf.elim
      | outgrown => exact he.elim
    | ret => obtain ⟨_, hf, _⟩ := he; exact hf.elim
    | exit id => obtain ⟨_, hf, _⟩ := he; exact hf.elim
    | goto t => obtain ⟨_, hf, _⟩ := he; exact hf.elim
    | panic ch => obtain ⟨_, _, _, hf, _⟩ := he; exact hf.elim
    | outgrown => exact he.elim
  · -- behind the iterator
    obtain ⟨v, rfl, hJ⟩ := he
    rcases hJ with ⟨ρn, Xn, kA, kX, kI, kL⟩ | ⟨e, S', hK, ρn, Xn, kA, kX, hj⟩
    · refine ⟨none, _, run_endLoop kL (by simp), ?_⟩
      exact ⟨_, hend kI, ρn, Xn, kA.putObj _ kL rfl hEl kX (hrecd _ _)⟩
    · rcases hj with ⟨rfl, kL⟩ | ⟨id, rfl, kL⟩ | ⟨t, rfl, kL⟩
      · exact ⟨some .ret, _, run_endLoop kL (by simp), wpIn_ret ⟨S', hK, ρn, Xn, kA.putObj _ kL rfl hEl kX (hrecd _ _)⟩⟩
      · exact ⟨some (.exit id), _, run_endLoop kL (by simp), wpIn_exit ⟨S', hK, ρn, Xn, kA.putObj _ kL rfl hEl kX (hrecd _ _)⟩⟩
      · exact ⟨some (.goto t), _, run_endLoop kL (by simp), wpIn_goto ⟨S', hK, ρn, Xn, kA.putObj _ kL rfl hEl kX (hrecd _ _)⟩⟩

theorem wpC_sound (hm : P.follows .mixedOrders = true) : ∀ (c : Code) {rd : Bool} {E : Ent} {en : List Nat} {S : St} {K : AExit → St → Prop} {Kp : Value → St → Prop} {ro : Option Nat} {k : Nat}, (rd = false → ro = none ∧ E.nm = false) → (∀ n, E.hp n ≠ none → n ∈ en) →
    wpC P fr rd en c S K Kp → ∀ {a : Act} {w : World}, Inv E S a w → c.wpIn (FR ro) k P (QQ E K Kp) a w
  | .skip, rd, E, en, S, K, Kp, ro, k, hro, hen, h, a, w, hI => by simp only [wpC] at h; exact wpIn_skip ⟨S, h, hI⟩
  | .label _, rd, E, en, S, K, Kp, ro, k, hro, hen, h, a, w, hI => by simp only [wpC] at h; exact wpIn_label ⟨S, h, hI⟩
  | .exit id, rd, E, en, S, K, Kp, ro, k, hro, hen, h, a, w, hI => by simp only [wpC] at h; exact wpIn_exit ⟨S, h, hI⟩
  | .goto l, rd, E, en, S, K, Kp, ro, k, hro, hen, h, a, w, hI => by simp only [wpC] at h; exact wpIn_goto ⟨S, h, hI⟩
  | .ret, rd, E, en, S, K, Kp, ro, k, hro, hen, h, a, w, hI => by simp only [wpC] at h; exact wpIn_ret ⟨S, h, hI⟩
  | .seq x y, rd, E, en, S, K, Kp, ro, k, hro, hen, h, a, w, hI => by
    simp only [wpC] at h
    refine wpIn_seq (wpIn_mono (wpC_sound hm x hro hen h hI) fun e a w he => ?_)
    cases e with
    | normal => obtain ⟨S', h1, h2⟩ := he; exact wpC_sound hm y hro hen h1 h2
    | ret => exact he
    | exit i => exact he
    | goto l => exact he
    | panic ch => exact he
    | outgrown => exact he
  | .cond c x y, rd, E, en, S, K, Kp, ro, k, hro, hen, h, a, w, hI => by
    simp only [wpC] at h
    split at h
    · rename_i b hb
      obtain ⟨ρ, X, hA⟩ := hI
      have he := hA.sim.ev c
      rw [hb] at he
      have hv := repA_bool he
      rw [bcase_eq] at h
      exact wpIn_cond_split hv (fun ht => wpC_sound hm x hro hen (h.1 ht) ⟨ρ, X, hA⟩) (fun ht => wpC_sound hm y hro hen (h.2 ht) ⟨ρ, X, hA⟩)
    · exact h.elim
  | .block id x, rd, E, en, S, K, Kp, ro, k, hro, hen, h, a, w, hI => by
    simp only [wpC] at h
    refine wpIn_block (wpIn_mono (wpC_sound hm x hro hen h hI) fun e a w he => ?_)
    cases e with
    | exit i =>
      obtain ⟨S', h1, h2⟩ := he
      have h1 : (bif i.beq id then K .normal S' else K (.exit i) S') := h1
      simp only [Exit.inBlock]
      cases hb : i.beq id with
      | true =>
        rw [hb] at h1
        rw [if_pos (Nat.eq_of_beq_eq_true hb)]
        exact ⟨S', h1, h2⟩
      | false =>
        rw [hb] at h1
        rw [if_neg fun e => by subst e; simp at hb]
        exact ⟨S', h1, h2⟩
    | normal => exact he
    | ret => exact he
    | goto l => exact he
    | panic ch => exact he
    | outgrown => exact he
  | .scope x, rd, E, en, S, K, Kp, ro, k, hro, hen, h, a, w, hI => by
    simp only [wpC] at h
    refine wpIn_scope_straight (wpIn_mono (wpC_sound hm x hro hen h hI) fun e a w he => ?_)
    cases e with
    | goto l => obtain ⟨_, h1, _⟩ := he; exact h1.elim
    | normal => exact he
    | ret => exact he
    | exit i => exact he
    | panic ch => exact he
    | outgrown => exact he
  | .region id ops draw, rd, E, en, S, K, Kp, ro, k, hro, hen, h, a, w, hI => by
    simp only [wpC] at h
    obtain ⟨S, h, hI⟩ := frC_sound h hI
    cases draw with
    | true =>
      simp only [vcR, cond_true] at h
      obtain ⟨pi, fs, out, t, hc, ho⟩ := region_sound h
      rw [Chk_eq, Bool.and_eq_true] at hc
      refine wpIn_region_any hm (tr_any hc.2 ops.size (by rw [show ops = ops.toList.toArray by simp]; exact t) ?_ ?_ ?_ ?_ ?_ ?_ hI.drew ?_ ?_)
      · have := okPairs_spec hc.1
        rw [List.pairwise_reverse] at this
        exact this
      · exact List.nodup_range'
      · simp
      · intro k
        rw [List.mem_range'_1]
        constructor
        · intro hk
          refine ⟨by simpa using hk.2, ?_⟩
          rw [Array.getD_eq_getD_getElem?, Array.getElem?_eq_getElem (by simpa using hk.2)]; simp
        · intro hk; exact ⟨by omega, by simpa using hk.1⟩
      · intro k hk hn j _ _
        exact hn (by rw [List.mem_range'_1]; exact ⟨by omega, by simpa using hk⟩)
      · simp
      · intro S' a' w' he hI'
        subst he
        obtain ⟨S3, k1, k2⟩ := frC_sound ho hI'
        exact ⟨S3, k1, k2⟩
      · intro pv S' a' w' he hI'
        subst he; exact ⟨pv, S', rfl, ho, hI'⟩
    | false =>
      simp only [vcR, cond_false] at h
      obtain ⟨pi, fs, out, t, _, ho⟩ := region_sound h
      refine wpIn_region ?_
      rw [List.range_eq_range']
      refine tr_text t hI ?_ ?_
      · intro S' a' w' he hI'
        subst he
        obtain ⟨S3, k1, k2⟩ := frC_sound ho hI'
        exact ⟨S3, k1, k2⟩
      · intro pv S' a' w' he hI'
        subst he; exact ⟨pv, S', rfl, ho, hI'⟩
  | .loop x, rd, E, en, S, K, Kp, ro, k, hro, hen, h, a, w, hI => by
    simp only [wpC] at h
    obtain ⟨Y, sl, hp, μ, x0, h1, h2⟩ := h.h
    refine wpIn_loopI (fun x a w => Inv E (mkSt S.n (sl x) (hp x)) a w) μ (hI.weak hen h1) fun y a w hy => ?_
    refine wpIn_mono (wpC_sound hm x hro hen (h2 y) hy) fun e a w he => ?_
    cases e with
    | normal =>
      obtain ⟨S', hn, h4⟩ := he
      have hn : NextC en sl hp μ S.n y S' := hn
      obtain ⟨x', k1, k2, k3⟩ := hn.h
      refine ⟨x', ?_, k1⟩
      have := h4.weak hen k3
      rw [k2] at this; exact this
    | ret => exact he
    | exit i => exact he
    | goto l => exact he
    | panic ch => exact he
    | outgrown => exact he
  | .rangeFunc g ts x y, rd, E, en, S, K, Kp, ro, k, hro, hen, h, a, w, hI => by
    cases rd with
    | true => simp only [wpC] at h
    | false =>
      obtain ⟨hr1, hr2⟩ := hro rfl
      subst hr1
      exact range_sound hr2 hen (fun {E' en' S1 K1 Kp1 l k} he hw {a w} hi => wpC_sound hm x (rd := true) (fun h => by cases h) he hw hi) (fun {E' en' S1 K1 Kp1 l k} he hw {a w} hi => wpC_sound hm y (rd := true) (fun h => by cases h) he hw hi) h hI
  | .refuse _, rd, E, en, S, K, Kp, ro, k, hro, hen, h, a, w, hI => by simp only [wpC] at h

end

attribute [irreducible] wpC

end Go.Sym

/-
A function by its body: from 'wpC' of the body to what is said of its calls.
-/
set_option linter.unusedSimpArgs false
set_option linter.unusedVariables false
namespace Go.Sym

/-! ### What a body hands back -/

def aRes1 (P : Program) (S : St) : ResultVar → Option (Prop × AV)
  | .tmp t => bif Nat.blt t S.n then some (True, S.sl t) else none
  | .cell t T => bif Nat.blt t S.n then match aLoad P T S.hp (S.sl t) with
      | some res => some (res.side, res.r)
      | none => none
    else none

def aRes (P : Program) (S : St) : List ResultVar → Option (Prop × List AV)
  | [] => some (True, [])
  | r :: rs => match aRes1 P S r, aRes P S rs with
    | some (s, x), some (s', xs) => some (s ∧ s', x :: xs)
    | _, _ => none

/-- One result, read. -/
def rdRes (tmps : Array Value) : ResultVar → Sem Value
  | .tmp t => pure (tmps.getD t undef)
  | .cell t T => do loadVar T (← asAddr (tmps.getD t undef))

theorem run_asAddr {P : Program} {w : World} (x : Addr) (T : TypeId) : (do loadVar T (← asAddr (.pointer (some x))) : Sem Value).run P w = (loadVar T x).run P w := by
  have h : (asAddr (.pointer (some x))).run P w = .ok x w := rfl
  rw [run_bind_ok h]

theorem aRes1_run {P : Program} {S : St} {ρ : Nat → Option Nat} {X : Nat → Prop} {a : Act} {w : World} (hs : Sim S ρ X a w) {rv : ResultVar} {s : Prop} {x : AV} (h : aRes1 P S rv = some (s, x)) (hside : s) :
    ∃ v, (rdRes a.tmps rv).run P w = .ok v w ∧ RepA ρ X w x v ∧ ∀ n, n ∈ x.names → S.hp n ≠ none := by
  cases rv with
  | tmp t =>
    simp only [aRes1] at h
    cases hb : Nat.blt t S.n <;> simp only [hb, cond_true, cond_false] at h <;> cases h
    have hlt : t < a.tmps.size := by rw [hs.n]; simpa using hb
    refine ⟨_, rfl, hs.slots t _ ?_, hs.closedS t⟩
    rw [Array.getD_eq_getD_getElem?, Array.getElem?_eq_getElem hlt]; rfl
  | cell t T =>
    simp only [aRes1] at h
    cases hb : Nat.blt t S.n <;> simp only [hb, cond_true, cond_false] at h <;> try (cases h; done)
    have hlt : t < a.tmps.size := by rw [hs.n]; simpa using hb
    have hv := hs.slots t (a.tmps.getD t undef) (by rw [Array.getD_eq_getD_getElem?, Array.getElem?_eq_getElem hlt]; rfl)
    simp only [rdRes]
    generalize a.tmps.getD t undef = v at hv ⊢
    split at h <;> cases h
    rename_i res hl
    cases hx : S.sl t <;> rw [hx] at hl <;> simp only [aLoad] at hl <;> try (cases hl; done)
    · rename_i n p
      split at hl <;> try (cases hl; done)
      rename_i obj hobj
      split at hl <;> try (cases hl; done)
      rename_i s y hn
      cases ht : tyOK P T y.size y.isAgg <;> simp only [ht, cond_true, cond_false] at hl <;> try (cases hl; done)
      cases hl
      rw [hx] at hv
      obtain ⟨b, hb0, rfl⟩ := repA_ptr hv
      obtain ⟨b', pre, c, post, T', z, h0, h1, h2, h3⟩ := objNav_rep hn hside (hs.objs n obj hobj)
      rw [hb0] at h0; cases h0
      have hrow := rowAt_of_heap h1
      rw [h2] at hrow
      have hl : c.length = y.size := h3.length
      refine ⟨wrapV y.isAgg c, ?_, repA_of_c h3, fun m hm => hs.closedH n obj hobj m (objNav_names hn m hm)⟩
      rw [run_asAddr]
      exact run_loadVar hrow (by rw [hl]; exact ht) (fun hag => notAgg_size h3 hag)
    · rename_i y
      cases ht : tyOK P T y.size y.isAgg <;> simp only [ht, cond_true, cond_false] at hl <;> try (cases hl; done)
      cases hl
      rw [hx] at hv
      obtain ⟨b, q, cs, rfl, h1, h2, h3, h4⟩ := repA_dptr hv
      refine ⟨wrapV y.isAgg cs, ?_, repA_mk h4, fun m hm => by cases hm⟩
      rw [run_asAddr]
      exact run_loadVar h3 (by rw [h4.length]; exact ht) (fun hag => notAgg_size (ρ := ρ) (.d h4) hag)

theorem aRes_run {P : Program} {S : St} {ρ : Nat → Option Nat} {X : Nat → Prop} {a : Act} {w : World} (hs : Sim S ρ X a w) : ∀ {rvs : List ResultVar} {s : Prop} {xs : List AV}, aRes P S rvs = some (s, xs) → s →
    ∃ vs : List Value, (rvs.mapM (rdRes a.tmps)).run P w = .ok vs w ∧ xs.length = vs.length ∧
      (∀ (i : Nat) (x : AV) (v : Value), xs[i]? = some x → vs[i]? = some v → RepA ρ X w x v) ∧ ∀ n, n ∈ AV.namesL xs → S.hp n ≠ none
  | [], s, xs, h, _ => by
    simp only [aRes, Option.some.injEq, Prod.mk.injEq] at h
    obtain ⟨_, rfl⟩ := h
    exact ⟨[], rfl, rfl, fun i x v h => by simp at h, fun n h => by cases h⟩
  | r :: rs, s, xs, h, hside => by
    simp only [aRes] at h
    split at h <;> cases h
    rename_i h1 h2
    obtain ⟨v, k1, k2, k3⟩ := aRes1_run hs h1 hside.1
    obtain ⟨vs, m1, m2, m3, m4⟩ := aRes_run hs h2 hside.2
    refine ⟨v :: vs, ?_, by simp [m2], fun i x u hx hu => ?_, fun n hn => ?_⟩
    · rw [List.mapM_cons]
      rw [run_bind_ok k1, run_bind_ok m1]; rfl
    · cases i with
      | zero =>
        simp only [List.getElem?_cons_zero, Option.some.injEq] at hx hu
        subst hx; subst hu; exact k2
      | succ i => exact m3 i x u (by simpa using hx) (by simpa using hu)
    · simp only [AV.namesL, List.mem_append] at hn
      exact hn.elim (k3 n) (m4 n)

def oneV : List Value → Value
  | [v] => v
  | vs => .tuple vs.toArray

theorem results_run {P : Program} {fn : Func} {a : Act} {w : World} {vs : List Value} (h : (fn.results.toList.mapM (rdRes a.tmps)).run P w = .ok vs w) :
    (results fn a.tmps).run P w = .ok (oneV vs) w := by
  have e : results fn a.tmps = (do
      let vs ← fn.results.mapM (rdRes a.tmps)
      pure (if h : vs.size = 1 then vs[0] else .tuple vs)) := rfl
  rw [e, Array.mapM_eq_mapM_toList, bind_map_left]
  refine (run_bind_ok h).trans ?_
  match vs with
  | [] => rfl
  | [_] => rfl
  | _ :: _ :: _ => rfl

/-! ### The frame at the start -/

def enumA : Nat → List AV → List (Nat × AV)
  | _, [] => []
  | i, x :: xs => (i, x) :: enumA (i + 1) xs

theorem enumA_lkp : ∀ (xs : List AV) (i t : Nat) (x : AV), lkp (enumA i xs) t = some x → i ≤ t ∧ xs[t - i]? = some x
  | [], _, _, _, h => by cases h
  | y :: xs, i, t, x, h => by
    simp only [enumA, lkp] at h
    cases hb : i.beq t with
    | true =>
      simp only [hb, cond_true, Option.some.injEq] at h
      have := Nat.eq_of_beq_eq_true hb
      subst this; subst h
      exact ⟨Nat.le_refl _, by simp⟩
    | false =>
      simp only [hb, cond_false] at h
      obtain ⟨h1, h2⟩ := enumA_lkp xs (i + 1) t x h
      refine ⟨by omega, ?_⟩
      rw [show t - i = (t - (i + 1)) + 1 by omega, List.getElem?_cons_succ]
      exact h2

def entOK (n : Nat) (args : List AV) (pre : List (Nat × AObj)) : Bool :=
  Nat.ble args.length n && args.all (fun x => x.names.all (hasKey pre)) && pre.all (fun p => p.2.names.all (hasKey pre))

theorem namesL_mem {n : Nat} : ∀ {xs : List AV}, n ∈ AV.namesL xs ↔ ∃ x, x ∈ xs ∧ n ∈ x.names
  | [] => by simp [AV.namesL]
  | x :: xs => by simp [AV.namesL, namesL_mem (xs := xs)]

theorem RepT.length {ρ : Nat → Option Nat} {X : Nat → Prop} {w : World} : ∀ {xs : List AV} {vs : List Value}, RepT ρ X w xs vs → xs.length = vs.length
  | [], [], _ => rfl
  | _ :: _, _ :: _, h => by simp [RepT.length h.2]
  | [], _ :: _, h => h.elim
  | _ :: _, [], h => h.elim

theorem RepA1.toA {ρ : Nat → Option Nat} {X : Nat → Prop} {w : World} {x : AV} {v : Value} (h : RepA1 ρ X w x v) : RepA ρ X w x v := by
  obtain ⟨cs, h1, h2⟩ := h
  rw [h2]; exact repA_of_c h1

theorem HSim.start {hp : Nat → Option AObj} {ρ : Nat → Option Nat} {X : Nat → Prop} {w : World} {n : Nat} {args : List AV} {pre : List (Nat × AObj)} {vs : List Value} (hh : HSim hp ρ X w) (hr : RepT ρ X w args vs)
    (hpre : ∀ p, p ∈ pre → hp p.1 = some p.2) (hok : entOK n args pre = true) :
    Inv ⟨fun o => lkp pre o, ρ, X, w, [], false⟩ (mkSt n (enumA 0 args) pre) { tmps := vs.toArray ++ Array.replicate (n - vs.toArray.size) undef, defers := [] } w := by
  simp only [entOK, Bool.and_eq_true, List.all_eq_true, hasKey, Option.isSome_iff_ne_none] at hok
  obtain ⟨⟨k0, k1⟩, k2⟩ := hok
  have hlen : args.length ≤ n := by simpa using k0
  have hvl := hr.length
  have sl : ∀ t x, lkp (enumA 0 args) t = some x → args[t]? = some x := fun t x h => (enumA_lkp args 0 t x h).2
  refine ⟨ρ, X, ⟨⟨?_, fun t v ht => ?_, fun o x h => ?_, fun o o' x x' b e1 e2 e3 e4 e5 e6 => ?_, fun o x b e1 e2 e3 => ?_, fun t o ho => ?_, fun o x h o' ho' => ?_⟩,
    .refl _ _, fun b _ => ⟨id, .inl⟩, fun o x b e1 e2 e3 => .inr ⟨o, x, e1, e2, e3⟩, fun o ho => ⟨ho, rfl⟩, ⟨[], rfl, fun _ => rfl, .nil, fun D hD => by cases hD⟩⟩⟩
  · show (vs.toArray ++ Array.replicate (n - vs.toArray.size) undef).size = n
    simp; omega
  · show RepA ρ X w (match lkp (enumA 0 args) t with | some x => x | none => .top) v
    cases hl : lkp (enumA 0 args) t with
    | none => trivial
    | some x =>
      have hx := sl t x hl
      have hlt : t < args.length := (List.getElem?_eq_some_iff.1 hx).1
      obtain ⟨u, hu1, hu2⟩ := hr.get hx
      have ht' : (vs.toArray ++ Array.replicate (n - vs.toArray.size) undef)[t]? = some v := ht
      rw [Array.getElem?_append_left (by simpa [← hvl] using hlt)] at ht'
      have : u = v := by simpa [hu1] using ht'
      rw [← this]; exact hu2.toA
  · exact hh.objs o x (hpre (o, x) (lkp_mem h))
  · exact hh.inj o o' x x' b (hpre _ (lkp_mem e1)) e2 (hpre _ (lkp_mem e3)) e4 e5 e6
  · exact hh.own o x b (hpre _ (lkp_mem e1)) e2 e3
  · have ho : o ∈ (match lkp (enumA 0 args) t with | some x => x | none => .top : AV).names := ho
    cases hl : lkp (enumA 0 args) t with
    | none => rw [hl] at ho; cases ho
    | some x => rw [hl] at ho; exact k1 x (List.mem_of_getElem? (sl t x hl)) o ho
  · exact k2 _ (lkp_mem h) o' ho'

/-! ### The end -/

def one : List AV → AV
  | [x] => x
  | xs => .tup xs

def eqAVs : List AV → List AV → Prop
  | [], [] => True
  | x :: xs, y :: ys => eqAV x y ∧ eqAVs xs ys
  | _, _ => False

theorem eqAVs_spec : ∀ {xs ys : List AV}, eqAVs xs ys → xs = ys
  | [], [], _ => rfl
  | _ :: _, _ :: _, h => by rw [eqAV_spec h.1, eqAVs_spec h.2]
  | [], _ :: _, h => h.elim
  | _ :: _, [], h => h.elim

/-- What a contract says is there behind the call, of what it names. -/
def finHp (pre : List (Nat × AObj)) (ws : List (Nat × AObj)) : List (Nat × AObj) := ws ++ pre.filter fun p => !(hasKey ws p.1)

def finOK (pre : List (Nat × AObj)) (nw : List Nat) (m : List (Nat × Nat)) (rs : List AV) (ws : List (Nat × AObj)) : Bool :=
  wkOK (pre.map (·.1)) m [(0, .tup rs)] (finHp pre ws) && nw.all (hasKey ws) && ws.all (fun p => hasKey pre p.1 || nw.contains p.1)

structure RetC (P : Program) (fn : Func) (pre : List (Nat × AObj)) (nw : List Nat) (rs : List AV) (ws : List (Nat × AObj)) (S : St) : Prop where
  h : ∃ (ms : List Bool) (m : List (Nat × Nat)) (s s' : Prop) (xs ys : List AV) (fz kl : List Nat), aRes P S fn.results.toList = some (s, xs) ∧ s ∧ cvt S.hp ms xs = some (s', ys, fz) ∧ s' ∧ eqAVs ys (AV.rens m rs) ∧
    Chk (finOK pre nw m rs ws) ∧ wkHp (S.write (deads (fz ++ kl))) m (finHp pre ws)

def FnC (P : Program) (fn : Func) (c : Code) (fr : List (Nat × List Nat)) (args : List AV) (pre : List (Nat × AObj)) (nw : List Nat) (rs : List AV) (ws : List (Nat × AObj)) : Prop :=
  Chk (entOK fn.ntmps args pre) ∧ wpC P fr false (pre.map (·.1)) c (mkSt fn.ntmps (enumA 0 args) pre) (fun e S' => match e with
    | .normal => RetC P fn pre nw rs ws S'
    | .ret => RetC P fn pre nw rs ws S'
    | _ => False) (fun _ _ => False)

/-- What is there where a call panics. -/
structure PanC (pre : List (Nat × AObj)) (nw : List Nat) (ws : List (Nat × AObj)) (S : St) : Prop where
  h : ∃ (m : List (Nat × Nat)) (kl : List Nat), Chk (finOK pre nw m [] ws) ∧ wkHp (S.write (deads kl)) m (finHp pre ws)

def FnPan (P : Program) (fn : Func) (c : Code) (fr : List (Nat × List Nat)) (args : List AV) (pre : List (Nat × AObj)) (nw : List Nat) (pv : Value) (ws : List (Nat × AObj)) : Prop :=
  Chk (entOK fn.ntmps args pre) ∧ wpC P fr false (pre.map (·.1)) c (mkSt fn.ntmps (enumA 0 args) pre) (fun _ _ => False) (fun v S' => Side (v = pv) ∧ PanC pre nw ws S')

theorem lkp_filter {α : Type} {q : Nat → Bool} {n : Nat} : ∀ {l : List (Nat × α)}, q n = true → lkp (l.filter fun p => q p.1) n = lkp l n
  | [], _ => rfl
  | (k, v) :: l, h => by
    cases hq : q k with
    | true =>
      rw [List.filter_cons_of_pos (by simpa using hq)]
      simp only [lkp]
      rw [lkp_filter h]
    | false =>
      rw [List.filter_cons_of_neg (by simp [hq])]
      simp only [lkp]
      have : k.beq n = false := by
        cases hb : k.beq n with
        | false => rfl
        | true => have := Nat.eq_of_beq_eq_true hb; subst this; rw [h] at hq; cases hq
      rw [this, cond_false]
      exact lkp_filter h

theorem finHp_lkp (pre ws : List (Nat × AObj)) (n : Nat) : lkp (finHp pre ws) n = match lkp ws n with
    | some x => some x
    | none => lkp pre n := by
  unfold finHp
  rw [lkp_append]
  cases h : lkp ws n with
  | some x => rfl
  | none => exact lkp_filter (q := fun k => !hasKey ws k) (by simp [hasKey, h])

open Classical in
/-- **What holds behind the call, for the caller.** -/
theorem fin_call {hp : Nat → Option AObj} {ρ : Nat → Option Nat} {X : Nat → Prop} {w : World} {pre : List (Nat × AObj)} {nw : List Nat} (hh : HSim hp ρ X w) (hpre : ∀ p, p ∈ pre → hp p.1 = some p.2) (hnw : ∀ n, n ∈ nw → hp n = none)
    {S : St} {ρ' : Nat → Option Nat} {X' : Nat → Prop} {a : Act} {w' : World} {ds : List Deferred} {nm : Bool} (hA : InvAt ⟨fun o => lkp pre o, ρ, X, w, ds, nm⟩ S ρ' X' a w') {m : List (Nat × Nat)} {rs : List AV} {ws : List (Nat × AObj)}
    (hok : finOK pre nw m rs ws = true) (hw : wkHp S m (finHp pre ws)) :
    ∃ ρf : Nat → Option Nat, HSim (wr hp ws) ρf X' w' ∧ HEvo hp (wr hp ws) ρ ρf X X' w w' ∧ (∀ n, n ∈ AV.namesL rs → ρf n = ρ' (renN m n) ∧ wr hp ws n ≠ none) := by
  simp only [finOK, wkOK, Bool.and_eq_true, List.all_eq_true, Bool.or_eq_true, Bool.not_eq_true', hasKey, Option.isSome_iff_ne_none, List.contains_eq_mem, decide_eq_true_eq] at hok
  obtain ⟨⟨⟨⟨⟨k1, k2⟩, k3⟩, k4⟩, k5⟩, k6⟩ := hok
  let ρf : Nat → Option Nat := fun n => if hp n ≠ none then ρ n else ρ' (renN m n)
  -- the names of the contract
  have hwr : ∀ n x, wr hp ws n = some x → lkp (finHp pre ws) n = some x ∨ (lkp ws n = none ∧ lkp pre n = none ∧ hp n = some x) := fun n x h => by
    rw [finHp_lkp]
    unfold wr at h
    cases hl : lkp ws n with
    | some y => simp only [hl] at h ⊢; exact .inl h
    | none =>
      simp only [hl] at h ⊢
      cases hp' : lkp pre n with
      | none => exact .inr ⟨trivial, rfl, h⟩
      | some y => left; rw [← hpre _ (lkp_mem hp')]; exact h
  have hfin : ∀ n, lkp (finHp pre ws) n ≠ none → ρf n = ρ' (renN m n) ∧ wr hp ws n ≠ none := fun n h => by
    rw [finHp_lkp] at h
    have preCase : lkp pre n ≠ none → ρf n = ρ' (renN m n) ∧ hp n ≠ none := fun hn => by
      obtain ⟨x, hx⟩ := Option.ne_none_iff_exists'.1 hn
      have hpn : hp n ≠ none := by rw [hpre _ (lkp_mem hx)]; simp
      have hm : renN m n = n := Nat.eq_of_beq_eq_true (k4 n (List.mem_map.2 ⟨_, lkp_mem hx, rfl⟩)).1
      refine ⟨?_, hpn⟩
      show (if hp n ≠ none then ρ n else ρ' (renN m n)) = _
      rw [if_pos hpn, hm]
      exact (hA.same n hn).2.symm
    by_cases hn : lkp pre n = none
    · cases hl : lkp ws n with
      | none => rw [hl] at h; exact absurd hn h
      | some x =>
        have hnn : n ∈ nw := by
          rcases k6 _ (lkp_mem hl) with h' | h'
          · exact absurd hn h'
          · exact h'
        refine ⟨?_, ?_⟩
        · show (if hp n ≠ none then ρ n else ρ' (renN m n)) = _
          rw [if_neg (by rw [hnw n hnn]; simp)]
        · unfold wr; rw [hl]; simp
    · obtain ⟨h1, h2⟩ := preCase hn
      exact ⟨h1, wr_ne h2⟩
  have hobj : ∀ n x, lkp (finHp pre ws) n = some x → S.hp (renN m n) = some (x.ren m) := fun n x h => wkHp_spec hw n x (lkp_mem h)
  have hEown : ∀ b, Ent.own ⟨fun o => lkp pre o, ρ, X, w, ds, nm⟩ b → ∃ o x, hp o = some x ∧ x.alive = true ∧ ρ o = some b := fun b ⟨o, x, h1, h2, h3⟩ => ⟨o, x, hpre _ (lkp_mem h1), h2, h3⟩
  have hEX : ∀ b, Ent.own ⟨fun o => lkp pre o, ρ, X, w, ds, nm⟩ b → X b := fun b hb => by
    obtain ⟨o, x, h1, h2, h3⟩ := hEown b hb; exact hh.own o x b h1 h2 h3
  -- an object that the contract does not name
  have hoth : ∀ n x b, lkp pre n = none → hp n = some x → x.alive = true → ρ n = some b → b < w.heap.size ∧ ¬ Ent.own ⟨fun o => lkp pre o, ρ, X, w, ds, nm⟩ b := fun n x b hn hx ha hb => by
    refine ⟨(hh.objs n x hx).lt ha hb, ?_⟩
    rintro ⟨o, y, h1, h2, h3⟩
    have := hh.inj n o x y b hx ha (hpre _ (lkp_mem h1)) h2 hb h3
    subst this
    have h1 : lkp pre n = some y := h1
    rw [hn] at h1; cases h1
  have hρf : ∀ n, hp n ≠ none → ρf n = ρ n := fun n h => if_pos h
  have g : Goes ρ ρf X X' (Ent.own ⟨fun o => lkp pre o, ρ, X, w, ds, nm⟩) w w' := ⟨hA.ext, fun b _ h1 h2 => h1 (hEX b h2), fun b hb h => (hA.xs b hb).1 h⟩
  have own : ∀ n x b, wr hp ws n = some x → x.alive = true → ρf n = some b → X' b ∧ (w.heap.size ≤ b ∨ ∃ o' x', hp o' = some x' ∧ x'.alive = true ∧ ρ o' = some b) := fun n x b h1 h2 h3 => by
    rcases hwr n x h1 with h | ⟨e1, e2, e3⟩
    · have hb := (hfin n (by rw [h]; simp)).1
      rw [hb] at h3
      have ha : (x.ren m).alive = true := by rw [AObj.ren_alive]; exact h2
      exact ⟨hA.sim.own _ _ b (hobj n x h) ha h3, (hA.own _ _ b (hobj n x h) ha h3).imp id (hEown b)⟩
    · rw [hρf n (by rw [e3]; simp)] at h3
      obtain ⟨q1, q2⟩ := hoth n x b e2 e3 h2 h3
      refine ⟨?_, .inr ⟨n, x, e3, h2, h3⟩⟩
      rcases (hA.xs b q1).2 (hh.own n x b e3 h2 h3) with k | k
      · exact k
      · exact absurd k q2
  refine ⟨ρf, ⟨fun n x h => ?_, fun o o' x x' b e1 e2 e3 e4 e5 e6 => ?_, fun o x b e1 e2 e3 => (own o x b e1 e2 e3).1, fun n x h o' ho' => ?_⟩, ⟨?_, fun b hb => ⟨(hA.xs b hb).1, fun k => ?_⟩, fun o x b e1 e2 e3 => (own o x b e1 e2 e3).2, hρf⟩, fun n hn => ?_⟩
  · rcases hwr n x h with h | ⟨e1, e2, e3⟩
    · have h1 := ObjAt.ren (hA.sim.objs _ _ (hobj n x h))
      refine h1.mono (Y := fun _ => False) ⟨.refl _ _, fun _ _ _ h => h, fun _ _ h => h⟩ (hfin n (by rw [h]; simp)).1 (fun _ _ => rfl) fun o ho => (hfin o (k2 _ (lkp_mem h) o ho)).1
    · have hne : hp n ≠ none := by rw [e3]; simp
      cases ha : x.alive with
      | false => cases x <;> first | trivial | cases ha
      | true =>
        refine (hh.objs n x e3).mono g (hρf n hne) (fun b hb => ?_) fun o ho => hρf o (hh.closed n x e3 o ho)
        obtain ⟨q1, q2⟩ := hoth n x b e2 e3 ha hb
        exact hA.ext.keep b q1 q2
  · rcases hwr o x e1 with h | ⟨q1, q2, q3⟩
    · have hb := (hfin o (by rw [h]; simp)).1
      rw [hb] at e5
      have ha : (x.ren m).alive = true := by rw [AObj.ren_alive]; exact e2
      rcases hwr o' x' e3 with h' | ⟨q1', q2', q3'⟩
      · have hb' := (hfin o' (by rw [h']; simp)).1
        rw [hb'] at e6
        have ha' : (x'.ren m).alive = true := by rw [AObj.ren_alive]; exact e4
        have := hA.sim.inj _ _ _ _ b (hobj o x h) ha (hobj o' x' h') ha' e5 e6
        rcases k3 _ (lkp_mem h) _ (lkp_mem h') with h | h
        · exact Nat.eq_of_beq_eq_true h
        · simp only at h
          rw [this] at h; simp at h
      · rw [hρf o' (by rw [q3']; simp)] at e6
        obtain ⟨z1, z2⟩ := hoth o' x' b q2' q3' e4 e6
        rcases hA.own _ _ b (hobj o x h) ha e5 with k | k
        · have : w.heap.size ≤ b := k
          omega
        · exact absurd k z2
    · rw [hρf o (by rw [q3]; simp)] at e5
      obtain ⟨z1, z2⟩ := hoth o x b q2 q3 e2 e5
      rcases hwr o' x' e3 with h' | ⟨q1', q2', q3'⟩
      · have hb' := (hfin o' (by rw [h']; simp)).1
        rw [hb'] at e6
        have ha' : (x'.ren m).alive = true := by rw [AObj.ren_alive]; exact e4
        rcases hA.own _ _ b (hobj o' x' h') ha' e6 with k | k
        · have : w.heap.size ≤ b := k
          omega
        · exact absurd k z2
      · rw [hρf o' (by rw [q3']; simp)] at e6
        exact hh.inj o o' x x' b q3 e2 q3' e4 e5 e6
  · rcases hwr n x h with h | ⟨e1, e2, e3⟩
    · exact (hfin o' (k2 _ (lkp_mem h) o' ho')).2
    · exact wr_ne (hh.closed n x e3 o' ho')
  · exact hA.ext.mono fun b _ hb => hEown b hb
  · exact ((hA.xs b hb).2 k).imp id (hEown b)
  · have hm : n ∈ (AV.tup rs).names := by simpa only [AV.names] using hn
    exact hfin n (k1 (0, .tup rs) (by simp) n hm)

end Go.Sym

/-
A function by its body: the join.
-/
set_option linter.unusedSimpArgs false
set_option linter.unusedVariables false
namespace Go.Sym

/-- A mark is come to. -/
theorem InvAt.take {E : Ent} {S : St} {ρ : Nat → Option Nat} {X : Nat → Prop} {a : Act} {w : World} (hA : InvAt E S ρ X a w) {D : Nat} {ms : List Nat} (hd : a.defers = (D :: ms).map mark ++ E.ds) :
    w.heap[D]? = some (.deferred (some [])) ∧ InvAt E S ρ X { a with defers := ms.map mark ++ E.ds } (w.putObj D (.deferred none)) := by
  obtain ⟨ms', m1, mn, m0, m2⟩ := hA.marks
  have hms : ms' = D :: ms := mark_inj (List.append_cancel_right (m1.symm.trans hd))
  subst hms
  obtain ⟨h1, h2, h3⟩ := m2 D (by simp)
  have hs := hA.sim.putObj (.deferred none) h3 rfl h2
  refine ⟨h3, ⟨⟨hs.n, hs.slots, hs.objs, hs.inj, hs.own, hs.closedS, hs.closedH⟩, ⟨hA.ext.os, hA.ext.tape, hA.ext.output, by simpa using hA.ext.size, fun b hb hn => ?_, fun b c T z hb => ?_⟩, hA.xs, hA.own, hA.same, ms, rfl, (fun h => by have := mn h; cases this), (List.nodup_cons.1 m0).2, fun D' hD' => ?_⟩⟩
  · rw [World.putObj_heap_other (by omega)]; exact hA.ext.keep b hb hn
  · have hb' : b < E.w.heap.size := (Array.getElem?_eq_some_iff.1 hb).1
    rw [World.putObj_heap_other (by omega)]; exact hA.ext.shape b c T z hb
  · obtain ⟨k1, k2, k3⟩ := m2 D' (by simp [hD'])
    exact ⟨k1, k2, by rw [World.putObj_heap_other fun e => (List.nodup_cons.1 m0).1 (by rw [← e]; exact hD')]; exact k3⟩

theorem take_marks {P : Program} {F : Fence} {n : Nat} {fn : Func} {R : Ending → World → Prop} {u : FrameMode} (hu : u ≠ .run) {E : Ent} {S : St} {ρ : Nat → Option Nat} {X : Nat → Prop} : ∀ (ms : List Nat) {a : Act} {w : World}, InvAt E S ρ X a w → a.defers = ms.map mark ++ E.ds →
    (∀ w', InvAt E S ρ X { a with defers := E.ds } w' → LeavesInM F n P fn a.tmps R E.ds u w') → LeavesInM F n P fn a.tmps R a.defers u w
  | [], a, w, hA, hd, h => by
    have e : a = { a with defers := E.ds } := by
      cases a; simp only [List.map_nil, List.nil_append] at hd; rw [hd]
    have h := h w (by rw [← e]; exact hA)
    rw [hd]; exact h
  | D :: ms, a, w, hA, hd, h => by
    obtain ⟨h1, h2⟩ := hA.take hd
    rw [hd]
    exact ⟨hu, .inl ⟨D, _, rfl, run_takeDeferred h1, take_marks hu ms h2 rfl h⟩⟩

theorem one_rep {ρ : Nat → Option Nat} {X : Nat → Prop} {w : World} {rs : List AV} {vs : List Value} (h : RepT ρ X w rs vs) : RepA ρ X w (one rs) (oneV vs) := by
  match rs, vs, h with
  | [], [], _ => exact ⟨[], rfl, trivial⟩
  | [x], [v], h => exact h.1.toA
  | x :: y :: xs, v :: u :: us, h => exact ⟨v :: u :: us, rfl, h⟩
  | [], _ :: _, h => exact h.elim
  | [_], [], h => exact h.elim
  | [_], _ :: _ :: _, h => exact h.2.elim
  | _ :: _ :: _, [], h => exact h.elim
  | _ :: _ :: _, [_], h => exact h.2.elim

theorem one_names {rs : List AV} {n : Nat} (h : n ∈ (one rs).names) : n ∈ AV.namesL rs := by
  match rs, h with
  | [], h => simpa [one, AV.names] using h
  | [x], h => simpa [one, AV.namesL] using h
  | x :: y :: xs, h => simpa only [one, AV.names] using h

/-- What is handed back, and what is there behind the call, for the caller. -/
theorem ret_fin {P : Program} {fn : Func} {hp : Nat → Option AObj} {ρ : Nat → Option Nat} {X : Nat → Prop} {w : World} {pre : List (Nat × AObj)} {nw : List Nat} (hh : HSim hp ρ X w) (hpre : ∀ p, p ∈ pre → hp p.1 = some p.2) (hnw : ∀ n, n ∈ nw → hp n = none)
    {S : St} {ρ' : Nat → Option Nat} {X' : Nat → Prop} {a : Act} {w' : World} {ds : List Deferred} {nm : Bool} (hA : InvAt ⟨fun o => lkp pre o, ρ, X, w, ds, nm⟩ S ρ' X' a w') {rs : List AV} {ws : List (Nat × AObj)} (hS : RetC P fn pre nw rs ws S) :
    ∃ v, (results fn a.tmps).run P w' = .ok v w' ∧ ∃ ρf Xf, HSim (wr hp ws) ρf Xf w' ∧ HEvo hp (wr hp ws) ρ ρf X Xf w w' ∧ RepA ρf Xf w' (one rs) v ∧ ∀ n, n ∈ (one rs).names → wr hp ws n ≠ none := by
  obtain ⟨ms, m, s, s', xs, ys, fz, kl, k1, k2, k3, k4, k5, k6, k7⟩ := hS.h
  rw [Chk_eq] at k6
  obtain ⟨us, r1, r2, r3, r4⟩ := aRes_run hA.sim k1 k2
  have hT := cvt_rep hA.sim k3 k4 (F := fz ++ kl) (fun _ h => List.mem_append_left _ h) r2 r3
  rw [eqAVs_spec k5] at hT
  obtain ⟨ρf, q1, q2, q3⟩ := fin_call hh hpre hnw (hA.kill (fz ++ kl)) k6 k7
  refine ⟨_, results_run r1, ρf, _, q1, q2, ?_, fun n hn => (q3 n (one_names hn)).2⟩
  exact one_rep (RepT.mono (Y := fun _ => False) ⟨.refl _ _, fun _ _ _ h => h, fun _ _ h => h⟩ (fun n hn => (q3 n hn).1) hT.ren)

theorem pre_mem {pre : List (Nat × AObj)} {n : Nat} (hn : lkp pre n ≠ none) : n ∈ pre.map (·.1) := by
  obtain ⟨x, hx⟩ := Option.ne_none_iff_exists'.1 hn
  exact List.mem_map.2 ⟨_, lkp_mem hx, rfl⟩

theorem calls_of_wp_marks {P : Program} {f : FuncId} {fn : Func} {c : Code} {args : Array Value} {w : World} {R : Ending → World → Prop} (hf : P.funcs[f]? = some fn) (hb : fn.body = some c)
    (h : c.wpIn (FR none) 0 P (bodyPostM (FR none) 0 P fn R) { tmps := args ++ Array.replicate (fn.ntmps - args.size) undef, defers := [] } w) : Calls P f args w R :=
  (callsIn_of_wp_marks (F := FR none) hf hb trivial h).calls fun k => room_wide k

theorem local_of_body {P : Program} (hm : P.follows .mixedOrders = true) {f : FuncId} {fn : Func} {c : Code} (hf : P.funcs[f]? = some fn) (hb : fn.body = some c) {fr : List (Nat × List Nat)} {args : List AV} {pre : List (Nat × AObj)} {nw : List Nat}
    {rs : List AV} {ws : List (Nat × AObj)} (h : FnC P fn c fr args pre nw rs ws) : LocalCall P f args pre nw (one rs) ws := by
  intro hp hpre hnw ρ X w vs hh hr hn
  obtain ⟨h1, h2⟩ := h
  rw [Chk_eq] at h1
  refine calls_of_wp_marks hf hb (wpIn_mono (wpC_sound hm (E := ⟨fun o => lkp pre o, ρ, X, w, [], false⟩) c (fun _ => ⟨rfl, rfl⟩) (fun n hn => pre_mem hn) h2 (hh.start hr hpre h1)) fun e a w' he => ?_)
  have fin : ∀ S, RetC P fn pre nw rs ws S → Inv ⟨fun o => lkp pre o, ρ, X, w, [], false⟩ S a w' → LeavesInM (FR none) 0 P fn a.tmps (fun e w' => ∃ v, e = .returned v ∧ ∃ ρ' X', HSim (wr hp ws) ρ' X' w' ∧ HEvo hp (wr hp ws) ρ ρ' X X' w w' ∧ RepA ρ' X' w' (one rs) v ∧ ∀ n, n ∈ (one rs).names → wr hp ws n ≠ none) a.defers .returning w' := by
    intro S hS hI
    obtain ⟨ρ', X', hA⟩ := hI
    obtain ⟨ms, m1, _⟩ := hA.marks
    refine take_marks (by simp) ms hA m1 fun w2 hA2 => ?_
    obtain ⟨v, hv, hrest⟩ := ret_fin hh hpre hnw hA2 hS
    exact ⟨v, hv, v, rfl, hrest⟩
  cases e with
  | normal => obtain ⟨S, k1, k2⟩ := he; exact fin S k1 k2
  | ret => obtain ⟨S, k1, k2⟩ := he; exact fin S k1 k2
  | exit i => obtain ⟨_, k1, _⟩ := he; exact k1.elim
  | goto l => obtain ⟨_, k1, _⟩ := he; exact k1.elim
  | panic ch => obtain ⟨_, _, _, k1, _⟩ := he; exact k1.elim
  | outgrown => exact he.elim

/-- What is there where a call panics, for the caller. -/
theorem pan_fin {hp : Nat → Option AObj} {ρ : Nat → Option Nat} {X : Nat → Prop} {w : World} {pre : List (Nat × AObj)} {nw : List Nat} (hh : HSim hp ρ X w) (hpre : ∀ p, p ∈ pre → hp p.1 = some p.2) (hnw : ∀ n, n ∈ nw → hp n = none)
    {S : St} {ρ' : Nat → Option Nat} {X' : Nat → Prop} {a : Act} {w' : World} {ds : List Deferred} {nm : Bool} (hA : InvAt ⟨fun o => lkp pre o, ρ, X, w, ds, nm⟩ S ρ' X' a w') {ws : List (Nat × AObj)} (hS : PanC pre nw ws S) :
    ∃ ρf Xf, HSim (wr hp ws) ρf Xf w' ∧ HEvo hp (wr hp ws) ρ ρf X Xf w w' := by
  obtain ⟨m, kl, k6, k7⟩ := hS.h
  rw [Chk_eq] at k6
  obtain ⟨ρf, q1, q2, _⟩ := fin_call hh hpre hnw (hA.kill kl) k6 k7
  exact ⟨ρf, _, q1, q2⟩

theorem localPan_of_body {P : Program} (hm : P.follows .mixedOrders = true) {f : FuncId} {fn : Func} {c : Code} (hf : P.funcs[f]? = some fn) (hb : fn.body = some c) {fr : List (Nat × List Nat)} {args : List AV} {pre : List (Nat × AObj)} {nw : List Nat} {pv : Value} {ws : List (Nat × AObj)}
    (h : FnPan P fn c fr args pre nw pv ws) : LocalPan P f args pre nw pv ws := by
  intro hp hpre hnw ρ X w vs hh hr hn
  obtain ⟨h1, h2⟩ := h
  rw [Chk_eq] at h1
  refine calls_of_wp_marks hf hb (wpIn_mono (wpC_sound hm (E := ⟨fun o => lkp pre o, ρ, X, w, [], false⟩) c (fun _ => ⟨rfl, rfl⟩) (fun n hn => pre_mem hn) h2 (hh.start hr hpre h1)) fun e a w' he => ?_)
  cases e with
  | normal => obtain ⟨_, k1, _⟩ := he; exact k1.elim
  | ret => obtain ⟨_, k1, _⟩ := he; exact k1.elim
  | exit i => obtain ⟨_, k1, _⟩ := he; exact k1.elim
  | goto l => obtain ⟨_, k1, _⟩ := he; exact k1.elim
  | panic ch =>
    obtain ⟨v, S, rfl, ⟨k1, k2⟩, ρ', X', hA⟩ := he
    rw [Side_eq] at k1
    subst k1
    obtain ⟨ms, m1, _⟩ := hA.marks
    refine take_marks (by simp) ms hA m1 fun w2 hA2 => ?_
    obtain ⟨ρf, Xf, q1, q2⟩ := pan_fin hh hpre hnw hA2 k2
    exact ⟨rfl, ρf, Xf, q1, q2⟩
  | outgrown => exact he.elim

end Go.Sym

/-
How what is asked ('Vc') is taken apart.
-/
set_option linter.unusedSimpArgs false
set_option linter.unusedVariables false
namespace Go.Sym

structure Vc (p : Prop) : Prop where
  h : p

theorem vc_true {q : Prop} (k : Vc q) : Vc (Side True ∧ q) := ⟨⟨trivial⟩, k.h⟩
theorem vc_true2 {q : Prop} (k : Vc q) : Vc (Side (True ∧ True) ∧ q) := ⟨⟨trivial, trivial⟩, k.h⟩
theorem vc_side {s q : Prop} (h : s) (k : Vc q) : Vc (Side s ∧ q) := ⟨⟨h⟩, k.h⟩
theorem vc_side0 {s : Prop} (h : s) : Vc (Side s) := ⟨⟨h⟩⟩
theorem vc_and {p q : Prop} (h : Vc p) (k : Vc q) : Vc (p ∧ q) := ⟨h.h, k.h⟩
theorem vc_chk {b : Bool} (h : b = true) : Vc (Chk b) := ⟨⟨h⟩⟩
theorem vc_triv : Vc True := ⟨trivial⟩
theorem vc_later {p : Prop} (h : Vc p) : Vc (Later p) := ⟨⟨h.h⟩⟩
theorem vc_caseT {f : Bool → Prop} (h : Vc (f true)) : Vc (bcase true f) := ⟨⟨fun _ => h.h, fun e => by cases e⟩⟩
theorem vc_caseF {f : Bool → Prop} (h : Vc (f false)) : Vc (bcase false f) := ⟨⟨fun e => (by cases e), fun _ => h.h⟩⟩
theorem vc_case {b : Bool} {f : Bool → Prop} (h1 : b = true → Vc (f true)) (h2 : b = false → Vc (f false)) : Vc (bcase b f) := ⟨⟨fun h => (h1 h).h, fun h => (h2 h).h⟩⟩
/-- A condition that is a proposition's. -/
theorem vc_caseD {p : Prop} [hd : Decidable p] {f : Bool → Prop} (h1 : p → Vc (f true)) (h2 : ¬ p → Vc (f false)) : Vc (bcase (decide p) f) :=
  vc_case (fun h => h1 (of_decide_eq_true h)) (fun h => h2 (of_decide_eq_false h))
theorem vc_caseN {p : Prop} [hd : Decidable p] {f : Bool → Prop} (h1 : ¬ p → Vc (f true)) (h2 : p → Vc (f false)) : Vc (bcase (!decide p) f) :=
  vc_case (fun h => h1 (of_decide_eq_false (by simpa using h))) (fun h => h2 (of_decide_eq_true (by simpa using h)))

section
variable {P : Program} {ops : List Oper} {rid : Nat} {chk : Foots → Prop} {S : St} {acc : Foots} {K : St → Prop} {Kp : Value → St → Prop}

theorem vc_nil {q : Bool} {i m : Nat} (h1 : Vc (chk acc)) (h2 : Vc (K S)) : Vc (vcOps P ops rid chk [] q i m S acc K Kp) := by
  constructor; unfold vcOps; exact ⟨h1.h, h2.h⟩
theorem vc_cons {q : Bool} {o : Oper} {rest : List Oper} {i m : Nat} (h : Vc (stepOp P ops rid (fun q i m S acc K Kp => Later (vcOps P ops rid chk rest q i m S acc K Kp)) o q i m S acc K Kp)) : Vc (vcOps P ops rid chk (o :: rest) q i m S acc K Kp) := by
  constructor; unfold vcOps; exact h.h
end

/-- A body's end in its sequence. -/
def seqK (L : St → Prop) (K : AExit → St → Prop) : AExit → St → Prop
  | .normal, S => L S
  | e, S => K e S
def blockK (id : Nat) (K : AExit → St → Prop) : AExit → St → Prop
  | .exit i, S => bif i.beq id then K .normal S else K (.exit i) S
  | e, S => K e S
def scopeK (K : AExit → St → Prop) : AExit → St → Prop
  | .goto _, _ => False
  | e, S => K e S

section
variable {P : Program} {rd : Bool} {en : List Nat} {fr : List (Nat × List Nat)} {S : St} {K : AExit → St → Prop} {Kp : Value → St → Prop}

theorem vc_skip (h : Vc (K .normal S)) : Vc (wpC P fr rd en .skip S K Kp) := by constructor; unfold wpC; exact h.h
theorem vc_label {l : Nat} (h : Vc (K .normal S)) : Vc (wpC P fr rd en (.label l) S K Kp) := by constructor; unfold wpC; exact h.h
theorem vc_exit {id : Nat} (h : Vc (K (.exit id) S)) : Vc (wpC P fr rd en (.exit id) S K Kp) := by constructor; unfold wpC; exact h.h
theorem vc_goto {l : Nat} (h : Vc (K (.goto l) S)) : Vc (wpC P fr rd en (.goto l) S K Kp) := by constructor; unfold wpC; exact h.h
theorem vc_retc (h : Vc (K .ret S)) : Vc (wpC P fr rd en .ret S K Kp) := by constructor; unfold wpC; exact h.h
theorem vc_seq {x y : Code} (h : Vc (wpC P fr rd en x S (seqK (fun S' => Later (wpC P fr rd en y S' K Kp)) K) Kp)) : Vc (wpC P fr rd en (.seq x y) S K Kp) := by
  constructor
  unfold wpC
  have e : seqK (fun S' => Later (wpC P fr rd en y S' K Kp)) K = fun e S' => match e with
      | .normal => wpC P fr rd en y S' K Kp
      | e => K e S' := by
    funext e S'
    cases e <;> simp only [seqK, Later_eq]
  rw [e] at h
  exact h.h
theorem vc_cond {c : Operand} {x y : Code} (h : Vc (match S.ev c with
      | .d (.bool b) => bcase b fun t => bif t then Later (wpC P fr rd en x S K Kp) else Later (wpC P fr rd en y S K Kp)
      | _ => False)) : Vc (wpC P fr rd en (.cond c x y) S K Kp) := by
  constructor
  unfold wpC
  simp only [Later_eq] at h
  exact h.h
theorem vc_block {id : Nat} {x : Code} (h : Vc (wpC P fr rd en x S (blockK id K) Kp)) : Vc (wpC P fr rd en (.block id x) S K Kp) := by
  constructor
  unfold wpC
  have e : blockK id K = fun e S' => match e with
      | .exit i => bif i.beq id then K .normal S' else K (.exit i) S'
      | e => K e S' := by
    funext e S'
    cases e <;> rfl
  rw [e] at h
  exact h.h
theorem vc_scope {x : Code} (h : Vc (wpC P fr rd en x S (scopeK K) Kp)) : Vc (wpC P fr rd en (.scope x) S K Kp) := by
  constructor
  unfold wpC
  have e : scopeK K = fun e S' => match e with
      | .goto _ => False
      | e => K e S' := by
    funext e S'
    cases e <;> rfl
  rw [e] at h
  exact h.h

def vcRL (P : Program) (id : Nat) (l : List Oper) (draw : Bool) (S : St) (K : St → Prop) (Kp : Value → St → Prop) : Prop :=
  bif draw then Later (vcOps P l id (fun fs => Chk (okPairs l fs && edgesB l)) l false 0 0 S [] K Kp)
  else Later (vcOps P l id (fun _ => True) l false 0 0 S [] K Kp)

theorem vc_region {id : Nat} {l : List Oper} {draw : Bool} (h : Vc (frC fr id S fun S' => vcRL P id l draw S' (fun S2 => frC fr (id + 500000) S2 fun S3 => K .normal S3) Kp)) : Vc (wpC P fr rd en (.region id l.toArray draw) S K Kp) := by
  constructor
  unfold wpC
  simp only [vcRL, Later_eq] at h
  exact h.h

/-! ### Loops -/

def loopK {X : Type} (en : List Nat) (sl : X → List (Nat × AV)) (hp : X → List (Nat × AObj)) (μ : X → Nat) (n : Nat) (x : X) (K : AExit → St → Prop) : AExit → St → Prop
  | .normal, S' => NextC en sl hp μ n x S'
  | e, S' => K e S'

def WeakG (en : List Nat) (m : List (Nat × Nat)) (S : St) (sl : List (Nat × AV)) (hp : List (Nat × AObj)) : Prop := Chk (wkOK en m sl hp) ∧ wkSl S m sl ∧ wkHp S m hp

theorem vc_loop {y : Code} {X : Type} (n : Nat) (sl : X → List (Nat × AV)) (hp : X → List (Nat × AObj)) (μ : X → Nat) (x0 : X) (m : List (Nat × Nat)) (hn : Vc (Chk (S.n.beq n)))
    (h1 : Vc (Chk (wkOK en m (sl x0) (hp x0)))) (h2 : Vc (wkSl S m (sl x0))) (h3 : Vc (wkHp S m (hp x0))) (h : ∀ x, Vc (wpC P fr rd en y (mkSt n (sl x) (hp x)) (loopK en sl hp μ n x K) Kp)) : Vc (wpC P fr rd en (.loop y) S K Kp) := by
  have hn := Nat.eq_of_beq_eq_true hn.h.h
  subst hn
  constructor
  unfold wpC
  refine ⟨X, sl, hp, μ, x0, ⟨m, h1.h, h2.h, h3.h⟩, fun x => ?_⟩
  have e : loopK en sl hp μ S.n x K = fun e S' => match e with
      | .normal => NextC en sl hp μ S.n x S'
      | e => K e S' := by
    funext e S'
    cases e <;> rfl
  have := (h x).h
  rw [e] at this
  exact this

def loopKI {X : Type} (en : List Nat) (sl : X → List (Nat × AV)) (hp : X → List (Nat × AObj)) (μ : X → Nat) (I : X → Prop) (n : Nat) (x : X) (K : AExit → St → Prop) : AExit → St → Prop
  | .normal, S' => ∃ x', I x' ∧ μ x' < μ x ∧ S'.n = n ∧ Weak en S' (sl x') (hp x')
  | e, S' => K e S'

/-- A loop of which something is known at each round's head. -/
theorem vc_loopI {y : Code} {X : Type} (n : Nat) (sl : X → List (Nat × AV)) (hp : X → List (Nat × AObj)) (μ : X → Nat) (I : X → Prop) (x0 : X) (m : List (Nat × Nat)) (hn : Vc (Chk (S.n.beq n)))
    (h1 : Vc (Chk (wkOK en m (sl x0) (hp x0)))) (h2 : Vc (wkSl S m (sl x0))) (h3 : Vc (wkHp S m (hp x0))) (h0 : I x0) (h : ∀ x, I x → Vc (wpC P fr rd en y (mkSt n (sl x) (hp x)) (loopKI en sl hp μ I n x K) Kp)) : Vc (wpC P fr rd en (.loop y) S K Kp) := by
  refine vc_loop (X := { x : X // I x }) n (fun x => sl x.val) (fun x => hp x.val) (fun x => μ x.val) ⟨x0, h0⟩ m hn h1 h2 h3 fun x => ?_
  have := h x.val x.property
  have e : loopKI en sl hp μ I n x.val K = loopK en (fun x : { x : X // I x } => sl x.val) (fun x => hp x.val) (fun x => μ x.val) n x K := by
    funext e S'
    cases e <;> try rfl
    refine propext ⟨fun ⟨x', k1, k2, k3, k4⟩ => ⟨⟨x', k1⟩, k2, k3, k4⟩, fun h => ?_⟩
    obtain ⟨x', k2, k3, k4⟩ := h.h
    exact ⟨x'.val, x'.property, k2, k3, k4⟩
  rw [e] at this
  exact this

theorem vc_nextI {X : Type} {sl : X → List (Nat × AV)} {hp : X → List (Nat × AObj)} {μ : X → Nat} {I : X → Prop} {n : Nat} {x : X} {S' : St} (x' : X) (m : List (Nat × Nat)) (hI : I x') (hμ : μ x' < μ x)
    (hn : Vc (Chk (S'.n.beq n))) (h1 : Vc (Chk (wkOK en m (sl x') (hp x')))) (h2 : Vc (wkSl S' m (sl x'))) (h3 : Vc (wkHp S' m (hp x'))) : Vc (∃ x', I x' ∧ μ x' < μ x ∧ S'.n = n ∧ Weak en S' (sl x') (hp x')) :=
  ⟨x', hI, hμ, Nat.eq_of_beq_eq_true hn.h.h, m, h1.h, h2.h, h3.h⟩

/-! ### Ranges over functions -/

def roundK (en : List Nat) (n : Nat) (sl : List (Nat × AV)) (hp : List (Nat × AObj)) (I : Prop) (K : AExit → St → Prop) : AExit → St → Prop
  | .normal, S' => EndC en n sl hp I S'
  | e, S' => K e (wsl n sl S')

def asgK (L : St → Prop) : AExit → St → Prop
  | .normal, S => L S
  | _, _ => False

theorem vc_range {g : Operand} {ts : List Tmp} {x y : Code} (nn : Nat) (f o : Nat) (dx : D) (n : Nat) (ys : Nat → List D) (sl : List (Nat × AV)) (hp : Nat → List (Nat × AObj)) (I : Nat → Prop) (m : List (Nat × Nat)) (hn : Vc (Chk (S.n.beq nn)))
    (hev : Vc (eqAV (S.ev g) (.fn (.func f) [.ptr o []]))) (ho : Vc (match S.hp o with
      | some y => eqObj y (.var (.d dx))
      | none => False)) (hcl : Vc (Chk (callable P f))) (hseq : SeqOK P f dx n ys) (hys : ∀ i, (ys i).length = ts.length ∧ (ys i).all D.scal = true) (hd : Vc (Chk (distB ts)))
    (h1 : Vc (Chk (wkOK en m sl (hp 0)))) (h2 : Vc (wkSl S m sl)) (h3 : Vc (wkHp S m (hp 0))) (hI : I 0)
    (hr : ∀ i, i < n → I i → Vc (fNs ((hp i).map (·.1)) fun en' => Later (wpC P fr true en' x (rndSt nn ts (ys i) sl (hp i)) (asgK fun S2 => Later (wpC P fr true en' y S2 (roundK en nn sl (hp (i + 1)) (I (i + 1)) K) (fun _ _ => False))) (fun _ _ => False))))
    (hend : I n → Vc (K .normal (mkSt nn sl (hp n)))) : Vc (wpC P fr false en (.rangeFunc g ts.toArray x y) S K Kp) := by
  have hn := Nat.eq_of_beq_eq_true hn.h.h
  subst hn
  constructor
  unfold wpC
  have ho' : S.hp o = some (.var (.d dx)) := by
    have h := ho.h
    split at h
    · rename_i y hy; rw [hy, eqObj_spec h]
    · exact h.elim
  refine ⟨f, o, dx, n, ys, sl, hp, I, eqAV_spec hev.h, ho', hcl.h.h, hseq, hys, hd.h.h, ⟨m, h1.h, h2.h, h3.h⟩, hI, fun i hi hIi => ?_, fun h => (hend h).h⟩
  have h := (hr i hi hIi).h
  simp only [fNs_eq, Later_eq] at h
  have e1 : roundK en S.n sl (hp (i + 1)) (I (i + 1)) K = fun e S' => match e with
      | .normal => EndC en S.n sl (hp (i + 1)) (I (i + 1)) S'
      | e => K e (wsl S.n sl S') := by
    funext e S'
    cases e <;> rfl
  have e2 : ∀ L : St → Prop, asgK L = fun e S2 => match e with
      | .normal => L S2
      | _ => False := by
    intro L
    funext e S'
    cases e <;> rfl
  rw [e1, e2] at h
  exact h

theorem vc_endc {n : Nat} {sl : List (Nat × AV)} {hp : List (Nat × AObj)} {I : Prop} {S' : St} (m : List (Nat × Nat)) (hI : I) (h1 : Vc (Chk (wkOK en m sl hp))) (h2 : Vc (wkSl (wsl n sl S') m sl)) (h3 : Vc (wkHp (wsl n sl S') m hp)) : Vc (EndC en n sl hp I S') :=
  ⟨hI, ⟨m, h1.h, h2.h, h3.h⟩⟩
end

theorem vc_wkSl0 {S : St} {m : List (Nat × Nat)} : Vc (wkSl S m []) := ⟨trivial⟩
theorem vc_wkSl {S : St} {m : List (Nat × Nat)} {t : Nat} {v : AV} {l : List (Nat × AV)} (h1 : Vc (eqAV (S.sl t) (v.ren m))) (h2 : Vc (wkSl S m l)) : Vc (wkSl S m ((t, v) :: l)) := ⟨h1.h, h2.h⟩
theorem vc_wkHp0 {S : St} {m : List (Nat × Nat)} : Vc (wkHp S m []) := ⟨trivial⟩
theorem vc_wkHp {S : St} {m : List (Nat × Nat)} {o : Nat} {x : AObj} {l : List (Nat × AObj)} (h1 : Vc (match S.hp (renN m o) with
    | some y => eqObj y (x.ren m)
    | none => False)) (h2 : Vc (wkHp S m l)) : Vc (wkHp S m ((o, x) :: l)) := ⟨h1.h, h2.h⟩
theorem vc_eqAVs0 : Vc (eqAVs [] []) := ⟨trivial⟩
theorem vc_eqAVs {x y : AV} {xs ys : List AV} (h1 : Vc (eqAV x y)) (h2 : Vc (eqAVs xs ys)) : Vc (eqAVs (x :: xs) (y :: ys)) := ⟨h1.h, h2.h⟩

/-! ### What a body hands back -/

def RetG (P : Program) (fn : Func) (pre : List (Nat × AObj)) (nw : List Nat) (rs : List AV) (ws : List (Nat × AObj)) (ms : List Bool) (m : List (Nat × Nat)) (kl : List Nat) (S : St) : Prop :=
  match aRes P S fn.results.toList with
  | some (s, xs) => Side s ∧ fAVs xs fun xs => match cvt S.hp ms xs with
    | some (s', ys, fz) => Side s' ∧ fNs fz fun fz => fAVs ys fun ys => fAVs (AV.rens m rs) fun rs' => fWs (finHp pre ws) fun ws' =>
        Later (eqAVs ys rs') ∧ Chk (finOK pre nw m rs ws) ∧ Later (wkHp (S.write (deads (fz ++ kl))) m ws')
    | none => False
  | none => False

theorem vc_retK {P : Program} {fn : Func} {pre : List (Nat × AObj)} {nw : List Nat} {rs : List AV} {ws : List (Nat × AObj)} (ms : List Bool) (m : List (Nat × Nat)) (kl : List Nat) {S : St} (h : Vc (RetG P fn pre nw rs ws ms m kl S)) : Vc (RetC P fn pre nw rs ws S) := by
  have h := h.h
  unfold RetG at h
  split at h
  · rename_i s xs h1
    rw [fAVs_eq] at h
    obtain ⟨hs, h⟩ := h
    split at h
    · rename_i s' ys fz h2
      rw [fNs_eq, Side_eq, fAVs_eq, fAVs_eq, fWs_eq, Later_eq, Later_eq] at h
      rw [Side_eq] at hs
      exact ⟨⟨ms, m, s, s', xs, ys, fz, kl, h1, hs, h2, h.1, h.2.1, h.2.2.1, h.2.2.2⟩⟩
    · exact h.elim
  · exact h.elim

theorem vc_ret {P : Program} {fn : Func} {pre : List (Nat × AObj)} {nw : List Nat} {rs : List AV} {ws : List (Nat × AObj)} (ms : List Bool) (m : List (Nat × Nat)) {S : St} (h : Vc (RetG P fn pre nw rs ws ms m [] S)) : Vc (RetC P fn pre nw rs ws S) := vc_retK ms m [] h

/-! ### Calls -/

def preG (hp : Nat → Option AObj) : List (Nat × AObj) → Prop
  | [] => True
  | p :: l => (match hp p.1 with
    | some y => eqObj y p.2
    | none => False) ∧ preG hp l

theorem vc_preG0 {hp : Nat → Option AObj} : Vc (preG hp []) := ⟨trivial⟩
theorem vc_preG {hp : Nat → Option AObj} {o : Nat} {x : AObj} {l : List (Nat × AObj)} (h1 : Vc (match hp o with
    | some y => eqObj y x
    | none => False)) (h2 : Vc (preG hp l)) : Vc (preG hp ((o, x) :: l)) := ⟨h1.h, h2.h⟩

theorem preG_ok {hp : Nat → Option AObj} : ∀ {l : List (Nat × AObj)}, preG hp l → preOK hp l
  | [], _ => trivial
  | p :: l, h => by
    refine ⟨?_, preG_ok h.2⟩
    have h1 := h.1
    split at h1
    · rename_i y hy; rw [hy, eqObj_spec h1]
    · exact h1.elim

def CallG (P : Program) (f : FuncId) (args : List AV) (S : St) (ms : List Bool) (args' : List AV) (pre : List (Nat × AObj)) (nw : List Nat) (r : AV) (ws : List (Nat × AObj)) (K : AV → List (Nat × AObj) → Foot → Prop) : Prop :=
  match cvt S.hp ms args with
  | some (s, ys, fz) => Side s ∧ fNs fz fun fz => fAVs ys fun ys => Later (eqAVs ys args') ∧ Later (preG S.hp pre) ∧ Chk (okNames S.hp pre fz nw ws) ∧ Chk (callable P f) ∧
      fAV r fun r => fWs (ws ++ deads fz) fun ws' => fFoot ⟨AV.namesL args ++ pre.map (·.1), fz ++ (ws.map (·.1)).filter (fun n => !nw.contains n), nw⟩ fun φ => K r ws' φ
  | none => False

theorem vc_call {P : Program} {f : FuncId} {args args' : List AV} {S : St} {pre : List (Nat × AObj)} {nw : List Nat} {r : AV} {ws : List (Nat × AObj)} {K : AV → List (Nat × AObj) → Foot → Prop} {Kp : Value → List (Nat × AObj) → Foot → Prop} (ms : List Bool)
    (hc : LocalCall P f args' pre nw r ws) (h : Vc (CallG P f args S ms args' pre nw r ws K)) : Vc (vcCall P f args S K Kp) := by
  have h := h.h
  unfold CallG at h
  split at h
  · rename_i s ys fz h1
    rw [fNs_eq, Side_eq, fAVs_eq, Later_eq, Later_eq] at h
    obtain ⟨hs, he, hp, hn, hcl, hk⟩ := h
    rw [Chk_eq] at hn hcl
    rw [fAV_eq, fWs_eq, fFoot_eq] at hk
    rw [eqAVs_spec he] at h1
    exact ⟨⟨.inl ⟨ms, args', fz, s, pre, nw, r, ws, h1, hs, preG_ok hp, hn, hcl, hc, hk⟩⟩⟩
  · exact h.elim

theorem cvt_plain (hp : Nat → Option AObj) : ∀ l : List AV, l.all AV.plain = true → ∃ s, cvt hp [] l = some (s, l, []) ∧ s
  | [], _ => ⟨True, rfl, trivial⟩
  | x :: l, h => by
    simp only [List.all_cons, Bool.and_eq_true] at h
    obtain ⟨s, h1, h2⟩ := cvt_plain hp l h.2
    exact ⟨s, by simp only [cvt, h1, h.1, cond_true], h2⟩

/-- A call of a function that is handed data and hands data back; its arguments found by unification. -/
theorem vc_pure {P : Program} {f : FuncId} {args : List AV} {S : St} {r : AV} {K : AV → List (Nat × AObj) → Foot → Prop} {Kp : Value → List (Nat × AObj) → Foot → Prop}
    (hc : LocalCall P f args [] [] r []) (hp : Vc (Chk (args.all AV.plain))) (hcl : Vc (Chk (callable P f))) (h : Vc (fAV r fun r => fNs (AV.namesL args) fun l => K r [] ⟨l, [], []⟩)) : Vc (vcCall P f args S K Kp) := by
  have h := h.h
  rw [fAV_eq, fNs_eq] at h
  obtain ⟨s, h1, h2⟩ := cvt_plain S.hp args hp.h.h
  exact ⟨⟨.inl ⟨[], args, [], s, [], [], r, [], h1, h2, trivial, rfl, hcl.h.h, hc, by simpa [deads] using h⟩⟩⟩

def CallU (P : Program) (f : FuncId) (args : List AV) (S : St) (pre : List (Nat × AObj)) (nw : List Nat) (r : AV) (ws : List (Nat × AObj)) (K : AV → List (Nat × AObj) → Foot → Prop) : Prop :=
  Later (preG S.hp pre) ∧ Chk (okNames S.hp pre [] nw ws) ∧ Chk (callable P f) ∧
      fAV r fun r => fWs ws fun ws' => fFoot ⟨AV.namesL args ++ pre.map (·.1), (ws.map (·.1)).filter (fun n => !nw.contains n), nw⟩ fun φ => K r ws' φ

/-- A call of which the arguments are found by unification. -/
theorem vc_callU {P : Program} {f : FuncId} {args : List AV} {S : St} {pre : List (Nat × AObj)} {nw : List Nat} {r : AV} {ws : List (Nat × AObj)} {K : AV → List (Nat × AObj) → Foot → Prop} {Kp : Value → List (Nat × AObj) → Foot → Prop}
    (hc : LocalCall P f args pre nw r ws) (hp : Vc (Chk (args.all AV.plain))) (h : Vc (CallU P f args S pre nw r ws K)) : Vc (vcCall P f args S K Kp) := by
  obtain ⟨h1, h2, h3, h4⟩ := h.h
  rw [Later_eq] at h1
  rw [Chk_eq] at h2 h3
  rw [fAV_eq, fWs_eq, fFoot_eq] at h4
  obtain ⟨s, e1, e2⟩ := cvt_plain S.hp args hp.h.h
  exact ⟨⟨.inl ⟨[], args, [], s, pre, nw, r, ws, e1, e2, preG_ok h1, h2, h3, hc, by simpa [deads] using h4⟩⟩⟩

/-- A call that panics. -/
def PanG (P : Program) (f : FuncId) (args : List AV) (S : St) (ms : List Bool) (args' : List AV) (pre : List (Nat × AObj)) (nw : List Nat) (pv : Value) (ws : List (Nat × AObj)) (Kp : Value → List (Nat × AObj) → Foot → Prop) : Prop :=
  match cvt S.hp ms args with
  | some (s, ys, fz) => Side s ∧ fNs fz fun fz => fAVs ys fun ys => Later (eqAVs ys args') ∧ Later (preG S.hp pre) ∧ Chk (okNames S.hp pre fz nw ws) ∧ Chk (callable P f) ∧
      fWs (ws ++ deads fz) fun ws' => fFoot ⟨AV.namesL args ++ pre.map (·.1), fz ++ (ws.map (·.1)).filter (fun n => !nw.contains n), nw⟩ fun φ => Kp pv ws' φ
  | none => False

theorem vc_pan {P : Program} {f : FuncId} {args args' : List AV} {S : St} {pre : List (Nat × AObj)} {nw : List Nat} {pv : Value} {ws : List (Nat × AObj)} {K : AV → List (Nat × AObj) → Foot → Prop} {Kp : Value → List (Nat × AObj) → Foot → Prop} (ms : List Bool)
    (hc : LocalPan P f args' pre nw pv ws) (h : Vc (PanG P f args S ms args' pre nw pv ws Kp)) : Vc (vcCall P f args S K Kp) := by
  have h := h.h
  unfold PanG at h
  split at h
  · rename_i s ys fz h1
    rw [fNs_eq, Side_eq, fAVs_eq, Later_eq, Later_eq] at h
    obtain ⟨hs, he, hp, hn, hcl, hk⟩ := h
    rw [Chk_eq] at hn hcl
    rw [fWs_eq, fFoot_eq] at hk
    rw [eqAVs_spec he] at h1
    exact ⟨⟨.inr ⟨ms, args', fz, s, pre, nw, pv, ws, h1, hs, preG_ok hp, hn, hcl, hc, hk⟩⟩⟩
  · exact h.elim

/-! ### Functions -/

def fnK (P : Program) (fn : Func) (pre : List (Nat × AObj)) (nw : List Nat) (rs : List AV) (ws : List (Nat × AObj)) : AExit → St → Prop
  | .normal, S' => RetC P fn pre nw rs ws S'
  | .ret, S' => RetC P fn pre nw rs ws S'
  | _, _ => False

theorem vc_fn {P : Program} (hm : P.follows .mixedOrders = true) {f : FuncId} {fn : Func} {c : Code} (hf : P.funcs[f]? = some fn) (hb : fn.body = some c) {n : Nat} (hn : fn.ntmps = n) (fr : List (Nat × List Nat)) {args : List AV} {pre : List (Nat × AObj)} {nw : List Nat}
    {rs : List AV} {ws : List (Nat × AObj)} (h1 : Vc (Chk (entOK n args pre))) (h2 : Vc (fNs (pre.map (·.1)) fun en => Later (wpC P fr false en c (mkSt n (enumA 0 args) pre) (fnK P fn pre nw rs ws) (fun _ _ => False)))) : LocalCall P f args pre nw (one rs) ws := by
  subst hn
  refine local_of_body hm hf hb (fr := fr) ⟨h1.h, ?_⟩
  have h2 := h2.h
  rw [fNs_eq, Later_eq] at h2
  have e : fnK P fn pre nw rs ws = fun e S' => match e with
    | .normal => RetC P fn pre nw rs ws S'
    | .ret => RetC P fn pre nw rs ws S'
    | _ => False := by
    funext e S'
    cases e <;> rfl
  rw [e] at h2
  exact h2

def panK (pre : List (Nat × AObj)) (nw : List Nat) (pv : Value) (ws : List (Nat × AObj)) : Value → St → Prop := fun v S' => Side (v = pv) ∧ PanC pre nw ws S'

theorem vc_panc {pre : List (Nat × AObj)} {nw : List Nat} {ws : List (Nat × AObj)} {S : St} (m : List (Nat × Nat)) (kl : List Nat) (h1 : Vc (Chk (finOK pre nw m [] ws))) (h2 : Vc (fWs (finHp pre ws) fun ws' => Later (wkHp (S.write (deads kl)) m ws'))) : Vc (PanC pre nw ws S) := by
  have h2 := h2.h
  rw [fWs_eq, Later_eq] at h2
  exact ⟨m, kl, h1.h, h2⟩

theorem vc_fnPan {P : Program} (hm : P.follows .mixedOrders = true) {f : FuncId} {fn : Func} {c : Code} (hf : P.funcs[f]? = some fn) (hb : fn.body = some c) {n : Nat} (hn : fn.ntmps = n) (fr : List (Nat × List Nat)) {args : List AV} {pre : List (Nat × AObj)} {nw : List Nat} {pv : Value} {ws : List (Nat × AObj)}
    (h1 : Vc (Chk (entOK n args pre))) (h2 : Vc (fNs (pre.map (·.1)) fun en => Later (wpC P fr false en c (mkSt n (enumA 0 args) pre) (fun _ _ => False) (panK pre nw pv ws)))) : LocalPan P f args pre nw pv ws := by
  subst hn
  refine localPan_of_body hm hf hb (fr := fr) ⟨h1.h, ?_⟩
  have h2 := h2.h
  simp only [fNs_eq, Later_eq] at h2
  exact h2

end Go.Sym

namespace Go.Sym
theorem vs1 : type_of% (And.intro @Bool.cond_true_left <| And.intro @Bool.cond_false_right <| And.intro @Bool.cond_true_right <| And.intro @Bool.cond_false_left <| And.intro @Bool.and_eq_true <| And.intro @Bool.or_eq_true <| And.intro @Bool.and_eq_false_iff <| And.intro @Bool.or_eq_false_iff <| And.intro @Bool.not_eq_true' <| And.intro @Bool.not_eq_false' <| And.intro @Bool.not_eq_true <| And.intro @Bool.not_eq_false <| And.intro @Bool.not_not <| And.intro @decide_eq_true_eq <| And.intro @decide_eq_false_iff_not <| And.intro @beq_iff_eq.{0} <| And.intro @beq_eq_false_iff_ne.{0} <| And.intro @bne_iff_ne.{0} <| And.intro @bne_eq_false_iff_eq.{0} <| And.intro @ne_eq.{1} <| And.intro @Classical.not_not <| And.intro @false_or <| And.intro @or_false <| And.intro @true_and <| And.intro @and_true <| And.intro Bool.false_eq_true Bool.true_eq_false) := And.intro @Bool.cond_true_left <| And.intro @Bool.cond_false_right <| And.intro @Bool.cond_true_right <| And.intro @Bool.cond_false_left <| And.intro @Bool.and_eq_true <| And.intro @Bool.or_eq_true <| And.intro @Bool.and_eq_false_iff <| And.intro @Bool.or_eq_false_iff <| And.intro @Bool.not_eq_true' <| And.intro @Bool.not_eq_false' <| And.intro @Bool.not_eq_true <| And.intro @Bool.not_eq_false <| And.intro @Bool.not_not <| And.intro @decide_eq_true_eq <| And.intro @decide_eq_false_iff_not <| And.intro @beq_iff_eq.{0} <| And.intro @beq_eq_false_iff_ne.{0} <| And.intro @bne_iff_ne.{0} <| And.intro @bne_eq_false_iff_eq.{0} <| And.intro @ne_eq.{1} <| And.intro @Classical.not_not <| And.intro @false_or <| And.intro @or_false <| And.intro @true_and <| And.intro @and_true <| And.intro Bool.false_eq_true Bool.true_eq_false
end Go.Sym

/-
What a claim's reading says of the arguments, turned into plain data ('D').
-/
set_option linter.unusedSimpArgs false
set_option linter.unusedVariables false
namespace Go.Sym

def contig (P : Program) : Nat → List Field → Bool
  | _, [] => true
  | o, f :: fs => f.offset.beq o && contig P (o + P.cellsOf f.type) fs
def widths (P : Program) : List Field → Nat
  | [] => 0
  | f :: fs => P.cellsOf f.type + widths P fs

/-- Types of plain data. -/
def plainT (P : Program) : Nat → TypeId → Bool
  | 0, _ => false
  | n + 1, t => match P.underlying t with
    | some .bool => (P.cellsOf t).beq 1
    | some (.int _) => (P.cellsOf t).beq 1
    | some .string => (P.cellsOf t).beq 1
    | some (.struct fs) => contig P 0 fs.toList && (P.cellsOf t).beq (widths P fs.toList) && fs.toList.all fun f => plainT P n f.type
    | some (.array m e) => (P.cellsOf t).beq (m * P.cellsOf e) && plainT P n e
    | some (.slice e) => (P.cellsOf t).beq 1 && Nat.blt 0 (P.cellsOf e) && plainT P n e
    | _ => false

def okAll (p : TypeId → D → Prop) : List TypeId → List D → Prop
  | [], [] => True
  | t :: ts, x :: xs => p t x ∧ okAll p ts xs
  | _, _ => False

/-- Data of a type. -/
def okD (P : Program) : Nat → TypeId → D → Prop
  | 0, _, _ => False
  | n + 1, t, x => match P.underlying t with
    | some .bool => ∃ b, x = .bool b
    | some (.int k) => ∃ m, x = .int k m ∧ (Lit.int k m).wf = true
    | some .string => ∃ s, x = .str s ∧ s.size ≤ maxLen
    | some (.struct fs) => ∃ xs, x = .st xs ∧ okAll (okD P n) (fs.toList.map (·.type)) xs
    | some (.array m e) => ∃ xs, x = .arr m (P.cellsOf e) xs ∧ xs.length = m ∧ ∀ y, y ∈ xs → okD P n e y
    | some (.slice e) => ∃ xs, x = .sl xs ∧ xs.length ≤ maxLen ∧ ∀ y, y ∈ xs → okD P n e y
    | _ => False

mutual
/-- How many values and letters. -/
def D.bulk : D → Nat
  | .str s => s.size + 1
  | .st fs => D.bulks fs + 1
  | .arr _ _ xs => D.bulks xs + 1
  | .sl xs => D.bulks xs + 1
  | _ => 1
def D.bulks : List D → Nat
  | [] => 0
  | x :: xs => D.bulk x + D.bulks xs
end

mutual
/-- What a reading says of data. -/
inductive RelD {H : Type} : D → DataW H → Prop
  | int (k : IntKind) (n : Int) : RelD (.int k n) (.lit (.int k n))
  | bool (b : Bool) : RelD (.bool b) (.lit (.bool b))
  | str (s : ByteArray) : RelD (.str s) (.lit (.string s.data.toList))
  | st {xs : List D} {ds : List (DataW H)} : RelL xs ds → RelD (.st xs) (.agg ds)
  | arr {n e : Nat} {xs : List D} {ds : List (DataW H)} : RelL xs ds → RelD (.arr n e xs) (.agg ds)
  | slnil : RelD (.sl []) .nil
  | sl {xs : List D} {ds es : List (DataW H)} : RelL xs ds → RelD (.sl xs) (.slice ds es)
inductive RelL {H : Type} : List D → List (DataW H) → Prop
  | nil : RelL [] []
  | cons {x : D} {xs : List D} {d : DataW H} {ds : List (DataW H)} : RelD x d → RelL xs ds → RelL (x :: xs) (d :: ds)
end

theorem mapM_some {α β : Type} {f : α → Option β} : ∀ {l : List α} {ys : List β}, l.mapM f = some ys → ys.length = l.length ∧ ∀ (i : Nat) (x : α), l[i]? = some x → ∃ y, ys[i]? = some y ∧ f x = some y
  | [], ys, h => by
    simp at h; subst h; exact ⟨rfl, fun i x h => by simp at h⟩
  | a :: l, ys, h => by
    rw [List.mapM_cons] at h
    cases ha : f a with
    | none => rw [ha] at h; simp at h
    | some b =>
      rw [ha] at h
      cases hl : l.mapM f with
      | none => rw [hl] at h; simp at h
      | some bs =>
        rw [hl] at h
        simp at h
        subst h
        obtain ⟨h1, h2⟩ := mapM_some hl
        refine ⟨by simp [h1], fun i x hx => ?_⟩
        cases i with
        | zero => simp at hx; subst hx; exact ⟨b, rfl, ha⟩
        | succ i => simpa using h2 i x (by simpa using hx)

section
variable {H : Type} {enc : TypeId × Value → H} {P : Program} {w : World} {sp : Nat → Bool} {held : Bool}

def noX : Nat → Prop := fun _ => False

theorem cells?_row {a : Addr} {n : Nat} {cs : List Value} (h : w.cells? 0 a n = some cs) : cs.length = n ∧ ∀ i v, cs[i]? = some v → w.cell? (a.add i) = some v := by
  unfold World.cells? at h
  rw [if_pos (Nat.zero_le _)] at h
  obtain ⟨h1, h2⟩ := mapM_some h
  refine ⟨by simpa using h1, fun i v hv => ?_⟩
  have hi : i < n := by
    have := (List.getElem?_eq_some_iff.1 hv).1
    rw [h1] at this; simpa using this
  obtain ⟨y, hy1, hy2⟩ := h2 i i (by simp [hi])
  rw [hv] at hy1; cases hy1; exact hy2

/-- A row of elements, one behind the other. -/
theorem row_rep {e : TypeId} {n : Nat} {z : Nat} : ∀ (m : Nat) (cs : List Value) (ds : List (DataW H)), cs.length = m * z → ds.length = m →
    (∀ i, i < m → ∃ d x, ds[i]? = some d ∧ RepD noX w x ((cs.drop (i * z)).take z) ∧ okD P n e x ∧ x.size = z ∧ RelD x d) →
    ∃ xs, RepL noX w xs cs ∧ xs.length = m ∧ (∀ x, x ∈ xs → okD P n e x) ∧ (∀ x, x ∈ xs → x.size = z) ∧ RelL xs ds
  | 0, cs, ds, hc, hd, _ => by
    have : cs = [] := List.eq_nil_of_length_eq_zero (by simpa using hc)
    subst this
    have : ds = [] := List.eq_nil_of_length_eq_zero hd
    subst this
    exact ⟨[], .nil, rfl, fun x h => by simp at h, fun x h => by simp at h, .nil⟩
  | m + 1, cs, ds, hc, hd, h => by
    cases ds with
    | nil => cases hd
    | cons d ds =>
      obtain ⟨d', x, h1, h2, h3, h4, h5⟩ := h 0 (Nat.succ_pos _)
      simp only [List.getElem?_cons_zero, Option.some.injEq] at h1
      subst h1
      simp only [Nat.zero_mul, List.drop_zero] at h2
      have hlen : (cs.drop z).length = m * z := by rw [List.length_drop, hc, Nat.succ_mul]; omega
      obtain ⟨xs, k1, k2, k3, k4, k5⟩ := row_rep m (cs.drop z) ds hlen (by simpa using hd) (fun i hi => by
        obtain ⟨d', x, g1, g2, g3, g4, g5⟩ := h (i + 1) (by omega)
        refine ⟨d', x, by simpa using g1, ?_, g3, g4, g5⟩
        rw [List.drop_drop]
        rw [show z + i * z = (i + 1) * z by rw [Nat.succ_mul]; omega]
        exact g2)
      refine ⟨x :: xs, ?_, by simp [k2], fun y hy => ?_, fun y hy => ?_, .cons h5 k5⟩
      · have : cs = cs.take z ++ cs.drop z := (List.take_append_drop z cs).symm
        rw [this]
        exact .cons h2 k1
      · rcases List.mem_cons.1 hy with rfl | hy
        · exact h3
        · exact k3 y hy
      · rcases List.mem_cons.1 hy with rfl | hy
        · exact h4
        · exact k4 y hy

theorem elems_rep {e : TypeId} {n z b : Nat} : ∀ (m off : Nat) (ds : List (DataW H)), ds.length = m →
    (∀ i, i < m → ∃ d x c, ds[i]? = some d ∧ RowAt w b (off + i * z) c ∧ RepD noX w x c ∧ okD P n e x ∧ x.size = z ∧ RelD x d) →
    ∃ xs cs, RowAt w b off cs ∧ RepL noX w xs cs ∧ xs.length = m ∧ (∀ x, x ∈ xs → okD P n e x) ∧ (∀ x, x ∈ xs → x.size = z) ∧ RelL xs ds
  | 0, off, ds, hd, _ => by
    have : ds = [] := List.eq_nil_of_length_eq_zero hd
    subst this
    exact ⟨[], [], fun i v h => by simp at h, .nil, rfl, fun x h => by simp at h, fun x h => by simp at h, .nil⟩
  | m + 1, off, ds, hd, h => by
    cases ds with
    | nil => cases hd
    | cons d ds =>
      obtain ⟨d', x, c, h1, h2, h3, h4, h5, h6⟩ := h 0 (Nat.succ_pos _)
      simp only [List.getElem?_cons_zero, Option.some.injEq] at h1
      subst h1
      obtain ⟨xs, cs, k1, k2, k3, k4, k5, k6⟩ := elems_rep m (off + z) ds (by simpa using hd) (fun i hi => by
        obtain ⟨d', x, c, g1, g2, g3, g4, g5, g6⟩ := h (i + 1) (by omega)
        refine ⟨d', x, c, by simpa using g1, ?_, g3, g4, g5, g6⟩
        rw [show off + z + i * z = off + (i + 1) * z by rw [Nat.succ_mul]; omega]
        exact g2)
      have hl : c.length = z := by rw [h3.length, h5]
      refine ⟨x :: xs, c ++ cs, fun i v hv => ?_, .cons h3 k2, by simp [k3], fun y hy => ?_, fun y hy => ?_, .cons h6 k6⟩
      · by_cases hi : i < c.length
        · rw [List.getElem?_append_left hi] at hv
          have := h2 i v hv
          simpa using this
        · rw [List.getElem?_append_right (by omega)] at hv
          have := k1 _ v hv
          rw [show off + z + (i - c.length) = off + i by omega] at this
          exact this
      · rcases List.mem_cons.1 hy with rfl | hy
        · exact h4
        · exact k4 y hy
      · rcases List.mem_cons.1 hy with rfl | hy
        · exact h5
        · exact k5 y hy

theorem fields_rep {n : Nat} {all : List Value} (ih : ∀ (t : TypeId) (cs : List Value) (r : DataW H × List MemPlace), plainT P n t = true → (∃ fuel, DataW.trod enc P w 0 sp held fuel t cs = some r) → ∃ x, RepD noX w x cs ∧ okD P n t x ∧ x.size = P.cellsOf t ∧ RelD x r.1) :
    ∀ (fs : List Field) (o : Nat) (rs : List (DataW H × List MemPlace)), contig P o fs = true → (∀ f, f ∈ fs → plainT P n f.type = true) → o + widths P fs = all.length → rs.length = fs.length →
      (∀ (i : Nat) (f : Field), fs[i]? = some f → ∃ r fuel, rs[i]? = some r ∧ DataW.trod enc P w 0 sp held fuel f.type ((all.drop f.offset).take (P.cellsOf f.type)) = some r) →
      ∃ xs, RepL noX w xs (all.drop o) ∧ okAll (okD P n) (fs.map (·.type)) xs ∧ D.sizes xs = widths P fs ∧ RelL xs (rs.map (·.1))
  | [], o, rs, _, _, hl, hr, _ => by
    have : rs = [] := List.eq_nil_of_length_eq_zero (by simpa using hr)
    subst this
    refine ⟨[], ?_, trivial, rfl, .nil⟩
    rw [List.drop_of_length_le (by simp only [widths] at hl; omega)]; exact .nil
  | f :: fs, o, rs, hc, hp, hl, hr, h => by
    simp only [contig, Bool.and_eq_true] at hc
    have ho := Nat.eq_of_beq_eq_true hc.1
    cases rs with
    | nil => simp at hr
    | cons r rs =>
      obtain ⟨r', fuel, h1, h2⟩ := h 0 f rfl
      simp only [List.getElem?_cons_zero, Option.some.injEq] at h1
      subst h1
      obtain ⟨x, k1, k2, k3, k4⟩ := ih _ _ _ (hp f (by simp)) ⟨fuel, h2⟩
      simp only [widths] at hl
      obtain ⟨xs, m1, m2, m3, m4⟩ := fields_rep (all := all) ih fs (o + P.cellsOf f.type) rs hc.2 (fun g hg => hp g (by simp [hg])) (by omega) (by simpa using hr) (fun i g hg => by
        obtain ⟨r', fuel, q1, q2⟩ := h (i + 1) g (by simpa using hg)
        exact ⟨r', fuel, by simpa using q1, q2⟩)
      refine ⟨x :: xs, ?_, ⟨k2, m2⟩, by simp only [D.sizes, widths, k3, m3], .cons k4 m4⟩
      have : all.drop o = (all.drop o).take (P.cellsOf f.type) ++ all.drop (o + P.cellsOf f.type) := by
        rw [← List.drop_drop, List.take_append_drop]
      rw [this]
      rw [ho] at k1
      exact .cons k1 m1

theorem trod_rep : ∀ (n : Nat) (t : TypeId) (cs : List Value) (r : DataW H × List MemPlace), plainT P n t = true → (∃ fuel, DataW.trod enc P w 0 sp held fuel t cs = some r) → ∃ x, RepD noX w x cs ∧ okD P n t x ∧ x.size = P.cellsOf t ∧ RelD x r.1
  | 0, t, cs, r, hp, _ => by simp [plainT] at hp
  | n + 1, t, cs, r, hp, ⟨fuel, h⟩ => by
    cases fuel with
    | zero => simp [DataW.trod] at h
    | succ fuel =>
      have ih := trod_rep n
      simp only [plainT] at hp
      simp only [okD]
      unfold DataW.trod at h
      split at hp <;> try (cases hp; done)
      · rename_i hu
        simp only [hu] at h ⊢
        split at h <;> try (cases h; done)
        all_goals try (rename_i heq; cases heq; done)
        rename_i b heq
        cases h
        exact ⟨.bool b, .bool b, ⟨b, rfl⟩, (Nat.eq_of_beq_eq_true hp).symm, .bool b⟩
      · rename_i k hu
        simp only [hu] at h ⊢
        split at h <;> try (cases h; done)
        all_goals try (rename_i heq; cases heq; done)
        all_goals try (rename_i heq _; cases heq; done)
        rename_i k1 k2 m heq
        split at h <;> cases h
        rename_i hk
        cases heq
        obtain ⟨rfl, hw⟩ := hk
        exact ⟨.int _ m, .int _ m, ⟨m, rfl, hw⟩, (Nat.eq_of_beq_eq_true hp).symm, .int _ m⟩
      · rename_i hu
        simp only [hu] at h ⊢
        split at h <;> try (cases h; done)
        all_goals try (rename_i heq; cases heq; done)
        all_goals try (rename_i heq _; cases heq; done)
        rename_i q heq
        split at h <;> cases h
        rename_i hk
        exact ⟨.str q, .str q, ⟨q, rfl, hk⟩, (Nat.eq_of_beq_eq_true hp).symm, .str q⟩
      · rename_i fs hu
        simp only [hu] at h ⊢
        simp only [Bool.and_eq_true, List.all_eq_true] at hp
        obtain ⟨⟨p1, p2⟩, p3⟩ := hp
        have p2 := Nat.eq_of_beq_eq_true p2
        split at h <;> try (cases h; done)
        all_goals try (rename_i heq; cases heq; done)
        all_goals try (rename_i heq _; cases heq; done)
        rename_i hlen
        cases hm : fs.toList.mapM (fun f => DataW.trod enc P w 0 sp held fuel f.type ((cs.drop f.offset).take (P.cellsOf f.type))) with
        | none => rw [hm] at h; cases h
        | some rs =>
          rw [hm] at h
          simp only [Option.map_some, Option.some.injEq] at h
          subst h
          obtain ⟨m1, m2⟩ := mapM_some hm
          obtain ⟨xs, k1, k2, k3, k4⟩ := fields_rep (all := cs) ih fs.toList 0 rs p1 p3 (by omega) m1 (fun i f hf => by
            obtain ⟨y, y1, y2⟩ := m2 i f hf
            exact ⟨y, fuel, y1, y2⟩)
          rw [List.drop_zero] at k1
          exact ⟨.st xs, .st k1, ⟨xs, rfl, k2⟩, by rw [p2, ← k3]; rfl, .st k4⟩
      · rename_i m e hu
        simp only [hu] at h ⊢
        simp only [Bool.and_eq_true] at hp
        obtain ⟨p1, p2⟩ := hp
        have p1 := Nat.eq_of_beq_eq_true p1
        split at h <;> try (cases h; done)
        all_goals try (rename_i heq; cases heq; done)
        all_goals try (rename_i heq _; cases heq; done)
        rename_i hlen
        cases hm : (List.range m).mapM (fun i => DataW.trod enc P w 0 sp held fuel e ((cs.drop (i * P.cellsOf e)).take (P.cellsOf e))) with
        | none => rw [hm] at h; cases h
        | some rs =>
          rw [hm] at h
          simp only [Option.map_some, Option.some.injEq] at h
          subst h
          obtain ⟨m1, m2⟩ := mapM_some hm
          obtain ⟨xs, k1, k2, k3, k4, k5⟩ := row_rep (e := e) (n := n) m cs (rs.map (·.1)) (by rw [hlen, p1]) (by simpa using m1) (fun i hi => by
            obtain ⟨y, y1, y2⟩ := m2 i i (by simp [hi])
            obtain ⟨x, q1, q2, q3, q4⟩ := ih e _ y p2 ⟨fuel, y2⟩
            exact ⟨y.1, x, by simp [y1], q1, q2, q3, q4⟩)
          exact ⟨.arr m (P.cellsOf e) xs, .arr k2 k4 k1, ⟨xs, rfl, k2, k3⟩, by rw [p1]; rfl, .arr k5⟩
      · rename_i e hu
        simp only [hu] at h ⊢
        simp only [Bool.and_eq_true] at hp
        obtain ⟨⟨p1, p3⟩, p2⟩ := hp
        have p1 := Nat.eq_of_beq_eq_true p1
        have p3 : 0 < P.cellsOf e := by simpa using p3
        split at h <;> try (cases h; done)
        all_goals try (rename_i heq; cases heq; done)
        all_goals try (rename_i heq _; cases heq; done)
        · cases h
          exact ⟨.sl [], .slnil, ⟨[], rfl, Nat.zero_le _, fun y hy => by simp at hy⟩, p1.symm, .slnil⟩
        · rename_i e' ad len cap heq
          cases heq
          split at h <;> try (cases h; done)
          rename_i hb
          obtain ⟨_, hlc, hcm⟩ := hb
          cases hm : (List.range len).mapM (fun i => (w.cells? 0 (ad.add (i * P.cellsOf e)) (P.cellsOf e)).bind (DataW.trod enc P w 0 sp held fuel e)) with
          | none => rw [hm] at h; cases h
          | some rs =>
            rw [hm, Option.bind_some, Option.map_eq_some_iff] at h
            obtain ⟨rest, _, rfl⟩ := h
            obtain ⟨m1, m2⟩ := mapM_some hm
            have m1 : rs.length = len := by simpa using m1
            by_cases hl : len = 0
            · subst hl
              have : rs = [] := List.eq_nil_of_length_eq_zero m1
              subst this
              exact ⟨.sl [], .slnil, ⟨[], rfl, Nat.zero_le _, fun y hy => by simp at hy⟩, p1.symm, .sl .nil⟩
            · have el : ∀ i, i < len → ∃ y cs, rs[i]? = some y ∧ w.cells? 0 (ad.add (i * P.cellsOf e)) (P.cellsOf e) = some cs ∧ DataW.trod enc P w 0 sp held fuel e cs = some y := fun i hi => by
                obtain ⟨y, y1, y2⟩ := m2 i i (by simp [hi])
                rw [Option.bind_eq_some_iff] at y2
                obtain ⟨cs, c1, c2⟩ := y2
                exact ⟨y, cs, y1, c1, c2⟩
              have h0 : ad.spot = none ∧ ad.block < w.heap.size := by
                obtain ⟨y, cs, _, c1, _⟩ := el 0 (by omega)
                obtain ⟨d1, d2⟩ := cells?_row c1
                cases cs with
                | nil => simp at d1; omega
                | cons v cs =>
                  have := d2 0 v rfl
                  have e0 : ((ad.add (0 * P.cellsOf e)).add 0) = ad := by simp [Addr.add]
                  rw [e0] at this
                  unfold World.cell? at this
                  split at this
                  · rename_i hh
                    refine ⟨?_, (Array.getElem?_eq_some_iff.1 hh).1⟩
                    split at this
                    · cases this
                    · rename_i hs
                      cases hsp : ad.spot with
                      | none => rfl
                      | some _ => rw [hsp] at hs; simp at hs
                  · cases this
              obtain ⟨ab, ao, as⟩ := ad
              obtain ⟨rfl, hlt⟩ := h0
              obtain ⟨xs, cs, k1, k2, k3, k4, k5, k6⟩ := elems_rep (e := e) (n := n) (z := P.cellsOf e) (b := ab) len ao (rs.map (·.1)) (by simpa using m1) (fun i hi => by
                obtain ⟨y, cs, y1, c1, c2⟩ := el i hi
                obtain ⟨d1, d2⟩ := cells?_row c1
                obtain ⟨x, q1, q2, q3, q4⟩ := ih e _ y p2 ⟨fuel, c2⟩
                refine ⟨y.1, x, cs, by simp [y1], fun j v hv => ?_, q1, q2, q3, q4⟩
                have := d2 j v hv
                rw [addr_add, addr_add] at this
                exact this)
              subst k3
              exact ⟨.sl xs, .sl (fun h => h) hlt k5 hlc k1 k2, ⟨xs, rfl, by omega, k4⟩, p1.symm, .sl k6⟩

end
end Go.Sym

/-
A law by what is said of its call.
-/
set_option linter.unusedSimpArgs false
set_option linter.unusedVariables false
namespace Go.Sym
open Go.ChangeShapes Go.RowKit

section
variable {H : Type} {enc : TypeId × Value → H} {P : Program} {w : World}

theorem arg_rep {n : Nat} {t : TypeId} {v : Value} {d : DataW H} {ps : List MemPlace} {sp : Nat → Bool} {held : Bool} {r : Reach} {b : Nat} (hp : plainT P n t = true) (hval : Value.okWide P w r b t v) (h : DataW.Trod enc P w 0 sp held t v d ps) :
    ∃ x, RepA1 (fun _ => none) noX w (.d x) v ∧ okD P n t x ∧ RelD x d := by
  obtain ⟨x, k1, k2, _, k4⟩ := trod_rep n t v.cells.toList (d, ps) hp h
  refine ⟨x, ⟨v.cells.toList, .d k1, ?_⟩, k2, k4⟩
  show v = wrapV x.isAgg v.cells.toList
  cases n with
  | zero => simp [plainT] at hp
  | succ n =>
    simp only [okD] at k2
    simp only [Value.okWide] at hval
    split at k2
    · rename_i hu
      obtain ⟨q, rfl⟩ := k2
      simp only [hu, Cell.okWide, Cell.ok] at hval
      cases v <;> first | exact hval.elim | rfl
    · rename_i k hu
      obtain ⟨q, rfl, _⟩ := k2
      simp only [hu, Cell.okWide, Cell.ok] at hval
      cases v <;> first | exact hval.elim | rfl
    · rename_i hu
      obtain ⟨q, rfl, _⟩ := k2
      simp only [hu, Cell.okWide, Cell.ok] at hval
      cases v <;> first | exact hval.elim | rfl
    · rename_i fs hu
      obtain ⟨q, rfl, _⟩ := k2
      simp only [hu] at hval
      obtain ⟨cs, rfl, _⟩ := hval
      simp [wrapV, D.isAgg, Value.cells]
    · rename_i m e hu
      obtain ⟨q, rfl, _⟩ := k2
      simp only [hu] at hval
      obtain ⟨cs, rfl, _⟩ := hval
      simp [wrapV, D.isAgg, Value.cells]
    · rename_i e hu
      obtain ⟨q, rfl, _⟩ := k2
      simp only [hu, Cell.okWide, Cell.ok] at hval
      cases v <;> first | exact hval.elim | rfl
    · exact k2.elim

theorem args_rep {n : Nat} {sp : Nat → Bool} {held : Bool} {r : Reach} {b : Nat} : ∀ {ts : List TypeId} {vs : List Value} {ds : List (DataW H)} {ps : List MemPlace}, ts.all (plainT P n) = true →
    (∀ (j : Nat) t v, ts[j]? = some t → vs[j]? = some v → Value.okWide P w r b t v) → DataW.TrodAll enc P w 0 sp held ts vs ds ps →
    ∃ xs, RepT (fun _ => none) noX w (xs.map AV.d) vs ∧ okAll (okD P n) ts xs ∧ RelL xs ds
  | [], [], [], _, _, _, _ => ⟨[], trivial, trivial, .nil⟩
  | t :: ts, v :: vs, d :: ds, _, hp, hv, ⟨p, q, h1, h2, _⟩ => by
    simp only [List.all_cons, Bool.and_eq_true] at hp
    obtain ⟨x, k1, k2, k3⟩ := arg_rep hp.1 (hv 0 t v rfl rfl) h1
    obtain ⟨xs, m1, m2, m3⟩ := args_rep hp.2 (fun j t v ht hv' => hv (j + 1) t v (by simpa using ht) (by simpa using hv')) h2
    exact ⟨x :: xs, ⟨k1, m1⟩, ⟨k2, m2⟩, .cons k3 m3⟩
  | [], [], _ :: _, _, _, _, h => h.elim
  | [], _ :: _, _, _, _, _, h => h.elim
  | _ :: _, [], _, _, _, _, h => h.elim
  | _ :: _, _ :: _, [], _, _, _, h => h.elim

theorem trodAll_stays (hl : laidOutB P = true) {W W' : World} (he : Ext noX W W') : ∀ {ts : List TypeId} {vs : List Value} {ds : List (DataW H)} {ps : List MemPlace}, (ts.all fun t => P.readableRec t && decide (t < P.types.size)) = true → (∀ p ∈ ps, p.block < W.heap.size) →
    DataW.TrodAll enc P W 0 (fun _ => true) true ts vs ds ps → DataW.TrodAll enc P W' 0 (fun b => decide (b < W.heap.size)) true ts vs ds ps
  | [], [], [], _, _, _, h => h
  | t :: ts, v :: vs, d :: ds, _, ht, hp, ⟨p, q, h1, h2, e⟩ => by
    simp only [List.all_cons, Bool.and_eq_true, decide_eq_true_eq] at ht
    subst e
    have hsame : ∀ x ∈ p, W.sameAt W' x := fun x hx => by
      have hb := hp x (List.mem_append_left _ hx)
      have := he.keep x.block hb (fun h => h)
      cases x with
      | cell b o => exact World.cell?_of_block (w := W) this
      | map b => exact this
    exact ⟨p, q, WideElems.Trod_stays hl ht.1.1 ht.1.2 h1 hsame (fun x hx => by simpa using hp x (List.mem_append_left _ hx)), trodAll_stays hl he ht.2 (fun x hx => hp x (List.mem_append_right _ hx)) h2, rfl⟩
  | [], [], _ :: _, _, _, _, h => h.elim
  | [], _ :: _, _, _, _, _, h => h.elim
  | _ :: _, [], _, _, _, _, h => h.elim
  | _ :: _, _ :: _, [], _, _, _, h => h.elim

theorem Ext.kept {W W' : World} (he : Ext noX W W') (may : MemPlace → Prop) : W.keptBut W' may := by
  refine ⟨he.os, he.output, fun i hi => ?_⟩
  have := he.keep i hi (fun h => h)
  rw [this]
  cases W.heap[i]? with
  | none => rfl
  | some o => cases o <;> simp

theorem law_post {f : Func} {s : ChangeSpec} {W W' : World} {args : Array Value} {ds gs : List (DataW H)} {before : List MemPlace} {tb : TypeId} (hW : DataW.Whole enc P f.params.toList s.vars false W args.toList ds gs before) (hv : s.vars = [])
    (hfn : (s.fn H ds).results = [.lit (.bool true)] ∧ (s.fn H ds).args = ds ∧ (s.fn H ds).vars = []) (hb : P.underlying tb = some .bool) (hrt : f.resultTypes = #[tb]) (hl : laidOutB P = true)
    (ht : (f.params.toList.all fun t => P.readableRec t && decide (t < P.types.size)) = true) (he : Ext noX W W') : s.post enc P f false true false false W args (.bool true) W' := by
  have hlt := hW.lt
  have hW2 := hW
  obtain ⟨p, q, hA, hV, e, _, _⟩ := hW2
  rw [hv] at hV
  obtain ⟨rfl, rfl⟩ := trodVars_none hV
  refine ⟨ds, [], before, [], p, [], hW, ?_, ?_, ?_, he.kept _, fun h => by cases h⟩
  · rw [List.append_nil, hfn.1, hrt]
    exact trodAll_mk1 (shut_bool hb true)
  · rw [List.append_nil, hfn.2.1]
    exact trodAll_stays hl he ht (fun x hx => hlt x (by rw [e]; exact List.mem_append_left _ hx)) hA
  · rw [List.append_nil, hfn.2.2, hv]; rfl

theorem hsim0 (w : World) : HSim (fun _ => none) (fun _ => none) noX w :=
  ⟨nofun, nofun, nofun, nofun⟩

/-- **A law**: what is said of its call for all data of its parameters' types is what its row asks of the run. -/
theorem law_calls {fid : FuncId} {f : Func} {s : ChangeSpec} {W : World} {base : Nat} {args : Array Value} {ds gs : List (DataW H)} {before : List MemPlace} {tb : TypeId} (n : Nat)
    (hval : ∀ (j : Nat) t v, f.params[j]? = some t → args[j]? = some v → Value.okWide P W .any base t v) (hW : DataW.Whole enc P f.params.toList s.vars false W args.toList ds gs before) (hv : s.vars = [])
    (hfn : ds.length = f.params.size → (s.fn H ds).results = [.lit (.bool true)] ∧ (s.fn H ds).args = ds ∧ (s.fn H ds).vars = []) (hb : P.underlying tb = some .bool) (hrt : f.resultTypes = #[tb]) (hl : laidOutB P = true)
    (ht : (f.params.toList.all fun t => P.readableRec t && decide (t < P.types.size)) = true) (hp : f.params.toList.all (plainT P n) = true)
    (hmain : ∀ xs, okAll (okD P n) f.params.toList xs → RelL xs ds → LocalCall P fid (xs.map AV.d) [] [] (.d (.bool true)) []) :
    Calls P fid args W fun e W' => ∃ v, e = .returned v ∧ s.post enc P f false true false false W args v W' := by
  have hW2 := hW
  obtain ⟨p, q, hA, hV, _, _, _⟩ := hW2
  have hlen : ∀ {ts : List TypeId} {vs : List Value} {ds : List (DataW H)} {ps : List MemPlace}, DataW.TrodAll enc P W 0 (fun _ => true) true ts vs ds ps → ds.length = ts.length := by
    intro ts
    induction ts with
    | nil => intro vs ds ps h; cases vs <;> cases ds <;> first | rfl | exact h.elim
    | cons t ts ih =>
      intro vs ds ps h
      cases vs <;> cases ds <;> try exact h.elim
      obtain ⟨_, _, _, h2, _⟩ := h
      simp [ih h2]
  obtain ⟨xs, h1, h2, h3⟩ := args_rep hp (fun j t v h1 h2 => hval j t v (by simpa using h1) (by simpa using h2)) hA
  have hc := hmain xs h2 h3 (fun _ => none) (fun _ h => by cases h) (fun _ h => by cases h) (fun _ => none) noX W args.toList (hsim0 W) h1 (fun n hn => by
    exfalso
    have : ∀ l : List D, n ∉ AV.namesL (l.map AV.d) := fun l => by
      induction l with
      | nil => intro h; cases h
      | cons x l ih => simpa [AV.namesL, AV.names] using ih
    exact this xs hn)
  rw [Array.toArray_toList] at hc
  refine hc.mono fun e W' he => ?_
  obtain ⟨v, rfl, ρ', X', _, q2, q3, _⟩ := he
  have := repA_bool q3
  subst this
  exact ⟨_, rfl, law_post hW hv (hfn (by rw [hlen hA]; simp)) hb hrt hl ht (q2.ext.mono fun b _ hb => by obtain ⟨_, _, h, _⟩ := hb; cases h)⟩

end
end Go.Sym
