/-
Control: what is asked of a body ('wpC'), and that it serves.
-/
import Derived.Test.YthedcaopedbpdaaSymua
import Derived.Below
namespace Go.Sym

inductive AExit where
  | normal
  | ret
  | exit (id : Nat)
  | goto (l : Nat)

/-! ### Renamed frames -/

def renN (m : List (Nat × Nat)) (o : Nat) : Nat := match lkp m o with
  | some o' => o'
  | none => o

mutual
def AV.ren (m : List (Nat × Nat)) : AV → AV
  | .ptr o p => .ptr (renN m o) p
  | .sl o p e off len => .sl (renN m o) p e off len
  | .st fs => .st (AV.rens m fs)
  | .fn f cs => .fn f (AV.rens m cs)
  | .tup vs => .tup (AV.rens m vs)
  | .d x => .d x
  | .dptr x => .dptr x
  | .top => .top
  | .cst v => .cst v
def AV.rens (m : List (Nat × Nat)) : List AV → List AV
  | [] => []
  | x :: xs => AV.ren m x :: AV.rens m xs
end

def AObj.ren (m : List (Nat × Nat)) : AObj → AObj
  | .var x => .var (x.ren m)
  | .row e xs => .row e xs
  | .dead => .dead

theorem AV.ren_agg (m : List (Nat × Nat)) (x : AV) : (x.ren m).isAgg = x.isAgg := by cases x <;> simp only [AV.ren, AV.isAgg]

mutual
theorem RepC.ren {m : List (Nat × Nat)} {ρ : Nat → Option Nat} {X : Nat → Prop} {w : World} : ∀ {x : AV} {cs : List Value}, RepC ρ X w (x.ren m) cs → RepC (fun o => ρ (renN m o)) X w x cs
  | .d x, cs, h => by
    simp only [AV.ren] at h
    cases h with
    | d h => exact .d h
  | .ptr o p, cs, h => by
    simp only [AV.ren] at h
    cases h with
    | ptr _ h => exact .ptr p h
  | .sl o p e off len, cs, h => by
    simp only [AV.ren] at h
    cases h with
    | sl h0 h1 h2 h3 h4 => exact .sl h0 h1 h2 h3 h4
    | slnil h => exact .slnil h
  | .st fs, cs, h => by
    simp only [AV.ren] at h
    cases h with
    | st h => exact .st (RepCs.ren h)
  | .dptr x, cs, h => by
    simp only [AV.ren] at h
    cases h with
    | dptr h1 h2 h3 h4 => exact .dptr h1 h2 h3 h4
  | .fn f fs, cs, h => by
    simp only [AV.ren] at h
    cases h with
    | fn h => exact .fn (RepCs.ren h)
  | .tup vs, cs, h => by
    simp only [AV.ren] at h
    cases h
  | .top, cs, h => by
    simp only [AV.ren] at h
    cases h with
    | top h => exact .top h
  | .cst v, cs, h => by
    simp only [AV.ren] at h
    cases h with
    | cst h => exact .cst h
theorem RepCs.ren {m : List (Nat × Nat)} {ρ : Nat → Option Nat} {X : Nat → Prop} {w : World} : ∀ {xs : List AV} {cs : List Value}, RepCs ρ X w (AV.rens m xs) cs → RepCs (fun o => ρ (renN m o)) X w xs cs
  | [], cs, h => by
    simp only [AV.rens] at h
    cases h; exact .nil
  | x :: xs, cs, h => by
    simp only [AV.rens] at h
    cases h with
    | cons h hs => exact .cons (RepC.ren h) (RepCs.ren hs)
end

theorem RepA1.ren {m : List (Nat × Nat)} {ρ : Nat → Option Nat} {X : Nat → Prop} {w : World} {x : AV} {v : Value} (h : RepA1 ρ X w (x.ren m) v) : RepA1 (fun o => ρ (renN m o)) X w x v := by
  obtain ⟨cs, h1, h2⟩ := h
  rw [AV.ren_agg] at h2
  exact ⟨cs, h1.ren, h2⟩

theorem RepT.ren {m : List (Nat × Nat)} {ρ : Nat → Option Nat} {X : Nat → Prop} {w : World} : ∀ {xs : List AV} {vs : List Value}, RepT ρ X w (AV.rens m xs) vs → RepT (fun o => ρ (renN m o)) X w xs vs
  | [], [], _ => trivial
  | [], _ :: _, h => by simp only [AV.rens] at h; exact h.elim
  | _ :: _, [], h => by simp only [AV.rens] at h; exact h.elim
  | _ :: _, _ :: _, h => by
    simp only [AV.rens] at h
    exact ⟨h.1.ren, RepT.ren h.2⟩

theorem RepA.ren {m : List (Nat × Nat)} {ρ : Nat → Option Nat} {X : Nat → Prop} {w : World} {x : AV} {v : Value} (h : RepA ρ X w (x.ren m) v) : RepA (fun o => ρ (renN m o)) X w x v := by
  cases x <;> simp only [AV.ren] at h
  case top => trivial
  case tup vs => obtain ⟨us, h1, h2⟩ := h; exact ⟨us, h1, h2.ren⟩
  all_goals
    refine RepA1.ren (m := m) ?_
    simp only [AV.ren]
    exact h

theorem ObjAt.ren {m : List (Nat × Nat)} {ρ : Nat → Option Nat} {X : Nat → Prop} {w : World} {o : Nat} {x : AObj} (h : ObjAt ρ X w (renN m o) (x.ren m)) : ObjAt (fun o => ρ (renN m o)) X w o x := by
  cases x with
  | var x => obtain ⟨b, cs, T, z, h0, h1, h2, h3⟩ := h; exact ⟨b, cs, T, z, h0, h1, h2, h3.ren⟩
  | row e xs => exact h
  | dead => trivial

theorem AObj.ren_alive (m : List (Nat × Nat)) (x : AObj) : (x.ren m).alive = x.alive := by cases x <;> rfl

def mkSt (n : Nat) (sl : List (Nat × AV)) (hp : List (Nat × AObj)) : St :=
  ⟨n, fun t => match lkp sl t with
    | some x => x
    | none => .top, fun o => lkp hp o⟩

/-- Are two values one? What is left of that to be shown. -/
def eqAV : AV → AV → Prop
  | .d x, .d y => Side (x = y)
  | .dptr x, .dptr y => Side (x = y)
  | .ptr o p, .ptr o' p' => bif o.beq o' then Side (p = p') else False
  | .sl o p e off len, .sl o' p' e' off' len' => bif o.beq o' && e.beq e' then Side (p = p') ∧ Side (off = off') ∧ Side (len = len') else False
  | .fn f cs, .fn f' cs' => Side (AV.fn f cs = .fn f' cs')
  | .top, .top => True
  | x, y => Side (x = y)

theorem eqAV_spec {x y : AV} (h : eqAV x y) : x = y := by
  unfold eqAV at h
  split at h
  · rw [Side_eq] at h; rw [h]
  · rw [Side_eq] at h; rw [h]
  · rename_i o p o' p'
    cases hb : o.beq o' <;> simp only [hb, cond_true, cond_false] at h
    rw [Side_eq] at h
    rw [h, Nat.eq_of_beq_eq_true hb]
  · rename_i o p e off len o' p' e' off' len'
    cases hb : o.beq o' <;> cases hc : e.beq e' <;> simp only [hb, hc, Bool.and_true, Bool.and_false, cond_true, cond_false] at h
    simp only [Side_eq] at h
    rw [h.1, h.2.1, h.2.2, Nat.eq_of_beq_eq_true hb, Nat.eq_of_beq_eq_true hc]
  · rw [Side_eq] at h; exact h
  · rfl
  · rw [Side_eq] at h; exact h

def eqObj : AObj → AObj → Prop
  | .var x, .var y => eqAV x y
  | .row e xs, .row e' ys => bif e.beq e' then Side (xs = ys) else False
  | .dead, .dead => True
  | _, _ => False

theorem eqObj_spec {x y : AObj} (h : eqObj x y) : x = y := by
  unfold eqObj at h
  split at h
  · rw [eqAV_spec h]
  · rename_i e xs e' ys
    cases hb : e.beq e' <;> simp only [hb, cond_true, cond_false] at h
    rw [Side_eq] at h
    rw [h, Nat.eq_of_beq_eq_true hb]
  · rfl
  · exact h.elim

def wkSl (S : St) (m : List (Nat × Nat)) : List (Nat × AV) → Prop
  | [] => True
  | (t, v) :: l => eqAV (S.sl t) (v.ren m) ∧ wkSl S m l

def wkHp (S : St) (m : List (Nat × Nat)) : List (Nat × AObj) → Prop
  | [] => True
  | (o, x) :: l => (match S.hp (renN m o) with
    | some y => eqObj y (x.ren m)
    | none => False) ∧ wkHp S m l

theorem wkSl_spec {S : St} {m : List (Nat × Nat)} : ∀ {l : List (Nat × AV)}, wkSl S m l → ∀ t v, (t, v) ∈ l → S.sl t = v.ren m
  | [], _, _, _, h => by cases h
  | (t', v') :: l, h, t, v, hm => by
    rcases List.mem_cons.1 hm with he | hm
    · cases he; exact eqAV_spec h.1
    · exact wkSl_spec h.2 t v hm

theorem wkHp_spec {S : St} {m : List (Nat × Nat)} : ∀ {l : List (Nat × AObj)}, wkHp S m l → ∀ o x, (o, x) ∈ l → S.hp (renN m o) = some (x.ren m)
  | [], _, _, _, h => by cases h
  | (o', x') :: l, h, o, x, hm => by
    rcases List.mem_cons.1 hm with he | hm
    · cases he
      have h1 := h.1
      split at h1
      · rename_i y hy; rw [hy, eqObj_spec h1]
      · exact h1.elim
    · exact wkHp_spec h.2 o x hm

def hasKey {α : Type} (l : List (Nat × α)) (n : Nat) : Bool := (lkp l n).isSome

/-- The names of a renamed frame are well chosen. -/
def wkOK (en : List Nat) (m : List (Nat × Nat)) (sl : List (Nat × AV)) (hp : List (Nat × AObj)) : Bool :=
  sl.all (fun p => p.2.names.all (hasKey hp)) && hp.all (fun p => p.2.names.all (hasKey hp)) &&
  hp.all (fun p => hp.all fun q => p.1.beq q.1 || !(renN m p.1).beq (renN m q.1)) && en.all (fun n => (renN m n).beq n && hasKey hp n)

/-- What a frame may be taken for. -/
structure Weak (en : List Nat) (S : St) (sl : List (Nat × AV)) (hp : List (Nat × AObj)) : Prop where
  h : ∃ m, Chk (wkOK en m sl hp) ∧ wkSl S m sl ∧ wkHp S m hp

theorem InvAt.weakAt {E : Ent} {S : St} {ρ : Nat → Option Nat} {X : Nat → Prop} {a : Act} {w : World} {en : List Nat} {m : List (Nat × Nat)} {sl : List (Nat × AV)} {hp : List (Nat × AObj)} (hA : InvAt E S ρ X a w) (hen : ∀ n, E.hp n ≠ none → n ∈ en) (h1 : wkOK en m sl hp = true) (h2 : wkSl S m sl) (h3 : wkHp S m hp) :
    InvAt E (mkSt S.n sl hp) (fun o => ρ (renN m o)) X a w := by
  simp only [wkOK, Bool.and_eq_true, List.all_eq_true, Bool.or_eq_true, Bool.not_eq_true', hasKey, Option.isSome_iff_ne_none] at h1
  obtain ⟨⟨⟨k1, k2⟩, k3⟩, k4⟩ := h1
  have hs := hA.sim
  have hobj : ∀ o x, (mkSt S.n sl hp).hp o = some x → S.hp (renN m o) = some (x.ren m) := fun o x h => wkHp_spec h3 o x (lkp_mem h)
  refine ⟨⟨hs.n, fun t v ht => ?_, fun o x h => ?_, fun o o' x x' b e1 e2 e3 e4 e5 e6 => ?_, fun o x b e1 e2 e3 => ?_, fun t o ho => ?_, fun o x h o' ho' => ?_⟩,
    hA.ext, hA.xs, fun o x b e1 e2 e3 => ?_, fun n hn => ?_, hA.marks⟩
  · show RepA _ X w (match lkp sl t with | some x => x | none => .top) v
    cases hl : lkp sl t with
    | none => trivial
    | some x =>
      refine RepA.ren (m := m) ?_
      rw [← wkSl_spec h2 t x (lkp_mem hl)]
      exact hs.slots t v ht
  · exact ObjAt.ren (hs.objs _ _ (hobj o x h))
  · have := hs.inj _ _ _ _ b (hobj o x e1) (by rw [AObj.ren_alive]; exact e2) (hobj o' x' e3) (by rw [AObj.ren_alive]; exact e4) e5 e6
    rcases k3 _ (lkp_mem e1) _ (lkp_mem e3) with h | h
    · exact Nat.eq_of_beq_eq_true h
    · simp only at h
      rw [this] at h; simp at h
  · exact hs.own _ _ b (hobj o x e1) (by rw [AObj.ren_alive]; exact e2) e3
  · have ho : o ∈ (match lkp sl t with | some x => x | none => .top : AV).names := ho
    cases hl : lkp sl t with
    | none => rw [hl] at ho; cases ho
    | some x => rw [hl] at ho; exact k1 _ (lkp_mem hl) o ho
  · exact k2 _ (lkp_mem h) o' ho'
  · exact hA.own _ _ b (hobj o x e1) (by rw [AObj.ren_alive]; exact e2) e3
  · obtain ⟨q1, q2⟩ := k4 n (hen n hn)
    have q1 := Nat.eq_of_beq_eq_true q1
    refine ⟨q2, ?_⟩
    show ρ (renN m n) = _
    rw [q1]; exact (hA.same n hn).2

theorem Inv.weak {E : Ent} {S : St} {a : Act} {w : World} {en : List Nat} {sl : List (Nat × AV)} {hp : List (Nat × AObj)} (hI : Inv E S a w) (hen : ∀ n, E.hp n ≠ none → n ∈ en) (h : Weak en S sl hp) : Inv E (mkSt S.n sl hp) a w := by
  obtain ⟨m, h1, h2, h3⟩ := h.h
  rw [Chk_eq] at h1
  obtain ⟨ρ, X, hA⟩ := hI
  exact ⟨_, X, hA.weakAt hen h1 h2 h3⟩

/-! ### What is owned given up for data -/

/-- A slot's slice given a name of its own ('nm * 1000000 + e * 1000 + t'): nil owns a row of nothing. -/
def ownK (nm e t : Nat) (S : St) (k : AV → List (Nat × AObj) → Prop) : Prop := match S.hp nm with
  | some _ => False
  | none => match S.sl t with
    | .d .nils => k (.sl nm [] e 0 0) [(nm, .row e [])]
    | .sl o p e' off len => match S.hp o with
      | some (.row e'' xs) => bif t.blt S.n then k (.sl nm p e' off len) [(nm, .row e'' xs), (o, .dead)] else False
      | _ => False
    | _ => False

/-- The same of a variable that holds nil ('e * 1000000000000000000 + nm * 1000000000 + o'). -/
def ownV (nm e o : Nat) (S : St) (k : List (Nat × AObj) → Prop) : Prop := match S.hp nm with
  | some _ => False
  | none => match S.hp o with
    | some (.var (.d .nils)) => k [(o, .var (.sl nm [] e 0 0)), (nm, .row e [])]
    | _ => False

/-- What a slot's pointer points at given up for data ('500000 + t'). -/
def ptrK (t : Nat) (S : St) (k : AV → List (Nat × AObj) → Prop) : Prop := match S.sl t with
  | .ptr o [] => match S.hp o with
    | some (.var (.d x)) => bif t.blt S.n then k (.dptr x) (deads [o]) else False
    | _ => False
  | _ => False

def frzK : List Nat → St → (St → Prop) → Prop
  | [], S, k => k S
  | t :: ts, S, k => bif t.blt 500000 then match toD S.hp (S.sl t) with
      | some (s, y, fz) => Side s ∧ fNs fz fun fz => frzK ts ((S.write (deads fz)).put (some t) (.d y)) k
      | none => False
    else bif t.blt 1000000 then fN (t - 500000) fun u => ptrK u S fun r ws => fAV r fun r => fWs ws fun ws => frzK ts ((S.write ws).put (some u) r) k
    else bif Nat.ble 1000000000000000000 t then fN (t / 1000000000 % 1000000000) fun nm => fN (t / 1000000000000000000) fun e => fN (t % 1000000000) fun o => ownV nm e o S fun ws => fWs ws fun ws => frzK ts (S.upd none .top ws) k
    else fN (t / 1000000) fun nm => fN (t / 1000 % 1000) fun e => fN (t % 1000) fun u => ownK nm e u S fun r ws => fAV r fun r => fWs ws fun ws => frzK ts (S.upd (some u) r ws) k

def frC (fr : List (Nat × List Nat)) (id : Nat) (S : St) (k : St → Prop) : Prop := match lkp fr id with
  | none => k S
  | some ts => frzK ts S k

theorem InvAt.marksLess {E : Ent} {S : St} {ρ : Nat → Option Nat} {X : Nat → Prop} {a : Act} {w : World} (hA : InvAt E S ρ X a w) (fz : List Nat) :
    ∃ ms : List Nat, a.defers = ms.map mark ++ E.ds ∧ (E.nm = true → ms = []) ∧ ms.Nodup ∧ ∀ D, D ∈ ms → E.w.heap.size ≤ D ∧ less S.hp ρ X fz D ∧ w.heap[D]? = some (.deferred (some [])) := by
  obtain ⟨ms, k1, kn, k0, k2⟩ := hA.marks
  refine ⟨ms, k1, kn, k0, fun D hD => ?_⟩
  obtain ⟨k3, k4, k5⟩ := k2 D hD
  refine ⟨k3, ⟨k4, fun ⟨o, x, _, q1, q2, q3⟩ => ?_⟩, k5⟩
  obtain ⟨c, T, z, q4⟩ := (hA.sim.objs o x q1).cells q2 q3
  rw [k5] at q4; cases q4

theorem InvAt.kill {E : Ent} {S : St} {ρ : Nat → Option Nat} {X : Nat → Prop} {a : Act} {w : World} (hA : InvAt E S ρ X a w) (fz : List Nat) : InvAt E (S.write (deads fz)) ρ (less S.hp ρ X fz) a w := by
  have hal : ∀ o x, (S.write (deads fz)).hp o = some x → x.alive = true → S.hp o = some x := fun o x h ha => by
    simp only [St.write] at h
    cases hl : lkp (deads fz) o with
    | some y => simp only [hl, Option.some.injEq] at h; subst h; rw [(lkp_deads hl).1] at ha; cases ha
    | none => simpa only [hl] using h
  refine ⟨hA.sim.kill fz, hA.ext, fun b hb => ⟨fun k => (hA.xs b hb).1 k.1, fun k => ?_⟩, fun o x b e1 e2 e3 => hA.own o x b (hal o x e1 e2) e2 e3, fun n hn => ⟨wr_ne (ws := deads fz) (hA.same n hn).1, (hA.same n hn).2⟩, hA.marksLess fz⟩
  rcases (hA.xs b hb).2 k with k | k
  · by_cases hl : less S.hp ρ X fz b
    · exact .inl hl
    · right
      have : ∃ o x, o ∈ fz ∧ S.hp o = some x ∧ x.alive = true ∧ ρ o = some b := Classical.byContradiction fun hn => hl ⟨k, hn⟩
      obtain ⟨o, x, _, k1, k2, k3⟩ := this
      exact (hA.own o x b k1 k2 k3).elim (fun q => by omega) id
  · exact .inr k

theorem Inv.frz {E : Ent} {S : St} {a : Act} {w : World} {t : Nat} {s : Prop} {y : D} {fz : List Nat} (hI : Inv E S a w) (h : toD S.hp (S.sl t) = some (s, y, fz)) (hs : s) : Inv E ((S.write (deads fz)).put (some t) (.d y)) a w := by
  obtain ⟨ρ, X, hA⟩ := hI
  have hk := hA.sim.kill fz
  have hdom : ∀ n, S.hp n ≠ none → (S.write (deads fz)).hp n ≠ none := fun n hn => wr_ne (ws := deads fz) hn
  have hal : ∀ o x, (S.write (deads fz)).hp o = some x → x.alive = true → S.hp o = some x := fun o x h ha => by
    simp only [St.write] at h
    cases hl : lkp (deads fz) o with
    | some y => simp only [hl, Option.some.injEq] at h; subst h; rw [(lkp_deads hl).1] at ha; cases ha
    | none => simpa only [hl] using h
  refine ⟨ρ, less S.hp ρ X fz, ⟨⟨?_, fun u v hu => ?_, ?_, ?_, ?_, fun u o ho => ?_, ?_⟩, hA.ext, fun b hb => ⟨fun k => (hA.xs b hb).1 k.1, fun k => ?_⟩, fun o x b e1 e2 e3 => ?_, fun n hn => ?_, ?_⟩⟩
  · rw [St.n_put]; exact hk.n
  · rcases St.sl_put (S.write (deads fz)) (some t) (.d y) u with ⟨h1, h2⟩ | ⟨h1, _⟩
    · cases h2
      rw [h1]
      exact toD_rep hA.sim h hs (fun _ h => h) (hA.sim.slots _ v hu)
    · rw [h1]; exact hk.slots u v hu
  · rw [St.hp_put]; exact hk.objs
  · rw [St.hp_put]; exact hk.inj
  · rw [St.hp_put]; exact hk.own
  · rw [St.hp_put]
    rcases St.sl_put (S.write (deads fz)) (some t) (.d y) u with ⟨h1, _⟩ | ⟨h1, _⟩
    · rw [h1] at ho; cases ho
    · rw [h1] at ho; exact hk.closedS u o ho
  · rw [St.hp_put]; exact hk.closedH
  · rcases (hA.xs b hb).2 k with k | k
    · by_cases hl : less S.hp ρ X fz b
      · exact .inl hl
      · right
        have : ∃ o x, o ∈ fz ∧ S.hp o = some x ∧ x.alive = true ∧ ρ o = some b := Classical.byContradiction fun hn => hl ⟨k, hn⟩
        obtain ⟨o, x, _, k1, k2, k3⟩ := this
        exact (hA.own o x b k1 k2 k3).elim (fun q => by omega) id
    · exact .inr k
  · rw [St.hp_put] at e1
    exact hA.own o x b (hal o x e1 e2) e2 e3
  · rw [St.hp_put]
    exact ⟨hdom n (hA.same n hn).1, (hA.same n hn).2⟩
  · exact hA.marksLess fz

theorem put_same {a : Act} {t : Nat} {v : Value} (h : ∀ u, a.tmps[t]? = some u → u = v) : a.put (some t) v = a := by
  have : a.tmps.setIfInBounds t v = a.tmps := by
    apply Array.ext
    · simp
    · intro i h1 h2
      rw [Array.getElem_setIfInBounds (by simpa using h2)]
      split
      · rename_i e; subst e
        exact (h _ (Array.getElem?_eq_getElem (by simpa using h2))).symm
      · rfl
  show ({ a with tmps := a.tmps.setIfInBounds t v } : Act) = a
  rw [this]

theorem ownK_sound {E : Ent} {a : Act} {w : World} {nm e t : Nat} {S : St} {k : AV → List (Nat × AObj) → Prop} (h : ownK nm e t S k) (hI : Inv E S a w) : ∃ r ws, k r ws ∧ Inv E (S.upd (some t) r ws) a w := by
  obtain ⟨ρ, X, hA⟩ := hI
  have hdom : ∀ (ws : List (Nat × AObj)) (r : AV) n, S.hp n ≠ none → (S.upd (some t) r ws).hp n ≠ none := fun ws r n hn => by
    rw [St.hp_upd']; exact wr_ne hn
  unfold ownK at h
  split at h
  · exact h.elim
  · rename_i hf
    split at h
    · rename_i hv
      refine ⟨_, _, h, ?_⟩
      have hval : ∀ u, a.tmps[t]? = some u → u = .slice none 0 0 := fun u hu => by
        have := hA.sim.slots t u hu
        rw [hv] at this
        obtain ⟨cs, h1, h2⟩ := repA_d this
        cases h1; exact h2
      obtain ⟨ρ', X', h1, h2⟩ := hA.sim.moved (w' := w) (Y := fun _ => False) (nm := nm) (x := .row e []) (ws := [(nm, .row e [])]) (dst := some t) (r := .sl nm [] e 0 0) (v := .slice none 0 0) (nb := none) hf
        (fun n y hl => .inl (by have := lkp_mem hl; simp at this; exact this)) (by simp [lkp]) (.refl _ _) (fun _ hb => hb.elim) (fun b hb => by cases hb)
        (fun ρ' X' _ hn => .inl ⟨hn, rfl⟩) (fun n hn => by cases hn) (fun ρ' X' _ hn => ⟨_, .slnil hn, rfl⟩) (fun n hn => by simp [AV.names] at hn; exact .inr hn)
      rw [put_same hval] at h1
      exact ⟨ρ', X', hA.evo h1 h2 (hdom _ _) rfl⟩
    · rename_i o p e' off len hv
      split at h
      · rename_i e'' xs ho
        cases hb : Nat.blt t S.n with
        | false => rw [hb] at h; exact h.elim
        | true =>
        rw [hb] at h
        refine ⟨_, _, h, ?_⟩
        have hlt : t < a.tmps.size := by rw [hA.sim.n]; exact Nat.le_of_ble_eq_true hb
        have hu := hA.sim.slots t _ (Array.getElem?_eq_getElem hlt)
        rw [hv] at hu
        have hne : o ≠ nm := fun he => by rw [he, hf] at ho; cases ho
        have hne2 : (nm.beq o) = false := by
          cases hb : nm.beq o with
          | true => exact absurd (Nat.eq_of_beq_eq_true hb).symm hne
          | false => rfl
        obtain ⟨ρ', X', h1, h2⟩ := hA.sim.moved (w' := w) (Y := fun _ => False) (nm := nm) (x := .row e'' xs) (ws := [(nm, .row e'' xs), (o, .dead)]) (dst := some t) (r := .sl nm p e' off len) (v := a.tmps[t]) (nb := ρ o) hf
          (fun n y hl => by
            have := lkp_mem hl
            simp only [List.mem_cons, Prod.mk.injEq, List.not_mem_nil, or_false] at this
            rcases this with ⟨q1, q2⟩ | ⟨q1, q2⟩
            · exact .inl ⟨q1, q2⟩
            · exact .inr ⟨q2, by rw [q1, ho]; simp⟩) (by simp [lkp]) (.refl _ _) (fun _ hb => hb.elim) (fun b hb => .inr ⟨o, _, by simp [lkp, hne2], ho, rfl, hb⟩)
          (fun ρ' X' g hn => by
            rcases hA.sim.objs o _ ho with ⟨q1, q2⟩ | ⟨b, cs, rest, T, z, q0, q1, q2, q3, q4⟩
            · exact .inl ⟨by rw [hn, q1], q2⟩
            · exact .inr ⟨b, cs, rest, T, z, by rw [hn, q0], q1, q2, q3.mono g.ext g.off g.own, q4⟩)
          (fun n hn => by cases hn) (fun ρ' X' g hn => by
            obtain ⟨cs, q1, q2⟩ := hu
            cases q1 with
            | sl q3 q4 q5 q6 q7 => exact ⟨_, .sl (by rw [hn, q3]) q4 q5 q6 q7, q2⟩
            | slnil q3 => exact ⟨_, .slnil (by rw [hn, q3]), q2⟩) (fun n hn => by simp [AV.names] at hn; exact .inr hn)
        rw [put_same (fun u hu => by rw [Array.getElem?_eq_getElem hlt] at hu; cases hu; rfl)] at h1
        exact ⟨ρ', X', hA.evo h1 h2 (hdom _ _) rfl⟩
      · exact h.elim
    · exact h.elim

theorem ownV_sound {E : Ent} {a : Act} {w : World} {nm e o : Nat} {S : St} {k : List (Nat × AObj) → Prop} (h : ownV nm e o S k) (hI : Inv E S a w) : ∃ ws, k ws ∧ Inv E (S.upd none .top ws) a w := by
  obtain ⟨ρ, X, hA⟩ := hI
  unfold ownV at h
  split at h
  · exact h.elim
  · rename_i hf
    split at h
    · rename_i ho
      refine ⟨_, h, ?_⟩
      have hs := hA.sim
      have hne : o ≠ nm := fun he => by rw [he, hf] at ho; cases ho
      have hbeq : ∀ {x y : Nat}, x ≠ y → (x.beq y) = false := fun {x y} hxy => by
        cases hb : x.beq y with
        | true => exact absurd (Nat.eq_of_beq_eq_true hb) hxy
        | false => rfl
      let ρ' : Nat → Option Nat := fun n => bif nm.beq n then none else ρ n
      have hρ : ∀ n, n ≠ nm → ρ' n = ρ n := fun n hn => by simp only [ρ', hbeq (Ne.symm hn), cond_false]
      have hρn : ρ' nm = none := by simp [ρ']
      have hlk : ∀ n x, lkp [(o, AObj.var (.sl nm [] e 0 0)), (nm, .row e [])] n = some x → (n = o ∧ x = .var (.sl nm [] e 0 0)) ∨ (n = nm ∧ x = .row e []) := fun n x hl => by
        have := lkp_mem hl
        simpa only [List.mem_cons, Prod.mk.injEq, List.not_mem_nil, or_false] using this
      have hlko : lkp [(o, AObj.var (.sl nm [] e 0 0)), (nm, .row e [])] o ≠ none := by simp [lkp]
      have hlkn : lkp [(o, AObj.var (.sl nm [] e 0 0)), (nm, .row e [])] nm ≠ none := by simp [lkp, hbeq hne]
      have g : Goes ρ ρ' X X (fun _ => False) w w := ⟨.refl _ _, fun _ _ _ h => h, fun _ _ h => h⟩
      have hno : ∀ n, S.hp n ≠ none → n ≠ nm := fun n hn he => hn (by rw [he]; exact hf)
      have hst := hs.step (Y := fun _ => False) (w' := w) (ρ' := ρ') (X' := X) (dst := none) (r := .top) (v := undef) (ws := [(o, .var (.sl nm [] e 0 0)), (nm, .row e [])]) (.refl _ _) (fun _ hb => hb.elim) (fun n hn => hρ n (hno n hn)) (fun _ _ h => h)
        (fun n x b _ h1 h2 h3 => hs.own n x b h1 h2 h3)
        (fun n x hl => by
          rcases hlk n x hl with ⟨rfl, rfl⟩ | ⟨rfl, rfl⟩
          · obtain ⟨b, cs, T, z, q0, q1, q2, q3⟩ := hs.objs _ _ ho
            cases q3 with
            | d q3 => cases q3; exact ⟨b, _, T, z, by rw [hρ _ hne, q0], q1, q2, .slnil hρn⟩
          · exact .inl ⟨hρn, rfl⟩)
        (fun n x b hl ha hb => by
          rcases hlk n x hl with ⟨rfl, rfl⟩ | ⟨rfl, rfl⟩
          · exact hs.own _ _ b ho rfl (by rw [← hρ _ hne]; exact hb)
          · rw [hρn] at hb; cases hb)
        (fun n x n' x' b hl ha hl' ha' hb hb' => by
          rcases hlk n x hl with ⟨rfl, rfl⟩ | ⟨rfl, rfl⟩
          · rcases hlk n' x' hl' with ⟨rfl, rfl⟩ | ⟨rfl, rfl⟩
            · rfl
            · rw [hρn] at hb'; cases hb'
          · rw [hρn] at hb; cases hb)
        (fun n x n' x' b hl ha hl' hs' ha' hb hb' => by
          rcases hlk n x hl with ⟨rfl, rfl⟩ | ⟨rfl, rfl⟩
          · have := hs.inj _ _ _ _ b ho rfl hs' ha' (by rw [← hρ _ hne]; exact hb) hb'
            subst this; exact hlko hl'
          · rw [hρn] at hb; cases hb)
        (fun n x hl n' hn' => by
          rcases hlk n x hl with ⟨rfl, rfl⟩ | ⟨rfl, rfl⟩
          · simp [AObj.names, AV.names] at hn'; subst hn'; exact .inr hlkn
          · cases hn')
        trivial (fun n hn => by cases hn)
      refine ⟨ρ', X, hA.evo hst ⟨.mono (.refl _ _) fun _ _ h => h, fun b _ => ⟨id, .inl⟩, fun n x b h1 h2 h3 => ?_, fun n hn => hρ n (hno n hn)⟩ (fun n hn => upd_dom hn) rfl⟩
      rw [St.hp_upd] at h1
      split at h1
      · rename_i y hl
        cases h1
        rcases hlk n _ hl with ⟨rfl, rfl⟩ | ⟨rfl, rfl⟩
        · exact .inr ⟨_, _, ho, rfl, by rw [← hρ _ hne]; exact h3⟩
        · rw [hρn] at h3; cases h3
      · exact .inr ⟨n, x, h1, h2, by rw [← hρ n (hno n (by rw [h1]; simp))]; exact h3⟩
    · exact h.elim

theorem ptrK_sound {E : Ent} {a : Act} {w : World} {t : Nat} {S : St} {k : AV → List (Nat × AObj) → Prop} (h : ptrK t S k) (hI : Inv E S a w) : ∃ r ws, k r ws ∧ Inv E ((S.write ws).put (some t) r) a w := by
  obtain ⟨ρ, X, hA⟩ := hI
  unfold ptrK at h
  split at h
  · rename_i o hv
    split at h
    · rename_i x ho
      cases hb : Nat.blt t S.n with
      | false => rw [hb] at h; exact h.elim
      | true =>
      rw [hb] at h
      refine ⟨_, _, h, ?_⟩
      have hlt : t < a.tmps.size := by rw [hA.sim.n]; exact Nat.le_of_ble_eq_true hb
      have hu := hA.sim.slots t _ (Array.getElem?_eq_getElem hlt)
      rw [hv] at hu
      obtain ⟨b, hb0, hxv⟩ := repA_ptr hu
      obtain ⟨b', cs, T, z, q0, q1, q2, q3⟩ := hA.sim.objs o _ ho
      rw [hb0] at q0; cases q0
      have hK := hA.kill [o]
      have q4 : RepD X w x cs := by cases q3 with | d q3 => exact q3
      have g : Goes ρ ρ X (less S.hp ρ X [o]) (fun _ => False) w w := ⟨.refl _ _, fun _ _ _ h => h, fun _ _ h => h.1⟩
      have hr : RepA ρ (less S.hp ρ X [o]) w (.dptr x) a.tmps[t] := by
        rw [hxv]
        refine ⟨_, .dptr (b := b) (q := 0) (cs := cs) (fun hl => hl.2 ⟨o, _, by simp, ho, rfl, hb0⟩) (Array.getElem?_eq_some_iff.1 q1).1 (fun i v hi => ?_) (q4.mono g.ext g.off g.own), rfl⟩
        simp only [World.cell?, q1]
        simpa using hi
      obtain ⟨k1, k2⟩ := hK.sim.put (dst := some t) hr (fun _ h => by cases h)
      rw [put_same (fun u hu => by rw [Array.getElem?_eq_getElem hlt] at hu; cases hu; rfl)] at k1
      exact ⟨ρ, _, hK.evo k1 k2 (fun n hn => by rw [St.hp_put]; exact hn) rfl⟩
    · exact h.elim
  · exact h.elim

theorem frzK_sound {E : Ent} {a : Act} {w : World} {k : St → Prop} : ∀ {ts : List Nat} {S : St}, frzK ts S k → Inv E S a w → ∃ S', k S' ∧ Inv E S' a w
  | [], S, h, hI => ⟨S, h, hI⟩
  | t :: ts, S, h, hI => by
    simp only [frzK, fNs_eq, fN_eq, fAV_eq, fWs_eq] at h
    cases hb : Nat.blt t 500000 with
    | true =>
      simp only [hb, cond_true] at h
      split at h
      · rename_i s y fz hd
        rw [Side_eq] at h
        exact frzK_sound h.2 (hI.frz hd h.1)
      · exact h.elim
    | false =>
      simp only [hb, cond_false] at h
      cases hb3 : Nat.blt t 1000000 with
      | true =>
        simp only [hb3, cond_true] at h
        obtain ⟨r, ws, h1, h2⟩ := ptrK_sound h hI
        exact frzK_sound h1 h2
      | false =>
      simp only [hb3, cond_false] at h
      cases hb2 : Nat.ble 1000000000000000000 t with
      | true =>
        simp only [hb2, cond_true] at h
        obtain ⟨ws, h1, h2⟩ := ownV_sound h hI
        exact frzK_sound h1 h2
      | false =>
        simp only [hb2, cond_false] at h
        obtain ⟨r, ws, h1, h2⟩ := ownK_sound h hI
        exact frzK_sound h1 h2

theorem frC_sound {E : Ent} {a : Act} {w : World} {k : St → Prop} {fr : List (Nat × List Nat)} {id : Nat} {S : St} (h : frC fr id S k) (hI : Inv E S a w) : ∃ S', k S' ∧ Inv E S' a w := by
  unfold frC at h
  split at h
  · exact ⟨S, h, hI⟩
  · exact frzK_sound h hI

/-! ### Bodies -/

structure NextC {X : Type} (en : List Nat) (sl : X → List (Nat × AV)) (hp : X → List (Nat × AObj)) (μ : X → Nat) (n : Nat) (x : X) (S' : St) : Prop where
  h : ∃ x', μ x' < μ x ∧ S'.n = n ∧ Weak en S' (sl x') (hp x')

structure LoopC (en : List Nat) (S : St) (body : St → (AExit → St → Prop) → Prop) (K : AExit → St → Prop) : Prop where
  h : ∃ (X : Type) (sl : X → List (Nat × AV)) (hp : X → List (Nat × AObj)) (μ : X → Nat) (x0 : X), Weak en S (sl x0) (hp x0) ∧
    ∀ x, body (mkSt S.n (sl x) (hp x)) fun e S' => match e with
      | .normal => NextC en sl hp μ S.n x S'
      | e => K e S'

def vcR (P : Program) (id : Nat) (l : List Oper) (draw : Bool) (S : St) (K : St → Prop) (Kp : Value → St → Prop) : Prop :=
  bif draw then vcOps P l id (fun fs => Chk (okPairs l fs && edgesB l)) l false 0 0 S [] K Kp
  else vcOps P l id (fun _ => True) l false 0 0 S [] K Kp

/-- The slots told over a frame's own. -/
def wsl (n : Nat) (sl : List (Nat × AV)) (S' : St) : St := ⟨n, fun t => match lkp sl t with
  | some x => x
  | none => .top, S'.hp⟩

def zipD : List Tmp → List D → List (Nat × AV)
  | t :: ts, y :: ys => (t, .d y) :: zipD ts ys
  | _, _ => []

def distB : List Nat → Bool
  | [] => true
  | t :: ts => !ts.contains t && distB ts

theorem distB_spec : ∀ {ts : List Nat}, distB ts = true → ts.Nodup
  | [], _ => .nil
  | t :: ts, h => by
    simp only [distB, Bool.and_eq_true, Bool.not_eq_true', List.contains_eq_mem, decide_eq_false_iff_not] at h
    exact List.nodup_cons.2 ⟨h.1, distB_spec h.2⟩

/-- The frame of a round. -/
def rndSt (n : Nat) (ts : List Tmp) (ys : List D) (sl : List (Nat × AV)) (hp : List (Nat × AObj)) : St := mkSt n (zipD ts ys ++ sl) hp

structure EndC (en : List Nat) (n : Nat) (sl : List (Nat × AV)) (hp : List (Nat × AObj)) (I : Prop) (S' : St) : Prop where
  i : I
  w : Weak en (wsl n sl S') sl hp

structure RangeC (P : Program) (en : List Nat) (ts : List Tmp) (g : Operand) (S : St) (round : List Nat → St → (AExit → St → Prop) → Prop) (K : AExit → St → Prop) : Prop where
  h : ∃ (f o : Nat) (x : D) (n : Nat) (ys : Nat → List D) (sl : List (Nat × AV)) (hp : Nat → List (Nat × AObj)) (I : Nat → Prop),
    S.ev g = .fn (.func f) [.ptr o []] ∧ S.hp o = some (.var (.d x)) ∧ callable P f = true ∧ SeqOK P f x n ys ∧ (∀ i, (ys i).length = ts.length ∧ (ys i).all D.scal = true) ∧ distB ts = true ∧ Weak en S sl (hp 0) ∧ I 0 ∧
    (∀ i, i < n → I i → round ((hp i).map (·.1)) (rndSt S.n ts (ys i) sl (hp i)) fun e S' => match e with
      | .normal => EndC en S.n sl (hp (i + 1)) (I (i + 1)) S'
      | e => K e (wsl S.n sl S')) ∧
    (I n → K .normal (mkSt S.n sl (hp n)))

def wpC (P : Program) (fr : List (Nat × List Nat)) : Bool → List Nat → Code → St → (AExit → St → Prop) → (Value → St → Prop) → Prop
  | _, _, .skip, S, K, _ => K .normal S
  | _, _, .label _, S, K, _ => K .normal S
  | _, _, .exit id, S, K, _ => K (.exit id) S
  | _, _, .goto l, S, K, _ => K (.goto l) S
  | _, _, .ret, S, K, _ => K .ret S
  | rd, en, .seq x y, S, K, Kp => wpC P fr rd en x S (fun e S' => match e with
      | .normal => wpC P fr rd en y S' K Kp
      | e => K e S') Kp
  | rd, en, .cond c x y, S, K, Kp => match S.ev c with
      | .d (.bool b) => bcase b fun t => bif t then wpC P fr rd en x S K Kp else wpC P fr rd en y S K Kp
      | _ => False
  | rd, en, .block id x, S, K, Kp => wpC P fr rd en x S (fun e S' => match e with
      | .exit i => bif i.beq id then K .normal S' else K (.exit i) S'
      | e => K e S') Kp
  | rd, en, .scope x, S, K, Kp => wpC P fr rd en x S (fun e S' => match e with
      | .goto _ => False
      | e => K e S') Kp
  | _, _, .region id ops draw, S, K, Kp => frC fr id S fun S' => vcR P id ops.toList draw S' (fun S2 => frC fr (id + 500000) S2 fun S3 => K .normal S3) Kp
  | rd, en, .loop x, S, K, Kp => LoopC en S (fun S' K' => wpC P fr rd en x S' K' Kp) K
  | false, en, .rangeFunc g ts x y, S, K, _ => RangeC P en ts.toList g S (fun en' S1 K1 => wpC P fr true en' x S1 (fun e S2 => match e with
      | .normal => wpC P fr true en' y S2 K1 (fun _ _ => False)
      | _ => False) (fun _ _ => False)) K
  | _, _, _, _, _, _ => False

def QQ (E : Ent) (K : AExit → St → Prop) (Kp : Value → St → Prop) : Exit → Act → World → Prop
  | .normal, a, w => ∃ S, K .normal S ∧ Inv E S a w
  | .ret, a, w => ∃ S, K .ret S ∧ Inv E S a w
  | .exit i, a, w => ∃ S, K (.exit i) S ∧ Inv E S a w
  | .goto l, a, w => ∃ S, K (.goto l) S ∧ Inv E S a w
  | .panic ch, a, w => ∃ pv S, ch = [{ v := pv, recovered := false }] ∧ Kp pv S ∧ Inv E S a w
  | .outgrown, _, _ => False

theorem least (p : Nat → Prop) : ∀ n, p n → ∃ m, p m ∧ ∀ k, p k → m ≤ k := by
  intro n
  induction n using Nat.strongRecOn with
  | _ n ih =>
    intro h
    by_cases hx : ∃ k, k < n ∧ p k
    · obtain ⟨k, h1, h2⟩ := hx; exact ih k h1 h2
    · exact ⟨n, h, fun k hk => Nat.le_of_not_lt fun hlt => hx ⟨k, hlt, hk⟩⟩

open Classical in
theorem wpIn_loopI {F : Fence} {n : Nat} {P : Program} {Q : Exit → Act → World → Prop} {c : Code} {Y : Type} (I : Y → Act → World → Prop) (μ : Y → Nat) {x0 : Y} {a : Act} {w : World} (h0 : I x0 a w)
    (round : ∀ x a w, I x a w → c.wpIn F n P (Exit.then (fun a' w' => ∃ x', I x' a' w' ∧ μ x' < μ x) Q) a w) : (Code.loop c).wpIn F n P Q a w := by
  let p : Act → World → Nat → Prop := fun a w n => ∃ x, I x a w ∧ μ x = n
  let ν : Act → World → Nat := fun a w => if h : ∃ m, p a w m ∧ ∀ k, p a w k → m ≤ k then Classical.choose h else 0
  have hν : ∀ a w x, I x a w → (∃ y, I y a w ∧ μ y = ν a w) ∧ ν a w ≤ μ x := fun a w x hx => by
    have he : ∃ m, p a w m ∧ ∀ k, p a w k → m ≤ k := least (p a w) (μ x) ⟨x, hx, rfl⟩
    have : ν a w = Classical.choose he := dif_pos he
    rw [this]
    exact ⟨(Classical.choose_spec he).1, (Classical.choose_spec he).2 _ ⟨x, hx, rfl⟩⟩
  refine wpIn_loop (fun a w => ∃ x, I x a w) ν ⟨x0, h0⟩ fun a w hx => ?_
  obtain ⟨x, hx⟩ := hx
  obtain ⟨⟨y, hy, hm⟩, _⟩ := hν a w x hx
  refine wpIn_mono (round y a w hy) fun e a' w' he => ?_
  cases e <;> try exact he
  obtain ⟨x', h1, h2⟩ := he
  refine ⟨⟨x', h1⟩, ?_⟩
  have := (hν a' w' x' h1).2
  omega

theorem mkSt_n (n : Nat) (sl : List (Nat × AV)) (hp : List (Nat × AObj)) : (mkSt n sl hp).n = n := rfl

theorem region_sound {P : Program} {ops : Array Oper} {id : Nat} {chk : Foots → Prop} {S : St} {K : St → Prop} {Kp : Value → St → Prop}
    (h : vcOps P ops.toList id chk ops.toList false 0 0 S [] K Kp) : ∃ pi fs out, Tr P ops.toList false pi (List.range' 0 ops.size) S fs out ∧ chk fs.reverse ∧ match out with
      | .inl S' => K S'
      | .inr p => Kp p.1 p.2 := by
  obtain ⟨pi, fs, out, h1, h2, _, h3⟩ := vc_tr _ _ _ _ _ _ _ _ (fun k o hk => by simpa using hk) h
  refine ⟨pi, fs, out, ?_, by simpa using h2, h3⟩
  have : ((List.range' 0 ops.toList.length).filter fun j => !(0 : Nat).testBit j) = List.range' 0 ops.size := by
    rw [List.filter_eq_self.2 fun j _ => by simp]
    simp
  rw [this] at h1; exact h1

/-! ### A range over a function -/

theorem fold_put (ts : List Tmp) (vs : List Value) : ∀ (l : Array Value), (((ts.toArray.zip vs.toArray).foldl (fun tmps (p : Tmp × Value) => tmps.setIfInBounds p.1 p.2) l)) = (ts.zip vs).foldl (fun tmps p => tmps.setIfInBounds p.1 p.2) l := by
  intro l
  rw [← Array.foldl_toList]
  simp

theorem zip_size (ts : List Tmp) (vs : List Value) : ∀ (l : Array Value), ((ts.zip vs).foldl (fun tmps (p : Tmp × Value) => tmps.setIfInBounds p.1 p.2) l).size = l.size := by
  induction ts generalizing vs with
  | nil => intro l; rfl
  | cons t ts ih =>
    intro l
    cases vs with
    | nil => rfl
    | cons v vs => simp only [List.zip_cons_cons, List.foldl_cons]; rw [ih]; simp

theorem zip_rep {ρ : Nat → Option Nat} {X : Nat → Prop} {w : World} {sl : Nat → AV} : ∀ (ts : List Tmp) (ys : List D) (l : Array Value), ts.length = ys.length → ys.all D.scal = true → (∀ t v, l[t]? = some v → RepA ρ X w (sl t) v) → ts.Nodup →
    ∀ t v, ((ts.zip (ys.map D.sval)).foldl (fun tmps (p : Tmp × Value) => tmps.setIfInBounds p.1 p.2) l)[t]? = some v → RepA ρ X w (match lkp (zipD ts ys) t with | some x => x | none => sl t) v
  | [], [], l, _, _, h, _, t, v, ht => h t v ht
  | t0 :: ts, y :: ys, l, hl, hs, h, hnd, t, v, ht => by
    simp only [List.all_cons, Bool.and_eq_true] at hs
    have hnd' := List.nodup_cons.1 hnd
    simp only [List.map_cons, List.zip_cons_cons, List.foldl_cons] at ht
    have ih := zip_rep (sl := fun u => bif t0.beq u then .d y else sl u) ts ys (l.setIfInBounds t0 y.sval) (by simpa using hl) hs.2 (fun u x hu => by
      show RepA ρ X w (bif t0.beq u then .d y else sl u) x
      cases hb : t0.beq u with
      | true =>
        have := Nat.eq_of_beq_eq_true hb
        subst this
        simp only [Array.getElem?_setIfInBounds, if_true] at hu
        split at hu
        · cases hu; exact repA_scal hs.1
        · cases hu
      | false =>
        have hne : t0 ≠ u := fun e => by subst e; simp at hb
        rw [Array.getElem?_setIfInBounds_ne hne] at hu
        exact h u x hu) hnd'.2 t v ht
    simp only [zipD, lkp]
    cases hl2 : lkp (zipD ts ys) t with
    | some x =>
      simp only [hl2] at ih
      cases hb : t0.beq t with
      | false => exact ih
      | true =>
        exfalso
        have := Nat.eq_of_beq_eq_true hb
        subst this
        have : ∀ (ts : List Tmp) (ys : List D), lkp (zipD ts ys) t0 ≠ none → t0 ∈ ts := by
          intro ts
          induction ts with
          | nil => intro ys h; cases ys <;> exact absurd rfl h
          | cons s ts ih =>
            intro ys h
            cases ys with
            | nil => exact absurd rfl h
            | cons z ys =>
              simp only [zipD, lkp] at h
              cases hb : s.beq t0 with
              | true => simp [Nat.eq_of_beq_eq_true hb]
              | false => rw [hb] at h; exact List.mem_cons_of_mem _ (ih ys h)
        exact hnd'.1 (this ts ys (by rw [hl2]; simp))
    | none =>
      simp only [hl2] at ih
      cases hb : t0.beq t <;> rw [hb] at ih <;> exact ih
  | [], _ :: _, _, h, _, _, _, _, _, _ => by cases h
  | _ :: _, [], _, h, _, _, _, _, _, _ => by cases h

theorem zipD_data : ∀ (ts : List Tmp) (ys : List D) (t : Nat) (x : AV), lkp (zipD ts ys) t = some x → ∃ y, x = .d y
  | [], ys, t, x, h => by cases ys <;> cases h
  | _ :: _, [], t, x, h => by cases h
  | s :: ts, y :: ys, t, x, h => by
    simp only [zipD, lkp] at h
    cases hb : s.beq t <;> rw [hb] at h
    · exact zipD_data ts ys t x h
    · cases h; exact ⟨y, rfl⟩

/-- The frame of a round at its start. -/
theorem InvAt.rnd {E : Ent} {n : Nat} {ts : List Tmp} {ys : List D} {sl : List (Nat × AV)} {hp : List (Nat × AObj)} {ρ : Nat → Option Nat} {X : Nat → Prop} {a : Act} {w : World} (h : InvAt E (mkSt n sl hp) ρ X a w) (hl : ts.length = ys.length) (hs : ys.all D.scal = true) (hnd : ts.Nodup) :
    InvAt ⟨(mkSt n sl hp).hp, ρ, X, w, [], true⟩ (rndSt n ts ys sl hp) ρ X { tmps := (ts.zip (ys.map D.sval)).foldl (fun tmps p => tmps.setIfInBounds p.1 p.2) a.tmps, defers := [] } w := by
  have hsim := h.sim
  have hsl : ∀ t, (rndSt n ts ys sl hp).sl t = match lkp (zipD ts ys) t with | some x => x | none => (mkSt n sl hp).sl t := fun t => by
    show (match lkp (zipD ts ys ++ sl) t with | some x => x | none => .top : AV) = _
    rw [lkp_append]
    cases lkp (zipD ts ys) t <;> rfl
  refine ⟨⟨?_, fun t v ht => ?_, hsim.objs, hsim.inj, hsim.own, fun t o ho => ?_, hsim.closedH⟩, .refl _ _, fun b _ => ⟨id, .inl⟩, fun o x b h1 h2 h3 => .inr ⟨o, x, h1, h2, h3⟩, fun o ho => ⟨ho, rfl⟩, ⟨[], rfl, fun _ => rfl, .nil, fun D hD => by cases hD⟩⟩
  · show ((ts.zip (ys.map D.sval)).foldl _ a.tmps).size = n
    rw [zip_size]; exact hsim.n
  · rw [hsl]
    exact zip_rep ts ys a.tmps hl hs (fun t v ht => hsim.slots t v ht) hnd t v ht
  · rw [hsl] at ho
    cases hz : lkp (zipD ts ys) t with
    | none => rw [hz] at ho; exact hsim.closedS t o ho
    | some x =>
      rw [hz] at ho
      obtain ⟨y, rfl⟩ := zipD_data ts ys t x hz
      cases ho

theorem mark_inj : ∀ {l m : List Nat}, l.map mark = m.map mark → l = m
  | [], [], _ => rfl
  | [], _ :: _, h => by cases h
  | _ :: _, [], h => by cases h
  | x :: l, y :: m, h => by
    simp only [List.map_cons, List.cons.injEq] at h
    have h1 : x = y := by simpa [mark] using h.1
    rw [h1, mark_inj h.2]

theorem own_cells {S : St} {ρ : Nat → Option Nat} {X : Nat → Prop} {a : Act} {w : World} (hs : Sim S ρ X a w) {ds : List Deferred} {nm : Bool} {b : Nat} (h : Ent.own ⟨S.hp, ρ, X, w, ds, nm⟩ b) : ∃ c T z, w.heap[b]? = some (.cells c T z) := by
  obtain ⟨o, x, h1, h2, h3⟩ := h
  exact (hs.objs o x h1).cells h2 h3

section
variable {P : Program} {fr : List (Nat × List Nat)}

theorem range_sound {E : Ent} {en : List Nat} {kk : Nat} (hnm : E.nm = false) (hen : ∀ n, E.hp n ≠ none → n ∈ en) {g : Operand} {ts : Array Tmp} {x y : Code} {S : St} {K : AExit → St → Prop} {Kp : Value → St → Prop}
    (hx : ∀ {E' : Ent} {en' : List Nat} {S1 : St} {K1 : AExit → St → Prop} {Kp1 : Value → St → Prop} {l k : Nat}, (∀ n, E'.hp n ≠ none → n ∈ en') → wpC P fr true en' x S1 K1 Kp1 → ∀ {a : Act} {w : World}, Inv E' S1 a w → x.wpIn (FR (some l)) k P (QQ E' K1 Kp1) a w)
    (hy : ∀ {E' : Ent} {en' : List Nat} {S1 : St} {K1 : AExit → St → Prop} {Kp1 : Value → St → Prop} {l k : Nat}, (∀ n, E'.hp n ≠ none → n ∈ en') → wpC P fr true en' y S1 K1 Kp1 → ∀ {a : Act} {w : World}, Inv E' S1 a w → y.wpIn (FR (some l)) k P (QQ E' K1 Kp1) a w)
    (h : wpC P fr false en (.rangeFunc g ts x y) S K Kp) {a : Act} {w : World} (hI : Inv E S a w) : (Code.rangeFunc g ts x y).wpIn (FR none) kk P (QQ E K Kp) a w := by
  simp only [wpC] at h
  obtain ⟨f, o, dx, n, ys, sl, hp, I, h1, h2, hcl, hseq, hys, hdt, hw0, hI0, hbody, hend⟩ := h.h
  have hI2 := hI.weak hen hw0
  refine wpIn_rangeFunc fun fn _ => ?_
  obtain ⟨ρ0, X0, hA0⟩ := hI
  obtain ⟨ρ, X, hA⟩ := hI2
  -- the function and what it captured
  have he := hA0.sim.ev g
  rw [h1] at he
  obtain ⟨fcs, c1, c2⟩ := he
  cases c1 with
  | fn hcs =>
  rename_i vs
  cases hcs with
  | cons hp1 hrest =>
  cases hrest with
  | nil =>
  cases hp1 with
  | ptr _ hb =>
  rename_i b
  have hgv : a.eval g = .func (.func f) #[] #[.pointer (some ⟨b, 0, none⟩)] := by rw [c2]; rfl
  obtain ⟨b', cs, T, z, q0, q1, _, q3⟩ := hA0.sim.objs o _ h2
  rw [hb] at q0; cases q0
  have hcd : RepD X0 w dx cs := by cases q3 with | d q3 => exact q3
  -- the record is laid
  let rec_ : LoopState → Option Code → Obj := fun st pe => .loop { state := st, pending := pe, fn, tmps := a.tmps, params := ts, assign := x, body := y, defers := w.heap.size }
  have hrec : ∀ st pe, oCells (rec_ st pe) = false := fun _ _ => rfl
  have hrecd : ∀ st pe c, rec_ st pe ≠ .deferred c := fun _ _ _ h => by cases h
  let w1 : World := (w.alloc (.deferred (some []))).alloc (rec_ .ready none)
  let l : Nat := w.heap.size + 1
  have hl1 : (w.alloc (.deferred (some []))).heap.size = l := by simp [l]
  have hD1 : w1.heap[w.heap.size]? = some (.deferred (some [])) := by
    have := Go.RowKit.Below.heap_alloc (w.alloc (.deferred (some []))) (rec_ .ready none) w.heap.size (by simp)
    rw [this]; exact World.alloc_heap_new w _
  have hL1 : w1.heap[l]? = some (rec_ .ready none) := by
    have := World.alloc_heap_new (w.alloc (.deferred (some []))) (rec_ .ready none)
    rw [hl1] at this; exact this
  let a1 : Act := { a with defers := [mark w.heap.size] ++ a.defers }
  have hEl : E.w.heap.size ≤ l := Nat.le_trans hA.ext.size (by simp [l])
  let J : Nat → World → Prop := fun i w' => ∃ ρ X, InvAt E (mkSt S.n sl (hp i)) ρ X a1 w' ∧ X l ∧ I i ∧ w'.heap[l]? = some (rec_ .ready none)
  let Jd : World → Prop := fun w' => ∃ e S', K e S' ∧ ∃ ρ X, InvAt E S' ρ X a1 w' ∧ X l ∧ ((e = .ret ∧ w'.heap[l]? = some (rec_ .done (some .ret))) ∨ (∃ id, e = .exit id ∧ w'.heap[l]? = some (rec_ .done (some (.exit id)))) ∨ (∃ t, e = .goto t ∧ w'.heap[l]? = some (rec_ .done (some (.goto t)))))
  have hJ0 : J 0 w1 := by
    have k1 := hA.alloc (.deferred (some []))
    have k2 := k1.alloc (rec_ .ready none)
    refine ⟨ρ, _, ⟨⟨k2.sim.n, k2.sim.slots, k2.sim.objs, k2.sim.inj, k2.sim.own, k2.sim.closedS, k2.sim.closedH⟩, k2.ext, k2.xs, k2.own, k2.same, ?_⟩, .inr hl1.symm, hI0, hL1⟩
    obtain ⟨ms, m1, _, m0, m2⟩ := hA.marks
    obtain ⟨ms', m1', _, _, m2'⟩ := k2.marks
    have hms : ms' = ms := by
      have : ms'.map mark = ms.map mark := List.append_cancel_right (m1'.symm.trans m1)
      exact mark_inj this
    subst hms
    refine ⟨w.heap.size :: ms', by show [mark w.heap.size] ++ a.defers = _; rw [m1]; rfl, (fun h => by rw [hnm] at h; cases h), List.nodup_cons.2 ⟨fun hm => ?_, m0⟩, fun D hD => ?_⟩
    · have := (Array.getElem?_eq_some_iff.1 (m2 _ hm).2.2).1
      omega
    · rcases List.mem_cons.1 hD with rfl | hD
      · exact ⟨hA.ext.size, .inl (.inr rfl), hD1⟩
      · exact m2' D hD
  refine ⟨l, [{ target := .collected w.heap.size, args := #[] }], w1, { target := .fn (.func f) #[.pointer (some ⟨b, 0, none⟩)], args := #[] ++ #[.func (.yield l) #[] #[]] }, w1, f, #[.func (.yield l) #[] #[], .pointer (some ⟨b, 0, none⟩)], w1, run_enterLoop_outer fn a.tmps ts x y, ?_, fun _ _ => trivial, ?_, (fun h => by cases h), ?_⟩
  · simp only [resolve, hgv, Deferred.ofValue]
    simp [Act.eval]
  · simp only [invoke]
    exact callable_run hcl _ w1
  have keep : ∀ {w w' : World} {o : Obj}, w.heap[l]? = some o → Ext (fun _ => False) w w' → w'.heap[l]? = some o := fun h hx => by
    rw [hx.keep l (Array.getElem?_eq_some_iff.1 h).1 fun k => k]; exact h
  have hst1 : ∀ i w w', J i w → Ext (fun _ => False) w w' → J i w' := fun i w w' ⟨ρ, X, kA, kX, kI, kL⟩ hx => ⟨ρ, X, kA.grow hx, kX, kI, keep kL hx⟩
  have hst2 : ∀ w w', Jd w → Ext (fun _ => False) w w' → Jd w' := fun w w' ⟨e, S', hK, ρ, X, kA, kX, hj⟩ hx => ⟨e, S', hK, ρ, X, kA.grow hx, kX, hj.imp (fun ⟨h1, h2⟩ => ⟨h1, keep h2 hx⟩) (Or.imp (fun ⟨i, h1, h2⟩ => ⟨i, h1, keep h2 hx⟩) (fun ⟨i, h1, h2⟩ => ⟨i, h1, keep h2 hx⟩))⟩
  refine callsIn_FR ((hseq J Jd l b w1 X0 cs ?_ ?_ hst1 hst2 hJ0 fun i hi w' hJ => ?_).mono fun e w' he => ?_)
  · exact hcd.mono (Y := fun _ => False) ((Ext.alloc _ w _).trans (Ext.alloc _ _ _)) (fun _ _ _ h => h) (fun _ _ h => h)
  · intro i v hv
    have hrow : RowAt w b 0 cs := by
      have := rowAt_of_heap (pre := []) (c := cs) (post := []) (w := w) (b := b) (T := T) (z := z) (by simpa using q1)
      simpa using this
    have hbl : b < w.heap.size := (Array.getElem?_eq_some_iff.1 q1).1
    rw [cell?_of_heap (((Ext.alloc (fun _ => False) w _).trans (Ext.alloc _ _ _)).keep b hbl (fun h => h))]
    exact hrow i v hv
  · -- a round
    obtain ⟨ρi, Xi, kA, kX, kI, kL⟩ := hJ
    obtain ⟨hyl, hysc⟩ := hys i
    have hsz : ((ys i).map D.sval).toArray.size = ts.size := by simpa using hyl
    refine ⟨_, _, _, _, run_yield kL hsz, ?_⟩
    have hk := kA.rnd (ts := ts.toList) (ys := ys i) hyl.symm hysc (distB_spec hdt)
    have hoc := fun b => own_cells (ds := []) (nm := true) kA.sim (b := b)
    refine roundIn_of_wpIn trivial ?_
    have hfold : (ts.zip ((ys i).map D.sval).toArray).foldl (fun tmps (p : Tmp × Value) => tmps.setIfInBounds p.1 p.2) a.tmps = (ts.toList.zip ((ys i).map D.sval)).foldl (fun tmps p => tmps.setIfInBounds p.1 p.2) a.tmps := by
      have := fold_put ts.toList ((ys i).map D.sval) a.tmps
      simpa using this
    show x.wpIn (FR (some l)) 0 P _ { tmps := (ts.zip ((ys i).map D.sval).toArray).foldl (fun tmps (p : Tmp × Value) => tmps.setIfInBounds p.1 p.2) a.tmps, defers := [] } w'
    rw [hfold]
    have hen' : ∀ (W : World), ∀ m, (Ent.hp ⟨(mkSt S.n sl (hp i)).hp, ρi, Xi, W, [], true⟩) m ≠ none → m ∈ (hp i).map (·.1) := fun W m hm => by
      have hm : lkp (hp i) m ≠ none := hm
      obtain ⟨z, hz⟩ := Option.ne_none_iff_exists'.1 hm
      exact List.mem_map.2 ⟨_, lkp_mem hz, rfl⟩
    refine wpIn_mono (hx (hen' w') (hbody i hi kI) ⟨ρi, Xi, hk⟩) fun e a2 w2 he => ?_
    cases e with
    | normal =>
      obtain ⟨S2, hS2, ρ2, X2, hA2⟩ := he
      have hnl : ¬ Ent.own ⟨(mkSt S.n sl (hp i)).hp, ρi, Xi, w', [], true⟩ l := fun hn => by
        obtain ⟨c, T, z, hc⟩ := hoc l hn
        rw [kL] at hc; cases hc
      have hlw : l < w'.heap.size := (Array.getElem?_eq_some_iff.1 kL).1
      have hL2 : w2.heap[l]? = some (rec_ .ready none) := by rw [hA2.ext.keep l hlw hnl]; exact kL
      have hX2 : X2 l := ((hA2.xs l hlw).2 kX).resolve_right hnl
      refine ⟨_, run_beginRound hL2 rfl, ?_⟩
      have hA3 := hA2.putObj2 (rec_ .busy none) hL2 rfl kL hX2 (hrecd _ _)
      have kA3 : InvAt E (mkSt S.n sl (hp i)) ρi Xi a1 (w'.putObj l (rec_ .busy none)) := kA.putObj _ kL rfl hEl kX (hrecd _ _)
      refine wpIn_mono (hy (hen' (w'.putObj l (rec_ .busy none))) hS2 ⟨ρ2, X2, hA3⟩) fun e a4 w4 he => ?_
      -- the end of a round
      have fin : ∀ {S4 : St}, Inv ⟨(mkSt S.n sl (hp i)).hp, ρi, Xi, w'.putObj l (rec_ .busy none), [], true⟩ S4 a4 w4 → w4.heap[l]? = some (rec_ .busy none) ∧ ∀ o', oCells o' = false → ∃ ρ X, InvAt E (wsl S.n sl S4) ρ X a1 (w4.putObj l o') ∧ X l := by
        intro S4 hI4
        obtain ⟨ρ4, X4, hA4⟩ := hI4
        have hnl' : ¬ Ent.own ⟨(mkSt S.n sl (hp i)).hp, ρi, Xi, w'.putObj l (rec_ .busy none), [], true⟩ l := hnl
        have hlw' : l < (w'.putObj l (rec_ .busy none)).heap.size := by simpa using hlw
        have hL4 : w4.heap[l]? = some (rec_ .busy none) := by rw [hA4.ext.keep l hlw' hnl']; exact World.putObj_heap_same hlw
        have hX4 : X4 l := ((hA4.xs l hlw').2 kX).resolve_right hnl'
        have hR := kA3.round hA4
        exact ⟨hL4, fun o' _ => ⟨ρ4, X4, hR.putObj o' hL4 rfl hEl hX4 (hrecd _ _), hX4⟩⟩
      have put_same : ∀ {o'}, w4.heap[l]? = some (rec_ .busy none) → (w4.putObj l o').heap[l]? = some o' := fun h => World.putObj_heap_same (Array.getElem?_eq_some_iff.1 h).1
      cases e with
      | normal =>
        obtain ⟨S4, hS4, hI4⟩ := he
        obtain ⟨hL4, hput⟩ := fin hI4
        obtain ⟨ρ5, X5, hA5, hX5⟩ := hput (rec_ .ready none) rfl
        have hS4 : EndC en S.n sl (hp (i + 1)) (I (i + 1)) S4 := hS4
        obtain ⟨ρ6, X6, hA6⟩ := Inv.weak ⟨ρ5, X5, hA5⟩ hen hS4.w
        refine ⟨_, _, run_endRound none hL4, true, rfl, fun _ => ?_, fun h => by cases h⟩
        obtain ⟨m, wk1, wk2, wk3⟩ := hS4.w.h
        refine ⟨_, X5, hA5.weakAt hen ?_ wk2 wk3, hX5, hS4.i, put_same hL4⟩
        rw [Chk_eq] at wk1; exact wk1
      | ret =>
        obtain ⟨S4, hS4, hI4⟩ := he
        obtain ⟨hL4, hput⟩ := fin hI4
        obtain ⟨ρ5, X5, hA5, hX5⟩ := hput (rec_ .done (some .ret)) rfl
        exact ⟨_, _, run_endRound (some .ret) hL4, false, rfl, (fun h => by cases h), fun _ => ⟨.ret, _, hS4, ρ5, X5, hA5, hX5, .inl ⟨rfl, put_same hL4⟩⟩⟩
      | exit id =>
        obtain ⟨S4, hS4, hI4⟩ := he
        obtain ⟨hL4, hput⟩ := fin hI4
        obtain ⟨ρ5, X5, hA5, hX5⟩ := hput (rec_ .done (some (.exit id))) rfl
        exact ⟨_, _, run_endRound (some (.exit id)) hL4, false, rfl, (fun h => by cases h), fun _ => ⟨.exit id, _, hS4, ρ5, X5, hA5, hX5, .inr (.inl ⟨id, rfl, put_same hL4⟩)⟩⟩
      | goto t =>
        obtain ⟨S4, hS4, hI4⟩ := he
        obtain ⟨hL4, hput⟩ := fin hI4
        obtain ⟨ρ5, X5, hA5, hX5⟩ := hput (rec_ .done (some (.goto t))) rfl
        exact ⟨_, _, run_endRound (some (.goto t)) hL4, false, rfl, (fun h => by cases h), fun _ => ⟨.goto t, _, hS4, ρ5, X5, hA5, hX5, .inr (.inr ⟨t, rfl, put_same hL4⟩)⟩⟩
      | panic ch => obtain ⟨_, _, _, hf, _⟩ := he; exact hf.elim
      | outgrown => exact he.elim
    | ret => obtain ⟨_, hf, _⟩ := he; exact hf.elim
    | exit id => obtain ⟨_, hf, _⟩ := he; exact hf.elim
    | goto t => obtain ⟨_, hf, _⟩ := he; exact hf.elim
    | panic ch => obtain ⟨_, _, _, hf, _⟩ := he; exact hf.elim
    | outgrown => exact he.elim
  · -- behind the iterator
    obtain ⟨v, rfl, hJ⟩ := he
    rcases hJ with ⟨ρn, Xn, kA, kX, kI, kL⟩ | ⟨e, S', hK, ρn, Xn, kA, kX, hj⟩
    · refine ⟨none, _, run_endLoop kL (by simp), ?_⟩
      exact ⟨_, hend kI, ρn, Xn, kA.putObj _ kL rfl hEl kX (hrecd _ _)⟩
    · rcases hj with ⟨rfl, kL⟩ | ⟨id, rfl, kL⟩ | ⟨t, rfl, kL⟩
      · exact ⟨some .ret, _, run_endLoop kL (by simp), wpIn_ret ⟨S', hK, ρn, Xn, kA.putObj _ kL rfl hEl kX (hrecd _ _)⟩⟩
      · exact ⟨some (.exit id), _, run_endLoop kL (by simp), wpIn_exit ⟨S', hK, ρn, Xn, kA.putObj _ kL rfl hEl kX (hrecd _ _)⟩⟩
      · exact ⟨some (.goto t), _, run_endLoop kL (by simp), wpIn_goto ⟨S', hK, ρn, Xn, kA.putObj _ kL rfl hEl kX (hrecd _ _)⟩⟩

theorem wpC_sound (hm : P.follows .mixedOrders = true) : ∀ (c : Code) {rd : Bool} {E : Ent} {en : List Nat} {S : St} {K : AExit → St → Prop} {Kp : Value → St → Prop} {ro : Option Nat} {k : Nat}, (rd = false → ro = none ∧ E.nm = false) → (∀ n, E.hp n ≠ none → n ∈ en) →
    wpC P fr rd en c S K Kp → ∀ {a : Act} {w : World}, Inv E S a w → c.wpIn (FR ro) k P (QQ E K Kp) a w
  | .skip, rd, E, en, S, K, Kp, ro, k, hro, hen, h, a, w, hI => by simp only [wpC] at h; exact wpIn_skip ⟨S, h, hI⟩
  | .label _, rd, E, en, S, K, Kp, ro, k, hro, hen, h, a, w, hI => by simp only [wpC] at h; exact wpIn_label ⟨S, h, hI⟩
  | .exit id, rd, E, en, S, K, Kp, ro, k, hro, hen, h, a, w, hI => by simp only [wpC] at h; exact wpIn_exit ⟨S, h, hI⟩
  | .goto l, rd, E, en, S, K, Kp, ro, k, hro, hen, h, a, w, hI => by simp only [wpC] at h; exact wpIn_goto ⟨S, h, hI⟩
  | .ret, rd, E, en, S, K, Kp, ro, k, hro, hen, h, a, w, hI => by simp only [wpC] at h; exact wpIn_ret ⟨S, h, hI⟩
  | .seq x y, rd, E, en, S, K, Kp, ro, k, hro, hen, h, a, w, hI => by
    simp only [wpC] at h
    refine wpIn_seq (wpIn_mono (wpC_sound hm x hro hen h hI) fun e a w he => ?_)
    cases e with
    | normal => obtain ⟨S', h1, h2⟩ := he; exact wpC_sound hm y hro hen h1 h2
    | ret => exact he
    | exit i => exact he
    | goto l => exact he
    | panic ch => exact he
    | outgrown => exact he
  | .cond c x y, rd, E, en, S, K, Kp, ro, k, hro, hen, h, a, w, hI => by
    simp only [wpC] at h
    split at h
    · rename_i b hb
      obtain ⟨ρ, X, hA⟩ := hI
      have he := hA.sim.ev c
      rw [hb] at he
      have hv := repA_bool he
      rw [bcase_eq] at h
      exact wpIn_cond_split hv (fun ht => wpC_sound hm x hro hen (h.1 ht) ⟨ρ, X, hA⟩) (fun ht => wpC_sound hm y hro hen (h.2 ht) ⟨ρ, X, hA⟩)
    · exact h.elim
  | .block id x, rd, E, en, S, K, Kp, ro, k, hro, hen, h, a, w, hI => by
    simp only [wpC] at h
    refine wpIn_block (wpIn_mono (wpC_sound hm x hro hen h hI) fun e a w he => ?_)
    cases e with
    | exit i =>
      obtain ⟨S', h1, h2⟩ := he
      have h1 : (bif i.beq id then K .normal S' else K (.exit i) S') := h1
      simp only [Exit.inBlock]
      cases hb : i.beq id with
      | true =>
        rw [hb] at h1
        rw [if_pos (Nat.eq_of_beq_eq_true hb)]
        exact ⟨S', h1, h2⟩
      | false =>
        rw [hb] at h1
        rw [if_neg fun e => by subst e; simp at hb]
        exact ⟨S', h1, h2⟩
    | normal => exact he
    | ret => exact he
    | goto l => exact he
    | panic ch => exact he
    | outgrown => exact he
  | .scope x, rd, E, en, S, K, Kp, ro, k, hro, hen, h, a, w, hI => by
    simp only [wpC] at h
    refine wpIn_scope_straight (wpIn_mono (wpC_sound hm x hro hen h hI) fun e a w he => ?_)
    cases e with
    | goto l => obtain ⟨_, h1, _⟩ := he; exact h1.elim
    | normal => exact he
    | ret => exact he
    | exit i => exact he
    | panic ch => exact he
    | outgrown => exact he
  | .region id ops draw, rd, E, en, S, K, Kp, ro, k, hro, hen, h, a, w, hI => by
    simp only [wpC] at h
    obtain ⟨S, h, hI⟩ := frC_sound h hI
    cases draw with
    | true =>
      simp only [vcR, cond_true] at h
      obtain ⟨pi, fs, out, t, hc, ho⟩ := region_sound h
      rw [Chk_eq, Bool.and_eq_true] at hc
      refine wpIn_region_any hm (tr_any hc.2 ops.size (by rw [show ops = ops.toList.toArray by simp]; exact t) ?_ ?_ ?_ ?_ ?_ ?_ hI.drew ?_ ?_)
      · have := okPairs_spec hc.1
        rw [List.pairwise_reverse] at this
        exact this
      · exact List.nodup_range'
      · simp
      · intro k
        rw [List.mem_range'_1]
        constructor
        · intro hk
          refine ⟨by simpa using hk.2, ?_⟩
          rw [Array.getD_eq_getD_getElem?, Array.getElem?_eq_getElem (by simpa using hk.2)]; simp
        · intro hk; exact ⟨by omega, by simpa using hk.1⟩
      · intro k hk hn j _ _
        exact hn (by rw [List.mem_range'_1]; exact ⟨by omega, by simpa using hk⟩)
      · simp
      · intro S' a' w' he hI'
        subst he
        obtain ⟨S3, k1, k2⟩ := frC_sound ho hI'
        exact ⟨S3, k1, k2⟩
      · intro pv S' a' w' he hI'
        subst he; exact ⟨pv, S', rfl, ho, hI'⟩
    | false =>
      simp only [vcR, cond_false] at h
      obtain ⟨pi, fs, out, t, _, ho⟩ := region_sound h
      refine wpIn_region ?_
      rw [List.range_eq_range']
      refine tr_text t hI ?_ ?_
      · intro S' a' w' he hI'
        subst he
        obtain ⟨S3, k1, k2⟩ := frC_sound ho hI'
        exact ⟨S3, k1, k2⟩
      · intro pv S' a' w' he hI'
        subst he; exact ⟨pv, S', rfl, ho, hI'⟩
  | .loop x, rd, E, en, S, K, Kp, ro, k, hro, hen, h, a, w, hI => by
    simp only [wpC] at h
    obtain ⟨Y, sl, hp, μ, x0, h1, h2⟩ := h.h
    refine wpIn_loopI (fun x a w => Inv E (mkSt S.n (sl x) (hp x)) a w) μ (hI.weak hen h1) fun y a w hy => ?_
    refine wpIn_mono (wpC_sound hm x hro hen (h2 y) hy) fun e a w he => ?_
    cases e with
    | normal =>
      obtain ⟨S', hn, h4⟩ := he
      have hn : NextC en sl hp μ S.n y S' := hn
      obtain ⟨x', k1, k2, k3⟩ := hn.h
      refine ⟨x', ?_, k1⟩
      have := h4.weak hen k3
      rw [k2] at this; exact this
    | ret => exact he
    | exit i => exact he
    | goto l => exact he
    | panic ch => exact he
    | outgrown => exact he
  | .rangeFunc g ts x y, rd, E, en, S, K, Kp, ro, k, hro, hen, h, a, w, hI => by
    cases rd with
    | true => simp only [wpC] at h
    | false =>
      obtain ⟨hr1, hr2⟩ := hro rfl
      subst hr1
      exact range_sound hr2 hen (fun {E' en' S1 K1 Kp1 l k} he hw {a w} hi => wpC_sound hm x (rd := true) (fun h => by cases h) he hw hi) (fun {E' en' S1 K1 Kp1 l k} he hw {a w} hi => wpC_sound hm y (rd := true) (fun h => by cases h) he hw hi) h hI
  | .refuse _, rd, E, en, S, K, Kp, ro, k, hro, hen, h, a, w, hI => by simp only [wpC] at h

end

attribute [irreducible] wpC

end Go.Sym
