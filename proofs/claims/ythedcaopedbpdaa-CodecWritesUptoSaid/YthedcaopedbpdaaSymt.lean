/-
A frame in its call ('Inv'); a region's trace serves the order of the text.
-/
import Derived.Test.YthedcaopedbpdaaSymr
import Derived.OrdersIn
import Derived.RangeFuncRecord
namespace Go.Sym

/-- How a call began. -/
structure Ent where
  hp : Nat → Option AObj
  ρ : Nat → Option Nat
  X : Nat → Prop
  w : World
  ds : List Deferred
  nm : Bool

def Ent.own (E : Ent) (b : Nat) : Prop := ∃ o x, E.hp o = some x ∧ x.alive = true ∧ E.ρ o = some b

/-- What a range over a function leaves among the deferred calls. -/
def mark (D : Nat) : Deferred := { target := .collected D, args := #[] }

structure InvAt (E : Ent) (S : St) (ρ : Nat → Option Nat) (X : Nat → Prop) (a : Act) (w : World) : Prop where
  sim : Sim S ρ X a w
  ext : Ext E.own E.w w
  xs : ∀ b, b < E.w.heap.size → (X b → E.X b) ∧ (E.X b → X b ∨ E.own b)
  own : ∀ o x b, S.hp o = some x → x.alive = true → ρ o = some b → E.w.heap.size ≤ b ∨ E.own b
  same : ∀ n, E.hp n ≠ none → S.hp n ≠ none ∧ ρ n = E.ρ n
  marks : ∃ ms : List Nat, a.defers = ms.map mark ++ E.ds ∧ (E.nm = true → ms = []) ∧ ms.Nodup ∧ ∀ D, D ∈ ms → E.w.heap.size ≤ D ∧ X D ∧ w.heap[D]? = some (.deferred (some []))

def Inv (E : Ent) (S : St) (a : Act) (w : World) : Prop := ∃ ρ X, InvAt E S ρ X a w

theorem ObjAt.cells {ρ : Nat → Option Nat} {X : Nat → Prop} {w : World} {o b : Nat} {x : AObj} (h : ObjAt ρ X w o x) (ha : x.alive = true) (hb : ρ o = some b) : ∃ c T z, w.heap[b]? = some (.cells c T z) := by
  cases x with
  | var x =>
    obtain ⟨b', cs, T, z, h0, h1, _⟩ := h
    rw [hb] at h0; cases h0; exact ⟨_, _, _, h1⟩
  | row e xs =>
    rcases h with ⟨h1, _⟩ | ⟨b', cs, rest, T, z, h0, h1, _⟩
    · rw [hb] at h1; cases h1
    · rw [hb] at h0; cases h0; exact ⟨_, _, _, h1⟩
  | dead => cases ha

theorem InvAt.evo {E : Ent} {S S' : St} {ρ ρ' : Nat → Option Nat} {X X' : Nat → Prop} {a a' : Act} {w w' : World} (h : InvAt E S ρ X a w) (hs : Sim S' ρ' X' a' w') (he : Evo S S' ρ ρ' X X' w w')
    (hd : ∀ n, S.hp n ≠ none → S'.hp n ≠ none) (hda : a'.defers = a.defers) : InvAt E S' ρ' X' a' w' := by
  have own : ∀ b, b < E.w.heap.size → (∃ o x, S.hp o = some x ∧ x.alive = true ∧ ρ o = some b) → E.own b := fun b hb ⟨o, x, h1, h2, h3⟩ => (h.own o x b h1 h2 h3).elim (fun k => by omega) id
  refine ⟨hs, h.ext.trans' he.ext own, fun b hb => ?_, fun o x b h1 h2 h3 => ?_, fun n hn => ?_, ?_⟩
  · have hb' : b < w.heap.size := Nat.lt_of_lt_of_le hb h.ext.size
    refine ⟨fun k => (h.xs b hb).1 ((he.xs b hb').1 k), fun k => ?_⟩
    rcases (h.xs b hb).2 k with k | k
    · rcases (he.xs b hb').2 k with k | k
      · exact .inl k
      · exact .inr (own b hb k)
    · exact .inr k
  · rcases he.own o x b h1 h2 h3 with k | ⟨o', x', k1, k2, k3⟩
    · exact .inl (Nat.le_trans h.ext.size k)
    · exact h.own o' x' b k1 k2 k3
  · obtain ⟨k1, k2⟩ := h.same n hn
    exact ⟨hd n k1, by rw [he.same n k1, k2]⟩
  · obtain ⟨ms, k1, kn, k0, k2⟩ := h.marks
    refine ⟨ms, by rw [hda, k1], kn, k0, fun D hD => ?_⟩
    obtain ⟨k3, k4, hDw⟩ := k2 D hD
    have hlt : D < w.heap.size := (Array.getElem?_eq_some_iff.1 hDw).1
    have hno : ¬ ∃ o x, S.hp o = some x ∧ x.alive = true ∧ ρ o = some D := fun ⟨o, x, q1, q2, q3⟩ => by
      obtain ⟨c, T, z, q4⟩ := (h.sim.objs o x q1).cells q2 q3
      rw [hDw] at q4; cases q4
    exact ⟨k3, ((he.xs D hlt).2 k4).resolve_right hno, by rw [he.ext.keep D hlt hno]; exact hDw⟩

theorem upd_dom {S : St} {dst : Option Tmp} {r : AV} {ws : List (Nat × AObj)} {n : Nat} (h : S.hp n ≠ none) : (S.upd dst r ws).hp n ≠ none := by
  rw [St.hp_upd']; exact wr_ne h

theorem St.upd_none (S : St) (r : AV) : S.upd none r [] = S := rfl
theorem put_defers (a : Act) (dst : Option Tmp) (v : Value) : (a.put dst v).defers = a.defers := by cases dst <;> rfl

theorem Inv.drew {E : Ent} {S : St} {a : Act} {w : World} (h : Inv E S a w) : Inv E S a { w with drawn := w.drawn + 1 } := by
  obtain ⟨ρ, X, h⟩ := h
  have hs := h.sim
  have hdr : Ext (fun _ => False) w { w with drawn := w.drawn + 1 } := Ext.drew _ w
  have h1 := hs.step (Y := fun _ => False) (w' := { w with drawn := w.drawn + 1 }) (ρ' := ρ) (X' := X) (dst := none) (r := .top) (v := undef) (ws := []) hdr (fun _ h => h.elim) (fun _ _ => rfl) (fun _ _ h => h)
    (fun o x b _ h1 h2 h3 => hs.own o x b h1 h2 h3) (fun _ _ h => by cases h) (fun _ _ _ h => by cases h) (fun _ _ _ _ _ h => by cases h) (fun _ _ _ _ _ h => by cases h) (fun _ _ h => by cases h) trivial (fun _ h => by cases h)
  exact ⟨ρ, X, h.evo h1 ⟨hdr.mono fun _ _ h => h.elim, fun _ _ => ⟨id, .inl⟩, fun o x b k1 k2 k3 => .inr ⟨o, x, k1, k2, k3⟩, fun _ _ => rfl⟩ (fun n hn => hn) rfl⟩

theorem Inv.blank {E : Ent} {S : St} {a : Act} {w : World} {ops : List Oper} (h : Inv E S a w) : Inv E (S.blank ops) a w := by
  obtain ⟨ρ, X, h⟩ := h
  have hs := h.sim
  refine ⟨ρ, X, ⟨⟨hs.n, fun t v ht => ?_, hs.objs, hs.inj, hs.own, fun t o ho => ?_, hs.closedH⟩, h.ext, h.xs, h.own, h.same, h.marks⟩⟩
  · show RepA ρ X w (bif wrt ops t then .top else S.sl t) v
    cases wrt ops t with
    | true => trivial
    | false => exact hs.slots t v ht
  · have ho : o ∈ (bif wrt ops t then .top else S.sl t : AV).names := ho
    cases hw : wrt ops t with
    | true => rw [hw] at ho; cases ho
    | false => rw [hw] at ho; exact hs.closedS t o ho

/-- Everywhere; in a round of a range over a function ('some'), or in none. -/
def FR (ro : Option Nat) : Fence := { Fence.wide with round := ro }

theorem callsIn_FR {ro : Option Nat} {n : Nat} {P : Program} {f : FuncId} {args : Array Value} {w : World} {R : Ending → World → Prop} (h : Calls P f args w R) : CallsIn (FR ro) n P f args w R :=
  (callsIn_wide (n := n)).2 h

section
variable {P : Program} {E : Ent} {Q : Exit → Act → World → Prop} {ro : Option Nat} {k : Nat}

theorem wp_of_does {o : Oper} (hnd : ∀ c, o.op ≠ .defer c) {a : Act} {w : World} {R Rp : Value → World → Prop} {K : Act → World → Prop} (h : Does P o a w R Rp) (hK : ∀ v w', R v w' → K (a.put o.dst v) w')
    (hp : ∀ pv w', Rp pv w' → Q (.panic [{ v := pv, recovered := false }]) a w') : o.wpIn (FR ro) k P a w K Q := by
  refine ⟨fun _ _ => trivial, ?_⟩
  unfold Does at h
  rw [Oper.semAt_eq _ _ _ hnd]
  unfold Oper.uponIn
  generalize (execOp a.eval o).run P w = r at h
  cases r with
  | ok n w' =>
    cases n <;> try (exact h.elim)
    · exact hK _ _ h
    · exact hK _ _ h
    · refine ⟨(fun h => by cases h), callsIn_FR ((h : Calls P _ _ _ _).mono fun e w'' he => ?_)⟩
      cases e with
      | returned v => exact hK _ _ he
      | panicked c => obtain ⟨pv, rfl, hr⟩ := he; exact hp _ _ hr
      | outgrown => exact he.elim
  | halt x w' => cases x <;> first | exact h.elim | exact hp _ _ h

theorem step_wpOp {ops : List Oper} {i : Nat} {o : Oper} {S : St} {φ : Foot} {r : AV} {ws : List (Nat × AObj)} {a : Act} {w : World} {K : Act → World → Prop} (hi : ops[i]? = some o) (h : LStep P ops.toArray i S φ r ws)
    (hI : Inv E S a w) (hK : ∀ a' w', Inv E (S.upd o.dst r ws) a' w' → K a' w') : wpOpIn (FR ro) k P ops.toArray Q i K a w := by
  obtain ⟨o', ho', hnd, _, hfr, hst⟩ := h
  have : o' = o := by rw [show ops.toArray[i]? = ops[i]? by simp, hi] at ho'; cases ho'; rfl
  subst this
  obtain ⟨ρ, X, hI⟩ := hI
  have hag : Agree ops.toArray o' φ S S := ⟨rfl, fun _ _ => rfl, fun _ _ => rfl, fun _ _ => rfl, hfr⟩
  obtain ⟨h1, h2⟩ := hst S hag ρ X a w hI.sim
  unfold wpOpIn
  rw [ho']
  simp only
  cases hw : Region.wanted o' (yielded ops.toArray a.tmps) with
  | true =>
    simp only [if_true]
    refine wp_of_does hnd (h1 hw) (fun v w' hr => ?_) (fun _ _ h => h.elim)
    obtain ⟨ρ', X', k1, k2⟩ := hr
    exact hK _ _ ⟨ρ', X', hI.evo k1 k2 (fun n hn => upd_dom hn) (put_defers _ _ _)⟩
  | false =>
    simp only [Bool.false_eq_true, if_false]
    obtain ⟨rfl, rfl⟩ := h2 hw
    obtain ⟨k1, k2⟩ := hI.sim.put (dst := o'.dst) (r := .tup []) (v := undef) ⟨[], rfl, trivial⟩ (fun _ h => by cases h)
    exact ⟨fun _ _ => trivial, hK _ _ ⟨ρ, X, hI.evo k1 k2 (fun n hn => upd_dom hn) (put_defers _ _ _)⟩⟩

theorem pan_wpOp {ops : List Oper} {i : Nat} {S : St} {φ : Foot} {pv : Value} {ws : List (Nat × AObj)} {a : Act} {w : World} {K : Act → World → Prop} (h : LPan P ops.toArray i S φ pv ws)
    (hI : Inv E S a w) (hK : ∀ a' w', Inv E ((S.upd none .top ws).blank ops) a' w' → Q (.panic [{ v := pv, recovered := false }]) a' w') : wpOpIn (FR ro) k P ops.toArray Q i K a w := by
  obtain ⟨o, ho, hnd, hnw, hst⟩ := h
  obtain ⟨ρ, X, hI⟩ := hI
  obtain ⟨h1, h2⟩ := hst S ⟨rfl, fun _ _ => rfl, fun _ _ => rfl, fun _ _ => rfl, hnw⟩ ρ X a w hI.sim
  unfold wpOpIn
  rw [ho]
  simp only [h1, if_true]
  refine wp_of_does hnd h2 (fun _ _ h => h.elim) (fun v w' hr => ?_)
  obtain ⟨rfl, ρ', X', k1, k2⟩ := hr
  exact hK _ _ (Inv.blank ⟨ρ', X', hI.evo k1 k2 (fun n hn => upd_dom hn) rfl⟩)

end

/-! ### The order of the text -/

theorem tr_text {P : Program} {E : Ent} {Q : Exit → Act → World → Prop} {ro : Option Nat} {k : Nat} {ops : List Oper} : ∀ {q : Bool} {pi : Option Nat} {L : List Nat} {S : St} {fs : Foots} {out : St ⊕ (Value × St)}, Tr P ops q pi L S fs out → ∀ {a : Act} {w : World}, Inv E S a w →
    (∀ S' a' w', out = .inl S' → Inv E S' a' w' → Q .normal a' w') → (∀ pv S' a' w', out = .inr (pv, S') → Inv E S' a' w' → Q (.panic [{ v := pv, recovered := false }]) a' w') → wpOpsIn (FR ro) k P ops.toArray Q L a w := by
  intro q pi L S fs out t
  induction t with
  | nil => intro a w hI h1 _; exact h1 _ _ _ rfl hI
  | step hi hl _ _ _ ih =>
    intro a w hI h1 h2
    rw [wpOpsIn_cons]
    exact step_wpOp hi hl hI fun a' w' hI' => ih hI' h1 h2
  | pan hl _ _ =>
    intro a w hI _ h2
    rw [wpOpsIn_cons]
    exact pan_wpOp hl hI fun a' w' hI' => h2 _ _ _ _ rfl hI'

/-! ### Any order -/

/-- Two operations that do not touch one thing. -/
structure Ind (ops : List Oper) (a b : Nat × Foot) : Prop where
  sl : ∀ x y, ops[a.1]? = some x → ops[b.1]? = some y → (∀ d, x.dst = some d → d ∉ y.looksAt ops.toArray) ∧ (∀ d, x.dst = some d → y.dst ≠ some d) ∧ (∀ d, y.dst = some d → d ∉ x.looksAt ops.toArray)
  h1 : ∀ n, (n ∈ a.2.wr ∨ n ∈ a.2.nw) → n ∉ b.2.rd ∧ n ∉ b.2.wr ∧ n ∉ b.2.nw
  h2 : ∀ n, (n ∈ b.2.wr ∨ n ∈ b.2.nw) → n ∉ a.2.rd ∧ n ∉ a.2.wr ∧ n ∉ a.2.nw

theorem disj_spec {a b : List Nat} (h : disj a b = true) : ∀ n, n ∈ a → n ∉ b := by
  intro n hn hb
  simp only [disj, List.all_eq_true, Bool.not_eq_true', List.contains_eq_mem, decide_eq_false_iff_not] at h
  exact h n hn hb

theorem indep_spec {ops : List Oper} {a b : Nat × Foot} (h : indep ops a b = true) : Ind ops a b := by
  simp only [indep, Bool.and_eq_true] at h
  obtain ⟨⟨⟨⟨⟨⟨⟨⟨h0, h1⟩, h2⟩, h3⟩, h4⟩, h5⟩, h6⟩, h7⟩, h8⟩ := h
  refine ⟨fun x y hx hy => ?_, fun n hn => ⟨?_, ?_, ?_⟩, fun n hn => ⟨?_, ?_, ?_⟩⟩
  · rw [hx, hy] at h0
    exact Oper.apart_spec h0
  · exact hn.elim (disj_spec h1 n) (disj_spec h5 n)
  · exact hn.elim (disj_spec h2 n) (disj_spec h6 n)
  · exact hn.elim (fun k hb => disj_spec h8 n hb k) (disj_spec h4 n)
  · exact hn.elim (disj_spec h3 n) (disj_spec h7 n)
  · exact hn.elim (fun k hb => disj_spec h2 n hb k) (disj_spec h8 n)
  · exact hn.elim (fun k hb => disj_spec h6 n hb k) (fun k hb => disj_spec h4 n hb k)

theorem okPairs_spec {ops : List Oper} : ∀ {l : Foots}, okPairs ops l = true → l.Pairwise fun b a => bef ops b.1 a.1 = true ∨ Ind ops a b
  | [], _ => .nil
  | b :: l, h => by
    simp only [okPairs, okPairsT, Bool.and_eq_true, List.all_eq_true, Bool.or_eq_true] at h
    exact .cons (fun a ha => (h.1 a ha).imp id indep_spec) (okPairs_spec h.2)

theorem sl_upd_ne {S : St} {dst : Option Tmp} {r : AV} {ws : List (Nat × AObj)} {t : Nat} (h : dst ≠ some t) : (S.upd dst r ws).sl t = S.sl t := by
  rcases St.sl_put (S.write ws) dst r t with ⟨_, h2⟩ | ⟨h1, _⟩
  · exact absurd h2 h
  · exact h1

theorem n_upd {S : St} {dst : Option Tmp} {r : AV} {ws : List (Nat × AObj)} : (S.upd dst r ws).n = S.n := by
  simp only [St.upd, St.n_put, St.write]

theorem hp_upd_ne {S : St} {dst : Option Tmp} {r : AV} {ws : List (Nat × AObj)} {n : Nat} (h : lkp ws n = none) : (S.upd dst r ws).hp n = S.hp n := by
  rw [St.hp_upd, h]

theorem upd_comm {S : St} {d d' : Option Tmp} {r r' : AV} {ws ws' : List (Nat × AObj)} (hd : ∀ t, d = some t → d' ≠ some t) (hw : ∀ n, lkp ws n ≠ none → lkp ws' n = none) :
    (S.upd d r ws).upd d' r' ws' = (S.upd d' r' ws').upd d r ws := by
  have h1 : ((S.upd d r ws).upd d' r' ws').n = ((S.upd d' r' ws').upd d r ws).n := by simp only [n_upd]
  have h2 : ((S.upd d r ws).upd d' r' ws').hp = ((S.upd d' r' ws').upd d r ws).hp := by
    funext n
    rw [St.hp_upd, St.hp_upd, St.hp_upd, St.hp_upd]
    cases h : lkp ws n with
    | none => cases lkp ws' n <;> rfl
    | some x => rw [hw n (by rw [h]; simp)]
  have h3 : ((S.upd d r ws).upd d' r' ws').sl = ((S.upd d' r' ws').upd d r ws).sl := by
    funext t
    have e1 : ∀ (T : St) (u : AV) (us : List (Nat × AObj)) (q : Option Tmp), (T.upd q u us).sl t = if q = some t then u else T.sl t := fun T u us q => by
      by_cases hq : q = some t
      · rw [if_pos hq]
        rcases St.sl_put (T.write us) q u t with ⟨h, _⟩ | ⟨_, h⟩
        · exact h
        · exact absurd hq h
      · rw [if_neg hq]; exact sl_upd_ne hq
    rw [e1, e1, e1, e1]
    by_cases h : d = some t
    · rw [if_neg (hd t h), if_pos h, if_pos h]
    · rw [if_neg h, if_neg h]
  cases hA : (S.upd d r ws).upd d' r' ws'
  cases hB : (S.upd d' r' ws').upd d r ws
  rw [hA, hB] at h1 h2 h3
  simp only at h1 h2 h3
  rw [h1, h2, h3]

/-- What agrees with a frame agrees with the one behind an operation that is apart. -/
theorem agree_upd {ops : List Oper} {o : Oper} {φ : Foot} {S S' : St} {d : Option Tmp} {r : AV} {ws : List (Nat × AObj)} (hd : ∀ t, d = some t → t ∉ o.looksAt ops.toArray) (hw : ∀ n, lkp ws n ≠ none → n ∉ φ.rd ∧ n ∉ φ.wr) :
    Agree ops.toArray o φ S S' ↔ Agree ops.toArray o φ (S.upd d r ws) S' := by
  have e1 : ∀ t, t ∈ o.looksAt ops.toArray → (S.upd d r ws).sl t = S.sl t := fun t ht => sl_upd_ne fun e => hd t e ht
  have e2 : ∀ n, n ∈ φ.rd → (S.upd d r ws).hp n = S.hp n := fun n hn => hp_upd_ne (by
    cases h : lkp ws n with
    | none => rfl
    | some x => exact absurd hn (hw n (by rw [h]; simp)).1)
  have e3 : ∀ n, n ∈ φ.wr → (S.upd d r ws).hp n = S.hp n := fun n hn => hp_upd_ne (by
    cases h : lkp ws n with
    | none => rfl
    | some x => exact absurd hn (hw n (by rw [h]; simp)).2)
  constructor
  · intro h
    exact ⟨by rw [h.n, n_upd], fun t ht => by rw [h.sl t ht, e1 t ht], fun n hn => by rw [h.rd n hn, e2 n hn], fun n hn => by rw [h.wr n hn, e3 n hn], h.nw⟩
  · intro h
    exact ⟨by rw [h.n, n_upd], fun t ht => by rw [h.sl t ht, e1 t ht], fun n hn => by rw [h.rd n hn, e2 n hn], fun n hn => by rw [h.wr n hn, e3 n hn], h.nw⟩

def remN (L : List Nat) (i : Nat) : List Nat := L.filter fun k => k != i

theorem remN_head {i : Nat} {L : List Nat} (h : i ∉ L) : remN (i :: L) i = L := by
  unfold remN
  rw [List.filter_cons_of_neg (by simp)]
  exact List.filter_eq_self.2 fun k hk => by
    have : k ≠ i := fun e => h (by rw [← e]; exact hk)
    simpa using this

theorem remN_cons {i j : Nat} {L : List Nat} (h : j ≠ i) : remN (j :: L) i = j :: remN L i := by
  unfold remN
  exact List.filter_cons_of_pos (by simpa using h)

theorem foldl_or {α : Type} (f : α → Bool) (g : α → Nat) (j : Nat) : ∀ (l : List α) (s : Nat), (l.foldl (fun s x => bif f x then s ||| g x else s) s).testBit j = true → s.testBit j = true ∨ ∃ x, x ∈ l ∧ f x = true ∧ (g x).testBit j = true
  | [], s, h => .inl h
  | x :: l, s, h => by
    simp only [List.foldl_cons] at h
    rcases foldl_or f g j l _ h with h | ⟨y, h1, h2, h3⟩
    · cases hf : f x with
      | true =>
        rw [hf, cond_true, Nat.testBit_or, Bool.or_eq_true] at h
        exact h.imp id fun h => ⟨x, by simp, hf, h⟩
      | false => rw [hf] at h; exact .inl h
    · exact .inr ⟨y, by simp [h1], h2, h3⟩

theorem descMask_spec {ops : List Oper} {i j : Nat} (h : (descMask ops i).testBit j = true) : bef ops j i = true := by
  unfold descMask at h
  rcases foldl_or (fun j => bef ops j i) (fun j => 2 ^ j) j _ 0 h with h | ⟨x, _, h2, h3⟩
  · simp at h
  · have : x = j := by simpa [Nat.testBit_two_pow] using h3
    rw [← this]; exact h2

theorem ws_nil {φ : Foot} {ws : List (Nat × AObj)} (h : ∀ n, lkp ws n ≠ none → n ∈ φ.wr ∨ n ∈ φ.nw) (hq : quietF φ = true) : ws = [] := by
  simp only [quietF, Bool.and_eq_true, List.isEmpty_iff] at hq
  cases ws with
  | nil => rfl
  | cons p ws =>
    obtain ⟨n, x⟩ := p
    have := h n (by simp [lkp])
    rw [hq.1, hq.2] at this
    rcases this with h | h <;> cases h

theorem blank_upd (ops : List Oper) (S : St) (d : Option Tmp) (hd : ∀ t, d = some t → wrt ops t = true) (r : AV) (ws : List (Nat × AObj)) : ((S.upd d r []).upd none .top ws).blank ops = (S.upd none .top ws).blank ops := by
  unfold St.blank
  have h1 : ((S.upd d r []).upd none .top ws).n = (S.upd none .top ws).n := by simp only [n_upd]
  have h2 : ((S.upd d r []).upd none .top ws).hp = (S.upd none .top ws).hp := by
    funext n
    rw [St.hp_upd, St.hp_upd, St.hp_upd]
    rfl
  have h3 : (fun t => bif wrt ops t then .top else ((S.upd d r []).upd none .top ws).sl t : Nat → AV) = fun t => bif wrt ops t then .top else (S.upd none .top ws).sl t := by
    funext t
    cases hw : wrt ops t with
    | true => rfl
    | false =>
      show (S.upd d r []).sl t = S.sl t
      exact sl_upd_ne fun e => by rw [hd t e] at hw; cases hw
  rw [h1, h2, h3]

/-- **What may come up now can be taken first.** -/
theorem Tr.front {P : Program} {ops : List Oper} {i : Nat} : ∀ {q : Bool} {pi : Option Nat} {L : List Nat} {S : St} {fs : Foots} {out : St ⊕ (Value × St)}, Tr P ops q pi L S fs out → fs.Pairwise (fun a b => bef ops b.1 a.1 = true ∨ Ind ops a b) → L.Nodup → i ∈ L → (∀ j, j ∈ L → bef ops i j = false) →
    (∃ o φ r ws fs', ops[i]? = some o ∧ LStep P ops.toArray i S φ r ws ∧ (q = true → ws = [] ∧ quietF φ = true) ∧ (∀ i', pi = some i' → bef ops i' i = true ∨ quietF φ = true) ∧ Tr P ops q pi (remN L i) (S.upd o.dst r ws) fs' out ∧ fs'.Sublist fs ∧ (i, φ) ∈ fs) ∨
    (∃ φ pv ws, LPan P ops.toArray i S φ pv ws ∧ out = .inr (pv, (S.upd none .top ws).blank ops) ∧ (i, φ) ∈ fs ∧ q = false ∧ pi = some i) := by
  intro q pi L S fs out t
  induction t with
  | nil => intro _ _ h; cases h
  | step hi hl hq hpi ht ih =>
    rename_i q pi j o L S φ r ws fs out
    intro hp hnd hiL hno
    have hnd' := List.nodup_cons.1 hnd
    have hp' := List.pairwise_cons.1 hp
    by_cases hij : i = j
    · subst hij
      exact .inl ⟨o, φ, r, ws, fs, hi, hl, hq, hpi, by rw [remN_head hnd'.1]; exact ht, List.sublist_cons_self _ _, by simp⟩
    · have hiL' : i ∈ L := by rcases List.mem_cons.1 hiL with h | h; exact absurd h hij; exact h
      have hbf : bef ops i j = false := hno j (by simp)
      obtain ⟨oj, hoj, hjd, hjn, hjf, hjs⟩ := hl
      have hojo : oj = o := by rw [show ops.toArray[j]? = ops[j]? by simp, hi] at hoj; cases hoj; rfl
      subst hojo
      rcases ih hp'.2 hnd'.2 hiL' (fun k hk => hno k (by simp [hk])) with ⟨o', φ', r', ws', fs', h1, h2, hq', hpi', h3, h4, h5⟩ | ⟨φ', pv, ws', h2, h4, h5, h6, h7⟩
      · have hind : Ind ops (j, φ) (i, φ') := (hp'.1 _ h5).resolve_left (by rw [hbf]; simp)
        obtain ⟨s1, s2, s3⟩ := hind.sl oj o' hi h1
        obtain ⟨oi, hoi, hid, hin, hif, his⟩ := h2
        have hoio : oi = o' := by rw [show ops.toArray[i]? = ops[i]? by simp, h1] at hoi; cases hoi; rfl
        subst hoio
        have hwj : ∀ n, lkp ws n ≠ none → n ∉ φ'.rd ∧ n ∉ φ'.wr := fun n hn => by have := hind.h1 n (hjn n hn); exact ⟨this.1, this.2.1⟩
        have hwi : ∀ n, lkp ws' n ≠ none → n ∉ φ.rd ∧ n ∉ φ.wr := fun n hn => by have := hind.h2 n (hin n hn); exact ⟨this.1, this.2.1⟩
        have hcom : ∀ n, lkp ws n ≠ none → lkp ws' n = none := fun n hn => by
          cases h : lkp ws' n with
          | none => rfl
          | some x =>
            have k1 := hind.h1 n (hjn n hn)
            rcases hin n (by rw [h]; simp) with k | k
            · exact absurd k k1.2.1
            · exact absurd k k1.2.2
        refine .inl ⟨oi, φ', r', ws', (j, φ) :: fs', h1, ⟨oi, hoi, hid, hin, fun n hn => ?_, fun S' ha => his S' ((agree_upd s1 hwj).1 ha)⟩, hq', hpi', ?_, h4.cons_cons _, by simp [h5]⟩
        · have := hif n hn
          cases hS : S.hp n with
          | none => rfl
          | some x => exact absurd this (upd_dom (by rw [hS]; simp))
        · rw [remN_cons (Ne.symm hij)]
          refine .step hi ⟨oj, hoj, hjd, hjn, fun n hn => ?_, fun S' ha => hjs S' ((agree_upd s3 hwi).2 ha)⟩ hq hpi ?_
          · have : lkp ws' n = none := by
              cases h : lkp ws' n with
              | none => rfl
              | some x => exact absurd hn (hind.h2 n (hin n (by rw [h]; simp))).2.2
            rw [hp_upd_ne this]; exact hjf n hn
          · rw [upd_comm (fun t ht hd => s2 t (by rw [hd]) ht) (fun n hn => by
              cases h : lkp ws n with
              | none => rfl
              | some x => exact absurd (hcom n (by rw [h]; simp)) hn)]
            exact h3
      · have hind : Ind ops (j, φ) (i, φ') := (hp'.1 _ h5).resolve_left (by rw [hbf]; simp)
        have hqj : quietF φ = true := (hpi i h7).resolve_left (by rw [hbf]; simp)
        have hwj0 : ws = [] := ws_nil hjn hqj
        subst hwj0
        obtain ⟨oi, hoi, hid, hnw, his⟩ := h2
        have h1 : ops[i]? = some oi := by simpa using hoi
        obtain ⟨s1, s2, s3⟩ := hind.sl oj oi hi h1
        refine .inr ⟨φ', pv, ws', ⟨oi, hoi, hid, fun n hn => ?_, fun S' ha => his S' ((agree_upd s1 (fun n hn => absurd rfl hn)).1 ha)⟩, by rw [h4, blank_upd ops _ _ (wrt_of hi)], by simp [h5], h6, h7⟩
        have := hnw n hn
        cases hS : S.hp n with
        | none => rfl
        | some x => exact absurd this (upd_dom (by rw [hS]; simp))
  | pan hl ht ih =>
    rename_i j L S S'' φ pv ws fs
    intro hp hnd hiL hno
    have hnd' := List.nodup_cons.1 hnd
    have hp' := List.pairwise_cons.1 hp
    by_cases hij : i = j
    · subst hij
      exact .inr ⟨φ, pv, ws, hl, rfl, by simp, rfl, rfl⟩
    · have hiL' : i ∈ L := by rcases List.mem_cons.1 hiL with h | h; exact absurd h hij; exact h
      have hndesc : (descMask ops j).testBit i = false := by
        cases h : (descMask ops j).testBit i with
        | false => rfl
        | true => have := hno j (by simp); rw [descMask_spec h] at this; cases this
      obtain ⟨oj, hoj, hjd, hjnw, hjs⟩ := hl
      have hi : ops[j]? = some oj := by simpa using hoj
      rcases ih hp'.2 (hnd'.2.filter _) (List.mem_filter.2 ⟨hiL', by rw [hndesc]; rfl⟩) (fun k hk => hno k (by simp [(List.mem_filter.1 hk).1])) with ⟨o', φ', r', ws', fs', h1, h2, hq', hpi', h3, h4, h5⟩ | ⟨_, _, _, _, h4, _⟩
      · have hbf : bef ops i j = false := hno j (by simp)
        have hind : Ind ops (j, φ) (i, φ') := (hp'.1 _ h5).resolve_left (by rw [hbf]; simp)
        obtain ⟨s1, s2, s3⟩ := hind.sl oj o' hi h1
        obtain ⟨oi, hoi, hid, hin, hif, his⟩ := h2
        have hoio : oi = o' := by rw [show ops.toArray[i]? = ops[i]? by simp, h1] at hoi; cases hoi; rfl
        subst hoio
        obtain ⟨hw0, hqi⟩ := hq' rfl
        subst hw0
        refine .inl ⟨oi, φ', r', [], (j, φ) :: fs', h1, ⟨oi, hoi, hid, hin, hif, his⟩, (fun h => by cases h), fun _ _ => .inr hqi, ?_, h4.cons_cons _, by simp [h5]⟩
        rw [remN_cons (Ne.symm hij), ← blank_upd ops S oi.dst (wrt_of h1) r' ws]
        refine .pan (S' := S'') ⟨oj, hoj, hjd, fun n hn => by rw [hp_upd_ne rfl]; exact hjnw n hn, fun S' ha => hjs S' ((agree_upd s3 (fun n hn => absurd rfl hn)).2 ha)⟩ ?_
        have : (remN L i).filter (fun j_1 => !(descMask ops j).testBit j_1) = remN (L.filter fun j_1 => !(descMask ops j).testBit j_1) i := by
          unfold remN
          rw [List.filter_filter, List.filter_filter]
          congr 1
          funext k
          rw [Bool.and_comm]
        rw [this]; exact h3
      · cases h4

theorem befs_spec {ops : List Oper} : ∀ (os pre : List Oper) (acc : List Nat), ops = pre ++ os → pre.length = acc.length →
    (∀ (i m : Nat), acc[i]? = some m → ∀ j, m.testBit j = true → ∃ o e, ops[i]? = some o ∧ e ∈ o.after ∧ Region.binds .any e = true ∧ (e.on = j ∨ (acc.getD e.on 0).testBit j = true)) →
    ∀ (i m : Nat), (befs os acc)[i]? = some m → ∀ j, m.testBit j = true → ∃ o e, ops[i]? = some o ∧ e ∈ o.after ∧ Region.binds .any e = true ∧ (e.on = j ∨ ((befs os acc).getD e.on 0).testBit j = true)
  | [], _, acc, _, _, hP, i, m, hi, j, hj => hP i m hi j hj
  | o :: os, pre, acc, he, hl, hP, i, m, hi, j, hj => by
    simp only [befs] at hi ⊢
    refine befs_spec os (pre ++ [o]) _ (by rw [he]; simp) (by simp [hl]) (fun i m hi j hj => ?_) i m hi j hj
    have hext : ∀ k, (acc.getD k 0).testBit j = true → ((acc ++ [o.after.toList.foldl (fun s e => bif Region.binds .any e then s ||| 2 ^ e.on ||| acc.getD e.on 0 else s) 0]).getD k 0).testBit j = true := fun k hk => by
      by_cases hlt : k < acc.length
      · rw [List.getD_eq_getElem?_getD, List.getElem?_append_left hlt, ← List.getD_eq_getElem?_getD]; exact hk
      · rw [List.getD_eq_getElem?_getD, List.getElem?_eq_none (by omega)] at hk; simp at hk
    by_cases hlt : i < acc.length
    · rw [List.getElem?_append_left hlt] at hi
      obtain ⟨o', e, h1, h2, h3, h4⟩ := hP i m hi j hj
      exact ⟨o', e, h1, h2, h3, h4.imp id (hext _)⟩
    · rw [List.getElem?_append_right (by omega)] at hi
      have hieq : i = acc.length := by
        rcases Nat.lt_or_ge (i - acc.length) 1 with h | h
        · omega
        · rw [List.getElem?_eq_none (by simpa using h)] at hi; cases hi
      subst hieq
      simp only [Nat.sub_self, List.getElem?_cons_zero, Option.some.injEq] at hi
      subst hi
      have key : ∀ (l : List Edge) (s : Nat), (l.foldl (fun s e => bif Region.binds .any e then s ||| 2 ^ e.on ||| acc.getD e.on 0 else s) s).testBit j = true → s.testBit j = true ∨ ∃ e, e ∈ l ∧ Region.binds .any e = true ∧ (e.on = j ∨ (acc.getD e.on 0).testBit j = true) := by
        intro l
        induction l with
        | nil => intro s h; exact .inl h
        | cons e l ih =>
          intro s h
          simp only [List.foldl_cons] at h
          rcases ih _ h with h | ⟨e', h1, h2, h3⟩
          · cases hb : Region.binds .any e with
            | false => rw [hb] at h; exact .inl h
            | true =>
              rw [hb, cond_true, Nat.testBit_or, Nat.testBit_or, Bool.or_eq_true, Bool.or_eq_true] at h
              rcases h with (h | h) | h
              · exact .inl h
              · exact .inr ⟨e, by simp, hb, .inl (by simpa [Nat.testBit_two_pow] using h)⟩
              · exact .inr ⟨e, by simp, hb, .inr h⟩
          · exact .inr ⟨e', by simp [h1], h2, h3⟩
      rcases key _ 0 hj with h | ⟨e, h1, h2, h3⟩
      · simp at h
      · exact ⟨o, e, by rw [he, ← hl]; simp, by simpa using h1, h2, h3.imp id (hext _)⟩

theorem bef_spec {ops : List Oper} {i j : Nat} (h : bef ops i j = true) : ∃ o e, ops[i]? = some o ∧ e ∈ o.after ∧ Region.binds .any e = true ∧ (e.on = j ∨ bef ops e.on j = true) := by
  unfold bef befT at h
  cases hi : (befs ops [])[i]? with
  | none => rw [List.getD_eq_getElem?_getD, hi] at h; simp at h
  | some m =>
    rw [List.getD_eq_getElem?_getD, hi] at h
    exact befs_spec ops [] [] rfl rfl (fun i m hi => by simp at hi) i m hi j h

/-- Each operation waits for earlier ones alone. -/
def edgesB (ops : List Oper) : Bool := ops.zipIdx.all fun p => p.1.after.toList.all fun e => !Region.binds .any e || Nat.blt e.on p.2

theorem edgesB_spec {ops : List Oper} (h : edgesB ops = true) {i : Nat} {o : Oper} (hi : ops[i]? = some o) {e : Edge} (he : e ∈ o.after) (hb : Region.binds .any e = true) : e.on < i := by
  simp only [edgesB, List.all_eq_true] at h
  have h1 := h (o, i) (by
    rw [List.mem_iff_getElem?]
    exact ⟨i, by simp [List.getElem?_zipIdx, hi]⟩) e (by simpa using he)
  simp only [hb, Bool.not_true, Bool.false_or] at h1
  simpa using h1

theorem min_mem : ∀ (L : List Nat), L ≠ [] → ∃ m, m ∈ L ∧ ∀ k, k ∈ L → m ≤ k
  | [], h => absurd rfl h
  | [a], _ => ⟨a, by simp, fun k hk => by simp at hk; omega⟩
  | a :: b :: L, _ => by
    obtain ⟨m, h1, h2⟩ := min_mem (b :: L) (by simp)
    by_cases hle : a ≤ m
    · exact ⟨a, by simp, fun k hk => by
        rcases List.mem_cons.1 hk with rfl | hk
        · exact Nat.le_refl _
        · exact Nat.le_trans hle (h2 k hk)⟩
    · exact ⟨m, by simp [h1], fun k hk => by
        rcases List.mem_cons.1 hk with rfl | hk
        · omega
        · exact h2 k hk⟩

theorem Tr.nilOut {P : Program} {ops : List Oper} {q : Bool} {pi : Option Nat} {S : St} {fs : Foots} {out : St ⊕ (Value × St)} (t : Tr P ops q pi [] S fs out) : out = .inl S := by cases t; rfl

theorem tr_any {P : Program} {E : Ent} {Q : Exit → Act → World → Prop} {ro : Option Nat} {nn : Nat} {ops : List Oper} (hed : edgesB ops = true) : ∀ (fuel : Nat) {listed : Array Bool} {q : Bool} {pi : Option Nat} {L : List Nat} {S : St} {fs : Foots} {out : St ⊕ (Value × St)} {a : Act} {w : World},
    Tr P ops q pi L S fs out → fs.Pairwise (fun a b => bef ops b.1 a.1 = true ∨ Ind ops a b) → L.Nodup → listed.size = ops.length → (∀ k, k ∈ L ↔ k < ops.length ∧ listed.getD k true = false) →
    (∀ k, k < ops.length → k ∉ L → ∀ j, bef ops k j = true → j ∉ L) → L.length ≤ fuel → Inv E S a w →
    (∀ S' a' w', out = .inl S' → Inv E S' a' w' → Q .normal a' w') → (∀ pv S' a' w', out = .inr (pv, S') → Inv E S' a' w' → Q (.panic [{ v := pv, recovered := false }]) a' w') → wpAnyIn (FR ro) nn P .any ops.toArray Q fuel listed a w := by
  intro fuel
  have ready0 : ∀ {listed : Array Bool} {L : List Nat}, listed.size = ops.length → (∀ k, k ∈ L ↔ k < ops.length ∧ listed.getD k true = false) → Region.ready .any ops.toArray listed = [] → L = [] := by
    intro listed L hsz hL hr
    refine Classical.byContradiction fun hne => ?_
    obtain ⟨m, hm, hmin⟩ := min_mem L hne
    have hmL := (hL m).1 hm
    have : m ∈ Region.ready .any ops.toArray listed := mem_ready.2 ⟨hmL.2, ops[m], by simp [hmL.1], fun e he hb => by
      have hlt := edgesB_spec hed (List.getElem?_eq_getElem hmL.1) he hb
      have hn : e.on ∉ L := fun h => by have := hmin _ h; omega
      have hlt' : e.on < listed.size := by rw [hsz]; omega
      cases hg : listed.getD e.on true with
      | false => exact absurd ((hL e.on).2 ⟨by omega, hg⟩) hn
      | true =>
        rw [Array.getD_eq_getD_getElem?, Array.getElem?_eq_getElem hlt'] at hg ⊢
        exact hg⟩
    rw [hr] at this; cases this
  have listedAll : ∀ {listed : Array Bool} {L : List Nat}, (∀ k, k ∈ L ↔ k < ops.length ∧ listed.getD k true = false) → L = [] → Region.ready .any ops.toArray listed = [] := by
    intro listed L hL hn
    refine List.eq_nil_iff_forall_not_mem.2 fun j hj => ?_
    obtain ⟨h1, o, h2, _⟩ := mem_ready.1 hj
    have hlt : j < ops.length := by have := (Array.getElem?_eq_some_iff.1 h2).1; simpa using this
    have := (hL j).2 ⟨hlt, h1⟩
    rw [hn] at this; cases this
  induction fuel with
  | zero =>
    intro listed q pi L S fs out a w t hp hnd hsz hL hdc hfu hI h1 h2
    have hn : L = [] := List.eq_nil_of_length_eq_zero (by omega)
    subst hn
    exact ⟨listedAll hL rfl, h1 S a w t.nilOut hI⟩
  | succ fuel ih =>
    intro listed q pi L S fs out a w t hp hnd hsz hL hdc hfu hI h1 h2
    refine ⟨fun hr => ?_, fun i hi => ?_⟩
    · have hn := ready0 hsz hL hr
      subst hn
      exact h1 S a w t.nilOut hI
    · obtain ⟨hi1, o, hi2, hi3⟩ := mem_ready.1 hi
      have hilt : i < ops.length := by have := (Array.getElem?_eq_some_iff.1 hi2).1; simpa using this
      have hio : ops[i]? = some o := by simpa using hi2
      have hiL : i ∈ L := (hL i).2 ⟨hilt, hi1⟩
      have dir : ∀ e, e ∈ o.after → Region.binds .any e = true → e.on < ops.length ∧ e.on ∉ L := fun e he hb => by
        have hl := hi3 e he hb
        have hlt' : e.on < listed.size := by
          rcases Nat.lt_or_ge e.on listed.size with h | h
          · exact h
          · rw [Array.getD_eq_getD_getElem?, Array.getElem?_eq_none h] at hl; cases hl
        refine ⟨by rw [← hsz]; exact hlt', fun hm => ?_⟩
        have := ((hL e.on).1 hm).2
        rw [Array.getD_eq_getD_getElem?, Array.getElem?_eq_getElem hlt'] at hl this
        simp at hl this; rw [hl] at this; cases this
      have hno : ∀ j, j ∈ L → bef ops i j = false := fun j hj => by
        cases hb : bef ops i j with
        | false => rfl
        | true =>
          obtain ⟨o', e, k1, k2, k3, k4⟩ := bef_spec hb
          rw [hio] at k1; cases k1
          obtain ⟨d1, d2⟩ := dir e k2 k3
          rcases k4 with k4 | k4
          · rw [k4] at d2; exact absurd hj d2
          · exact absurd hj (hdc e.on d1 d2 j k4)
      rcases t.front hp hnd hiL hno with ⟨o', φ, r, ws, fs', k1, k2, _, _, k3, k4, _⟩ | ⟨φ, pv, ws, k2, k3, _⟩
      · refine step_wpOp k1 k2 hI fun a' w' hI' => ?_
        have hmem : ∀ k, k ∈ remN L i ↔ k ∈ L ∧ k ≠ i := fun k => by unfold remN; rw [List.mem_filter]; simp
        refine ih k3 (hp.sublist k4) (hnd.filter _) (by simp [hsz]) (fun k => ?_) (fun k hk hkn j hj hm => ?_) ?_ hI' h1 h2
        · rw [hmem]
          by_cases hki : k = i
          · subst hki
            constructor
            · intro h; exact absurd rfl h.2
            · intro h
              have hlt' : k < listed.size := by rw [hsz]; exact hilt
              have := h.2
              rw [Array.getD_eq_getD_getElem?, Array.getElem?_setIfInBounds_self_of_lt hlt'] at this
              cases this
          · rw [getD_set_ne true (Ne.symm hki), hL k]
            exact ⟨fun h => h.1, fun h => ⟨h, hki⟩⟩
        · have hjL := ((hmem j).1 hm).1
          by_cases hki : k = i
          · subst hki; have := hno j hjL; rw [hj] at this; cases this
          · exact hdc k hk (fun h => hkn ((hmem k).2 ⟨h, hki⟩)) j hj hjL
        · have : (remN L i).length < L.length := by
            unfold remN
            refine List.length_filter_lt_length_iff_exists.2 ⟨i, hiL, by simp⟩
          omega
      · exact pan_wpOp k2 hI fun a' w' hI' => h2 pv _ a' w' k3 hI'

end Go.Sym
