/-
Ranges over functions: the loop's record in the world, a round as what turns owned memory; what an iterator is said to do ('SeqOK').
-/
import Derived.Test.YthedcaopedbpdaaSymt
import Derived.Scope
namespace Go.Sym

def oCells : Obj → Bool
  | .cells _ _ _ => true
  | _ => false

/-- A block that is no row of cells turns. -/
theorem Ext.putObj {w : World} {l : Nat} {o o' : Obj} (h : w.heap[l]? = some o) (hc : oCells o = false) : Ext (fun b => b = l) w (w.putObj l o') := by
  refine ⟨rfl, rfl, rfl, by simp, fun b _ hb => World.putObj_heap_other hb, fun b c T z hb => ?_⟩
  have hne : b ≠ l := fun e => by subst e; rw [h] at hb; cases hb; cases hc
  exact ⟨c, by rw [World.putObj_heap_other hne]; exact hb, rfl⟩

theorem ObjAt.ne {ρ : Nat → Option Nat} {X : Nat → Prop} {w : World} {n l b : Nat} {x : AObj} {o : Obj} (h : ObjAt ρ X w n x) (ha : x.alive = true) (hb : ρ n = some b) (hl : w.heap[l]? = some o) (hc : oCells o = false) : b ≠ l := fun e => by
  obtain ⟨c, T, z, h1⟩ := h.cells ha hb
  subst e
  rw [hl] at h1; cases h1; cases hc

theorem Sim.putObj {S : St} {ρ : Nat → Option Nat} {X : Nat → Prop} {a : Act} {w : World} (hs : Sim S ρ X a w) {l : Nat} {o : Obj} (o' : Obj) (hl : w.heap[l]? = some o) (hc : oCells o = false) (hX : X l) : Sim S ρ X a (w.putObj l o') := by
  have g : Goes ρ ρ X X (fun b => b = l) w (w.putObj l o') := ⟨.putObj hl hc, fun b _ hn e => hn (by rw [e]; exact hX), fun _ _ h => h⟩
  refine ⟨hs.n, fun t v h => (hs.slots t v h).mono g fun _ _ => rfl, fun n x h => ?_, hs.inj, hs.own, hs.closedS, hs.closedH⟩
  cases ha : x.alive with
  | false => cases x <;> first | trivial | cases ha
  | true => exact (hs.objs n x h).mono g rfl (fun b hb => World.putObj_heap_other ((hs.objs n x h).ne ha hb hl hc)) fun _ _ => rfl

/-- The same entry, seen over another world that differs in a block that is no row of cells alone. -/
theorem InvAt.putObj2 {E : Ent} {S : St} {ρ : Nat → Option Nat} {X : Nat → Prop} {a : Act} {w : World} (h : InvAt E S ρ X a w) {l : Nat} {o oe : Obj} (o' : Obj) (hl : w.heap[l]? = some o) (hc : oCells o = false) (hle : E.w.heap[l]? = some oe) (hX : X l)
    (hm : ∀ c, o ≠ .deferred c) : InvAt { E with w := E.w.putObj l o' } S ρ X a (w.putObj l o') := by
  have hlt : l < w.heap.size := (Array.getElem?_eq_some_iff.1 hl).1
  have hlte : l < E.w.heap.size := (Array.getElem?_eq_some_iff.1 hle).1
  refine ⟨h.sim.putObj o' hl hc hX, ⟨h.ext.os, h.ext.tape, h.ext.output, by simpa using h.ext.size, fun b hb hn => ?_, fun b c T z hb => ?_⟩, fun b hb => h.xs b (by simpa using hb), fun n x b h1 h2 h3 => (h.own n x b h1 h2 h3).imp (fun k => by simpa using k) id, h.same, ?_⟩
  · by_cases e : b = l
    · subst e; rw [World.putObj_heap_same hlt, World.putObj_heap_same hlte]
    · rw [World.putObj_heap_other e, World.putObj_heap_other e]; exact h.ext.keep b (by simpa using hb) hn
  · by_cases e : b = l
    · subst e
      rw [World.putObj_heap_same hlte] at hb
      exact ⟨c, by rw [World.putObj_heap_same hlt]; exact hb, rfl⟩
    · rw [World.putObj_heap_other e] at hb ⊢; exact h.ext.shape b c T z hb
  · obtain ⟨ms, k1, kn, k0, k2⟩ := h.marks
    refine ⟨ms, k1, kn, k0, fun D hD => ⟨by simpa using (k2 D hD).1, (k2 D hD).2.1, ?_⟩⟩
    have := (k2 D hD).2.2
    rw [World.putObj_heap_other fun e => by subst e; rw [hl] at this; cases this; exact hm _ rfl]
    exact this

theorem InvAt.putObj {E : Ent} {S : St} {ρ : Nat → Option Nat} {X : Nat → Prop} {a : Act} {w : World} (h : InvAt E S ρ X a w) {l : Nat} {o : Obj} (o' : Obj) (hl : w.heap[l]? = some o) (hc : oCells o = false) (hle : E.w.heap.size ≤ l) (hX : X l)
    (hm : ∀ c, o ≠ .deferred c) : InvAt E S ρ X a (w.putObj l o') := by
  refine ⟨h.sim.putObj o' hl hc hX, ⟨h.ext.os, h.ext.tape, h.ext.output, by simpa using h.ext.size, fun b hb hn => ?_, fun b c T z hb => ?_⟩, h.xs, h.own, h.same, ?_⟩
  · rw [World.putObj_heap_other (by omega)]; exact h.ext.keep b hb hn
  · have hb' : b < E.w.heap.size := (Array.getElem?_eq_some_iff.1 hb).1
    rw [World.putObj_heap_other (by omega)]; exact h.ext.shape b c T z hb
  · obtain ⟨ms, k1, kn, k0, k2⟩ := h.marks
    refine ⟨ms, k1, kn, k0, fun D hD => ⟨(k2 D hD).1, (k2 D hD).2.1, ?_⟩⟩
    have := (k2 D hD).2.2
    rw [World.putObj_heap_other fun e => by subst e; rw [hl] at this; cases this; exact hm _ rfl]
    exact this

/-- A new block that nobody reads as data. -/
theorem InvAt.alloc {E : Ent} {S : St} {ρ : Nat → Option Nat} {X : Nat → Prop} {a : Act} {w : World} (h : InvAt E S ρ X a w) (o : Obj) : InvAt E S ρ (fun b => X b ∨ b = w.heap.size) a (w.alloc o) := by
  have hx : Ext (fun _ => False) w (w.alloc o) := .alloc _ w o
  have g : Goes ρ ρ X (fun b => X b ∨ b = w.heap.size) (fun _ => False) w (w.alloc o) := ⟨hx, fun _ _ _ h => h, fun b hb h => h.elim id fun e => by omega⟩
  have hs := h.sim
  have hs' : Sim S ρ (fun b => X b ∨ b = w.heap.size) a (w.alloc o) := by
    refine ⟨hs.n, fun t v h => (hs.slots t v h).mono g fun _ _ => rfl, fun n x h => ?_, hs.inj, fun n x b h1 h2 h3 => .inl (hs.own n x b h1 h2 h3), hs.closedS, hs.closedH⟩
    cases ha : x.alive with
    | false => cases x <;> first | trivial | cases ha
    | true => exact (hs.objs n x h).mono g rfl (fun b hb => hx.keep b ((hs.objs n x h).lt ha hb) fun k => k) fun _ _ => rfl
  refine h.evo hs' ⟨hx.mono fun _ _ k => k.elim, fun b hb => ⟨fun k => k.elim id fun e => by omega, fun k => .inl (.inl k)⟩, fun n x b h1 h2 h3 => .inr ⟨n, x, h1, h2, h3⟩, fun _ _ => rfl⟩ (fun _ h => h) rfl

theorem InvAt.grow {E : Ent} {S : St} {ρ : Nat → Option Nat} {X : Nat → Prop} {a : Act} {w w' : World} (h : InvAt E S ρ X a w) (hx : Ext (fun _ => False) w w') : InvAt E S ρ X a w' := by
  have g : Goes ρ ρ X X (fun _ => False) w w' := ⟨hx, fun _ _ _ h => h, fun _ _ h => h⟩
  have hs := h.sim
  have hs' : Sim S ρ X a w' := by
    refine ⟨hs.n, fun t v h => (hs.slots t v h).mono g fun _ _ => rfl, fun n x h => ?_, hs.inj, hs.own, hs.closedS, hs.closedH⟩
    cases ha : x.alive with
    | false => cases x <;> first | trivial | cases ha
    | true => exact (hs.objs n x h).mono g rfl (fun b hb => hx.keep b ((hs.objs n x h).lt ha hb) fun k => k) fun _ _ => rfl
  exact h.evo hs' ⟨hx.mono fun _ _ k => k.elim, fun b _ => ⟨id, .inl⟩, fun n x b h1 h2 h3 => .inr ⟨n, x, h1, h2, h3⟩, fun _ _ => rfl⟩ (fun _ h => h) rfl

/-- A frame's slots over other owned memory. -/
def St.over (S : St) (S' : St) : St := { S with hp := S'.hp }

/-- **A round, seen from the frame that ranges**: what it did to what is owned, as of a call. -/
theorem InvAt.round {E : Ent} {S S' : St} {ρ ρ' : Nat → Option Nat} {X X' : Nat → Prop} {a a' : Act} {w w' : World} {ds : List Deferred} {nm : Bool} (h : InvAt E S ρ X a w) (hB : InvAt ⟨S.hp, ρ, X, w, ds, nm⟩ S' ρ' X' a' w') : InvAt E (S.over S') ρ' X' a w' := by
  have g : Goes ρ ρ' X X' (Ent.own ⟨S.hp, ρ, X, w, ds, nm⟩) w w' := ⟨hB.ext, fun b _ hn hy => by obtain ⟨o, x, h1, h2, h3⟩ := hy; exact hn (h.sim.own o x b h1 h2 h3), fun b hb k => (hB.xs b hb).1 k⟩
  have hs : Sim (S.over S') ρ' X' a w' := by
    refine ⟨h.sim.n, fun t v ht => (h.sim.slots t v ht).mono g fun o ho => (hB.same o (h.sim.closedS t o ho)).2, hB.sim.objs, hB.sim.inj, hB.sim.own, fun t o ho => (hB.same o (h.sim.closedS t o ho)).1, hB.sim.closedH⟩
  exact h.evo hs ⟨hB.ext, hB.xs, fun o x b h1 h2 h3 => hB.own o x b h1 h2 h3, fun n hn => (hB.same n hn).2⟩ (fun n hn => (hB.same n hn).1) rfl

/-! ### Iterators -/

/-- Data of one cell, as they lie in a slot. -/
def D.scal : D → Bool
  | .int _ _ => true
  | .bool _ => true
  | .str _ => true
  | _ => false
def D.sval : D → Value
  | .int k n => .int k n
  | .bool b => .bool b
  | .str s => .string s
  | _ => undef

theorem repA_scal {ρ : Nat → Option Nat} {X : Nat → Prop} {w : World} {x : D} (h : x.scal = true) : RepA ρ X w (.d x) x.sval := by
  cases x <;> first | cases h | skip
  · exact ⟨_, .d (.int _ _), rfl⟩
  · exact ⟨_, .d (.bool _), rfl⟩
  · exact ⟨_, .d (.str _), rfl⟩

/-- What function f with the data x captured hands to yield, one behind the other: 'ys 0' .. 'ys (n - 1)'; it stops where yield says so; it touches nothing else. -/
def SeqOK (P : Program) (f : FuncId) (x : D) (n : Nat) (ys : Nat → List D) : Prop :=
  ∀ (J : Nat → World → Prop) (Jd : World → Prop) (l b : Nat) (w : World) (X : Nat → Prop) (cs : List Value), RepD X w x cs → RowAt w b 0 cs → (∀ i w w', J i w → Ext (fun _ => False) w w' → J i w') → (∀ w w', Jd w → Ext (fun _ => False) w w' → Jd w') → J 0 w →
    (∀ i, i < n → ∀ w, J i w → ∃ g tmps assign body, (Instr.yield l ((ys i).map D.sval).toArray).run P w = .ok (.round l g tmps assign body) w ∧
      RoundIn (FR none) 0 P l g tmps assign body w fun e w' => ∃ t, e = .returned (.bool t) ∧ (t = true → J (i + 1) w') ∧ (t = false → Jd w')) →
    Calls P f #[.func (.yield l) #[] #[], .pointer (some ⟨b, 0, none⟩)] w fun e w' => ∃ v, e = .returned v ∧ (J n w' ∨ Jd w')

theorem seq_map {P : Program} {f : FuncId} {x : D} {n : Nat} {ys ys' : Nat → List D} (h : SeqOK P f x n ys) (he : ∀ i, i < n → ys i = ys' i) : SeqOK P f x n ys' := by
  intro J Jd l b w X cs h1 h2 s1 s2 h3 h4
  exact h J Jd l b w X cs h1 h2 s1 s2 h3 fun i hi w hw => by rw [he i hi]; exact h4 i hi w hw

section
variable {F : Fence} {n : Nat} {P : Program} {Q : Exit → Act → World → Prop} {b : Frame} {a : Act} {k : List Item} {cs : List Frame} {w : World}

theorem stepR_scope {c : Code} : step P (lone (b.atR a (.code (.scope c) :: k)) cs w) = .next (lone (b.atR a (.code c :: .inScope c :: k)) cs w) :=
  step_lone_go (by simp [stepG, stepG.exec, Frame.atR])
theorem stepR_inScope {c : Code} : step P (lone (b.atR a (.inScope c :: k)) cs w) = .next (lone (b.atR a k) cs w) :=
  step_lone_go (by simp [stepG, stepG.exec, Frame.atR])

theorem wpIn_scope_straight {c : Code} (h : c.wpIn F n P (Exit.noGoto Q) a w) : (Code.scope c).wpIn F n P Q a w := by
  intro b k cs hro hb hr
  have h0 : (lone (b.atR a (.code (.scope c) :: k)) cs w).fenced P F := fenced_calm hb hr rfl
  obtain ⟨e, a₁, w₁, hq, harr⟩ := h b (.inScope c :: k) cs hro hb hr
  cases e with
  | normal => exact ⟨.normal, a₁, w₁, hq, .head h0 stepR_scope (StepsIn.trans harr (.one (fenced_calm hb hr rfl) stepR_inScope))⟩
  | exit id => exact ⟨.exit id, a₁, w₁, hq, fun k' hk => .head h0 stepR_scope (harr.1 k' (by simp [exitTo, hk])), fun hr' hk => let ⟨k₁, h1, h2⟩ := harr.2 hr' (by simp [exitTo, hk]); ⟨k₁, h1, .head h0 stepR_scope h2⟩⟩
  | goto l => exact hq.elim
  | ret => exact ⟨_, a₁, w₁, hq, .of_steps (.one h0 stepR_scope) harr⟩
  | panic ch => exact ⟨_, a₁, w₁, hq, .of_steps (.one h0 stepR_scope) harr⟩
  | outgrown => exact ⟨_, a₁, w₁, hq, .of_steps (.one h0 stepR_scope) harr⟩
end

end Go.Sym
