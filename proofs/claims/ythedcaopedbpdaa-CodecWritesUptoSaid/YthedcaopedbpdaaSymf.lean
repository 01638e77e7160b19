/-
What an operation that calls nothing does to what a frame holds, third part: memory.
-/
import Derived.Test.YthedcaopedbpdaaSyme
namespace Go.Sym

/-- One owned block written. -/
theorem Sim.lay {S : St} {ρ : Nat → Option Nat} {X : Nat → Prop} {a : Act} {w : World} (hs : Sim S ρ X a w) {o b : Nat} {x x' : AObj} {cs cs' : List Value} {T : TypeId} {z : Nat × Nat}
    {dst : Option Tmp} {r : AV} {v : Value} (hx : S.hp o = some x) (ha : x.alive = true) (hob : ρ o = some b) (hb : w.heap[b]? = some (.cells cs.toArray T z)) (hl : cs'.length = cs.length)
    (hobj : ∀ (Y : Nat → Prop), Goes ρ ρ X X Y w (World.lay w b cs') → (World.lay w b cs').heap[b]? = some (.cells cs'.toArray T z) → ObjAt ρ X (World.lay w b cs') o x')
    (hn : ∀ n, n ∈ x'.names → S.hp n ≠ none)
    (hr : ∀ (Y : Nat → Prop), Goes ρ ρ X X Y w (World.lay w b cs') → RepA ρ X (World.lay w b cs') r v) (hrn : ∀ n, n ∈ r.names → S.hp n ≠ none) :
    Sim (S.upd dst r [(o, x')]) ρ X (a.put dst v) (World.lay w b cs') ∧ Evo S (S.upd dst r [(o, x')]) ρ ρ X X w (World.lay w b cs') := by
  have hh := heap_lay hb cs'
  have hext : Ext (fun c => c = b) w (World.lay w b cs') := by
    refine ⟨rfl, rfl, rfl, by simp [World.lay], fun k _ hne => heap_lay_ne w cs' hne, fun k c T' z' hc => ?_⟩
    by_cases hbo : k = b
    · subst hbo
      rw [hb] at hc
      simp only [Option.some.injEq, Obj.cells.injEq] at hc
      obtain ⟨rfl, rfl, rfl⟩ := hc
      exact ⟨_, hh, by simp [hl]⟩
    · exact ⟨c, by rw [heap_lay_ne w cs' hbo]; exact hc, rfl⟩
  have g : Goes ρ ρ X X (fun c => c = b) w (World.lay w b cs') := ⟨hext, fun k _ hx' hy => hx' (by rw [hy]; exact hs.own o x b hx ha hob), fun _ _ h => h⟩
  have hlk : ∀ o' y, lkp [(o, x')] o' = some y → o' = o ∧ y = x' := fun o' y h => by
    have := lkp_mem h
    simp at this
    exact this
  have hlk0 : lkp [(o, x')] o = some x' := by simp [lkp]
  refine ⟨hs.step (Y := fun c => c = b) hext (fun k hb' => ⟨o, x, x', hlk0, hx, ha, by rw [hb']; exact hob⟩) (fun _ _ => rfl) (fun _ _ h => h) (fun o x b _ h1 h2 h3 => hs.own o x b h1 h2 h3) ?_ ?_ ?_ ?_ ?_ (hr _ g) (fun n h => .inl (hrn n h)), ?_⟩
  · intro o' y h; obtain ⟨rfl, rfl⟩ := hlk o' y h; exact hobj _ g hh
  · intro o' y k h _ hk; obtain ⟨rfl, rfl⟩ := hlk o' y h; exact hs.own _ _ _ hx ha hk
  · intro o1 y1 o2 y2 k h1 _ h2 _ _ _; rw [(hlk _ _ h1).1, (hlk _ _ h2).1]
  · intro o1 y1 o2 y2 k h1 _ h2 h3 h4 he he'
    obtain ⟨rfl, rfl⟩ := hlk _ _ h1
    have := hs.inj _ _ _ _ _ hx ha h3 h4 he he'
    subst this; rw [hlk0] at h2; cases h2
  · intro o' y h n hn'; obtain ⟨rfl, rfl⟩ := hlk o' y h; exact .inl (hn n hn')
  · refine ⟨hext.mono fun k _ hb' => ⟨o, x, hx, ha, by rw [hb']; exact hob⟩, fun _ _ => ⟨id, .inl⟩, fun o' y k hy hay hk => ?_, fun _ _ => rfl⟩
    rw [St.hp_upd] at hy
    by_cases ho : o' = o
    · subst ho; exact .inr ⟨o', x, hx, ha, hk⟩
    · have : lkp [(o, x')] o' = none := by
        cases h : lkp [(o, x')] o' with
        | none => rfl
        | some y => exact absurd (hlk o' y h).1 ho
      simp only [this] at hy
      exact .inr ⟨o', y, hy, hay, hk⟩

def setName (ρ : Nat → Option Nat) (n b : Nat) : Nat → Option Nat := fun m => bif n.beq m then some b else ρ m
def addOwn (X : Nat → Prop) (b : Nat) : Nat → Prop := fun c => c = b ∨ X c

theorem setName_same (ρ : Nat → Option Nat) (n b : Nat) : setName ρ n b n = some b := by simp [setName]
theorem setName_ne (ρ : Nat → Option Nat) {n m : Nat} (b : Nat) (h : m ≠ n) : setName ρ n b m = ρ m := by
  unfold setName
  cases hb : n.beq m with
  | true => exact absurd (Nat.eq_of_beq_eq_true hb).symm h
  | false => rfl

/-- One new owned block. -/
theorem Sim.new {S : St} {ρ : Nat → Option Nat} {X : Nat → Prop} {a : Act} {w : World} (hs : Sim S ρ X a w) {nm : Nat} {x : AObj} {c : Array Value} {T : TypeId} {z : Nat × Nat} {w' : World}
    {dst : Option Tmp} {r : AV} {v : Value} (hf : S.hp nm = none)
    (hw : Ext (fun _ => False) w w' ∧ w'.heap[w.heap.size]? = some (.cells c T z))
    (hobj : ∀ ρ' X', Goes ρ ρ' X X' (fun _ => False) w w' → (∀ n, S.hp n ≠ none → ρ' n = ρ n) → ρ' nm = some w.heap.size → ObjAt ρ' X' w' nm x)
    (hn : ∀ n, n ∈ x.names → S.hp n ≠ none)
    (hr : ∀ ρ' X', Goes ρ ρ' X X' (fun _ => False) w w' → (∀ n, S.hp n ≠ none → ρ' n = ρ n) → ρ' nm = some w.heap.size → RepA ρ' X' w' r v)
    (hrn : ∀ n, n ∈ r.names → S.hp n ≠ none ∨ n = nm) :
    ∃ ρ' X', Sim (S.upd dst r [(nm, x)]) ρ' X' (a.put dst v) w' ∧ Evo S (S.upd dst r [(nm, x)]) ρ ρ' X X' w w' := by
  obtain ⟨hext, hnew⟩ := hw
  let ρ' := setName ρ nm w.heap.size
  let X' := addOwn X w.heap.size
  have hρ : ∀ n, S.hp n ≠ none → ρ' n = ρ n := fun n h => setName_ne ρ _ fun e => h (by rw [e]; exact hf)
  have hρn : ρ' nm = some w.heap.size := setName_same ρ nm _
  have hX : ∀ b, b < w.heap.size → (X' b ↔ X b) := fun b hb => by
    simp only [X', addOwn]
    constructor
    · rintro (h | h)
      · omega
      · exact h
    · exact .inr
  have g : Goes ρ ρ' X X' (fun _ => False) w w' := ⟨hext, fun _ _ _ h => h, fun b hb h => (hX b hb).1 h⟩
  have hlk : ∀ o' y, lkp [(nm, x)] o' = some y → o' = nm ∧ y = x := fun o' y h => by
    have := lkp_mem h
    simp at this
    exact this
  refine ⟨ρ', X', hs.step (Y := fun _ => False) hext (fun _ h => h.elim) hρ (fun b hb h => (hX b hb).1 h) (fun o x b _ h1 h2 h3 => (hX b ((hs.objs o x h1).lt h2 h3)).2 (hs.own o x b h1 h2 h3)) ?_ ?_ ?_ ?_ ?_ (hr ρ' X' g hρ hρn) ?_, ?_⟩
  · intro o' y h; obtain ⟨rfl, rfl⟩ := hlk o' y h; exact hobj ρ' X' g hρ hρn
  · intro o' y k h _ hk; obtain ⟨rfl, rfl⟩ := hlk o' y h; rw [hρn] at hk; cases hk; exact .inl rfl
  · intro o1 y1 o2 y2 k h1 _ h2 _ _ _; rw [(hlk _ _ h1).1, (hlk _ _ h2).1]
  · intro o1 y1 o2 y2 k h1 _ h2 h3 h4 he he'
    obtain ⟨rfl, rfl⟩ := hlk _ _ h1
    have := (hs.objs _ _ h3).lt h4 he'
    rw [hρn] at he; cases he; omega
  · intro o' y h n hn'; obtain ⟨rfl, rfl⟩ := hlk o' y h; exact .inl (hn n hn')
  · intro n h
    rcases hrn n h with h | h
    · exact .inl h
    · subst h; exact .inr (by simp [lkp])
  · refine ⟨hext.mono fun _ _ h => h.elim, fun b hb => ⟨(hX b hb).1, fun h => .inl ((hX b hb).2 h)⟩, fun o' y k hy hay hk => ?_, hρ⟩
    rw [St.hp_upd] at hy
    by_cases ho : o' = nm
    · subst ho; rw [hρn] at hk; cases hk; exact .inl (Nat.le_refl _)
    · have : lkp [(nm, x)] o' = none := by
        cases h : lkp [(nm, x)] o' with
        | none => rfl
        | some y => exact absurd (hlk o' y h).1 ho
      simp only [this] at hy
      exact .inr ⟨o', y, hy, hay, by rw [← hρ o' (by rw [hy]; simp)]; exact hk⟩

theorem alloc_new (w : World) (c : Array Value) (T : TypeId) (z : Nat × Nat) : Ext (fun _ => False) w (w.alloc (.cells c T z)) ∧ (w.alloc (.cells c T z)).heap[w.heap.size]? = some (.cells c T z) := by
  refine ⟨Ext.alloc _ _ _, ?_⟩
  show (w.heap.push _)[w.heap.size]? = _
  simp

theorem rowAt_of_heap {w : World} {b : Nat} {pre c post : List Value} {T : TypeId} {z : Nat × Nat} (h : w.heap[b]? = some (.cells (pre ++ c ++ post).toArray T z)) : RowAt w b pre.length c := by
  intro i v hv
  have hi : i < c.length := (List.getElem?_eq_some_iff.1 hv).1
  simp only [World.cell?, h, Option.isSome_none, Bool.false_eq_true, if_false, List.getElem?_toArray]
  rw [List.append_assoc, List.getElem?_append_right (by omega), List.getElem?_append_left (by omega)]
  have : pre.length + i - pre.length = i := by omega
  rw [this, hv]

def hasIx : List Stp → Bool
  | [] => false
  | .ix _ _ :: _ => true
  | _ :: p => hasIx p

def szOf (P : Program) (T : TypeId) : Nat := match P.info? T with
  | some i => i.size
  | none => 0

/-- Data, shaped by a type. -/
def D.ty (P : Program) : Nat → TypeId → D → D
  | 0, _, y => y
  | f + 1, T, y => match P.underlying T with
    | some (.int k) => .int k y.toInt
    | some .bool => .bool y.toBool
    | some .string => .str y.toStr
    | some (.array n e) => .arr n (szOf P e) y.els
    | some (.struct fields) => .st (fields.toList.zipIdx.map fun p => D.ty P f p.1.type (y.fld p.2))
    | some (.slice _) => .sl y.els
    | _ => y

/-- What is read at a place of a thing. -/
def objNav (P : Program) (T : TypeId) (x : AObj) (p : List Stp) : Option (Prop × AV) :=
  match x with
  | .var x => match x.nav p with
    | some (s, .d y) => bif hasIx p then some ((s ∧ y = D.ty P 8 T y), .d (D.ty P 8 T y)) else some (s, .d y)
    | some (s, y) => some (s, y)
    | none => none
  | .row e xs => match p with
    | .ix i e' :: p => bif e.beq e' then match D.nav (xs.getD i .nilp) p with
        | some (s, y) => some (((i < xs.length ∧ s) ∧ y = D.ty P 8 T y), .d (D.ty P 8 T y))
        | none => none
      else none
    | _ => none
  | .dead => none

theorem objNav_rep {P : Program} {T : TypeId} {x : AObj} {p : List Stp} {y : AV} {s : Prop} (h : objNav P T x p = some (s, y)) (hs : s) {ρ : Nat → Option Nat} {X : Nat → Prop} {w : World} {o : Nat} (ho : ObjAt ρ X w o x) :
    ∃ b pre c post T' z, ρ o = some b ∧ w.heap[b]? = some (.cells (pre ++ c ++ post).toArray T' z) ∧ pre.length = pOff p ∧ RepC ρ X w y c := by
  cases x with
  | dead => cases h
  | var x =>
    obtain ⟨b, cs, T', z, h0, h1, _, h3⟩ := ho
    simp only [objNav] at h
    split at h
    · rename_i s' y' hn
      have hy : s' ∧ y = .d y' := by
        cases hi : hasIx p <;> simp only [hi, cond_true, cond_false, Option.some.injEq, Prod.mk.injEq] at h
        · obtain ⟨rfl, rfl⟩ := h; exact ⟨hs, rfl⟩
        · obtain ⟨rfl, rfl⟩ := h; exact ⟨hs.1, by rw [← hs.2]⟩
      obtain ⟨hs', rfl⟩ := hy
      obtain ⟨pre, c, post, e1, e2, e3⟩ := AV.nav_rep hn hs' h3
      exact ⟨b, pre, c, post, T', z, h0, by rw [← e1]; exact h1, e2, e3⟩
    · rename_i s' y' _ hn
      cases h
      obtain ⟨pre, c, post, e1, e2, e3⟩ := AV.nav_rep hn hs h3
      exact ⟨b, pre, c, post, T', z, h0, by rw [← e1]; exact h1, e2, e3⟩
    · cases h
  | row e xs =>
    simp only [objNav] at h
    split at h <;> try (cases h; done)
    rename_i i e' p'
    cases hb : e.beq e' <;> simp only [hb, cond_true, cond_false] at h <;> try (cases h; done)
    have he := Nat.eq_of_beq_eq_true hb
    subst he
    split at h <;> try (cases h; done)
    rename_i s' y' hn
    cases h
    obtain ⟨⟨hi, hs'⟩, hy⟩ := hs
    rw [← hy]
    rcases ho with ⟨_, h0⟩ | ⟨b, cs, rest, T', z, h0, h1, _, h3, h4⟩
    · rw [h0] at hi; cases hi
    have hx : xs[i]? = some (xs.getD i .nilp) := by
      rw [List.getD_eq_getElem?_getD, List.getElem?_eq_getElem (by omega)]; rfl
    obtain ⟨pre, c, post, e1, e2, e3, _⟩ := RepL.get h3 hx
    obtain ⟨pre', c', post', f1, f2, f3⟩ := D.nav_rep hn hs' e3
    refine ⟨b, pre ++ pre', c', post' ++ post ++ rest, T', z, h0, ?_, ?_, .d f3⟩
    · rw [h1, e1, f1]; simp
    · rw [List.length_append, e2, f2, D.sizes_const _ (fun y hy => h4 y (List.mem_of_mem_take hy)), List.length_take, Nat.min_eq_left (by omega)]
      rfl

/-- No reference. -/
def AV.plain : AV → Bool
  | .tup _ => false
  | .top => false
  | _ => true

theorem repA_of_c {ρ : Nat → Option Nat} {X : Nat → Prop} {w : World} {y : AV} {cs : List Value} (h : RepC ρ X w y cs) : RepA ρ X w y (wrapV y.isAgg cs) := by
  cases h with
  | top _ => trivial
  | d h => exact ⟨cs, .d h, rfl⟩
  | ptr p h => exact ⟨_, .ptr p h, rfl⟩
  | sl h0 h1 h2 h3 h4 => exact ⟨_, .sl h0 h1 h2 h3 h4, rfl⟩
  | slnil h => exact ⟨_, .slnil h, rfl⟩
  | st h => exact ⟨_, .st h, rfl⟩
  | dptr h1 h2 h3 h4 => exact ⟨_, .dptr h1 h2 h3 h4, rfl⟩
  | fn h => exact ⟨_, .fn h, rfl⟩
  | cst h => exact ⟨_, .cst h, rfl⟩

theorem repA_cells {ρ : Nat → Option Nat} {X : Nat → Prop} {w : World} {y : AV} {v : Value} (hp : y.plain = true) (h : RepA ρ X w y v) : ∃ cs, RepC ρ X w y cs ∧ v = wrapV y.isAgg cs ∧ v.cells.toList = cs := by
  have key : RepA1 ρ X w y v := by cases y <;> first | exact h | cases hp
  obtain ⟨cs, h1, h2⟩ := key
  refine ⟨cs, h1, h2, ?_⟩
  subst h2
  cases h1 with
  | d h1 => exact wrapV_cells h1
  | st _ => simp [wrapV, AV.isAgg, Value.cells]
  | top _ => cases hp
  | cst k =>
    rename_i v
    show (Value.cells v).toList = [v]
    cases v <;> first | rfl | cases k
  | _ => simp [wrapV, AV.isAgg, Value.cells]

theorem AV.nav_names : ∀ {p : List Stp} {x y : AV} {s : Prop}, AV.nav x p = some (s, y) → ∀ n, n ∈ y.names → n ∈ x.names := by
  intro p
  induction p with
  | nil =>
    intro x y s h n hn
    have : x = y := by cases x <;> simp only [AV.nav, Option.some.injEq, Prod.mk.injEq] at h <;> exact h.2
    rw [this]; exact hn
  | cons st p ih =>
    intro x y s h n hn
    cases x with
    | d x =>
      simp only [AV.nav] at h
      split at h <;> try (cases h)
      cases hn
    | st fs =>
      cases st <;> simp only [AV.nav] at h <;> try (cases h)
      rename_i i off
      cases hb : (AV.sizes (fs.take i)).beq off <;> simp only [hb, cond_true, cond_false] at h <;> try (cases h)
      split at h <;> try (cases h)
      rename_i z hz
      have h1 := ih h n hn
      simp only [AV.names]
      clear h hb ih
      induction fs generalizing i with
      | nil => simp at hz
      | cons a l ihl =>
        simp only [AV.namesL, List.mem_append]
        cases i with
        | zero => simp only [List.getElem?_cons_zero, Option.some.injEq] at hz; subst hz; exact .inl h1
        | succ i => simp only [List.getElem?_cons_succ] at hz; exact .inr (ihl i hz)
    | _ => cases st <;> simp only [AV.nav] at h <;> cases h

theorem objNav_names {P : Program} {T : TypeId} {x : AObj} {p : List Stp} {y : AV} {s : Prop} (h : objNav P T x p = some (s, y)) : ∀ n, n ∈ y.names → n ∈ x.names := by
  cases x with
  | dead => cases h
  | var x =>
    simp only [objNav] at h
    split at h
    · cases hi : hasIx p <;> simp only [hi, cond_true, cond_false, Option.some.injEq, Prod.mk.injEq] at h <;> (obtain ⟨_, rfl⟩ := h; intro n hn; cases hn)
    · rename_i hn; cases h; exact AV.nav_names hn
    · cases h
  | row e xs =>
    simp only [objNav] at h
    split at h <;> try (cases h; done)
    rename_i i e' p'
    cases hb : e.beq e' <;> simp only [hb, cond_true, cond_false] at h <;> try (cases h; done)
    split at h <;> try (cases h; done)
    cases h; intro n hn; cases hn

def aLoad (P : Program) (T : TypeId) (hp : Nat → Option AObj) : AV → Option Res
  | .ptr o p => match hp o with
    | some x => match objNav P T x p with
      | some (s, y) => bif tyOK P T y.size y.isAgg then some ⟨s, y, []⟩ else none
      | none => none
    | none => none
  | .dptr x => bif tyOK P T x.size x.isAgg then some ⟨True, .d x, []⟩ else none
  | _ => none

theorem notAgg_size {ρ : Nat → Option Nat} {X : Nat → Prop} {w : World} {y : AV} {cs : List Value} (h : RepC ρ X w y cs) (ha : y.isAgg = false) : cs.length = 1 := by
  cases h with
  | d h => rw [h.length]; cases h <;> first | rfl | cases ha
  | st _ => cases ha
  | _ => rfl

theorem run_map {P : Program} {s : Sem Value} {w w' : World} {v : Value} (h : s.run P w = .ok v w') : (do pure (Next.value (← s)) : Sem Next).run P w = .ok (.value v) w' := by
  rw [run_bind_ok h]; rfl

theorem aLoad_sound {P : Program} {T : TypeId} {o : Oper} {x : Operand} {S : St} {res : Res} {hp : Nat → Option AObj} (hle : ∀ n x, hp n = some x → S.hp n = some x) (ho : o.op = .load T x) (h : aLoad P T hp (S.ev x) = some res) (hside : res.side) :
    StepsTo P o S (S.upd o.dst res.r res.ws) := by
  have key : res.ws = [] ∧ ∀ (ρ : Nat → Option Nat) (X : Nat → Prop) (a : Act) (w : World), Sim S ρ X a w → ∃ v, (execOp a.eval o).run P w = .ok (.value v) w ∧ RepA ρ X w res.r v ∧ ∀ n, n ∈ res.r.names → S.hp n ≠ none := by
    cases hx : S.ev x <;> rw [hx] at h <;> simp only [aLoad] at h <;> try (cases h; done)
    · rename_i n p
      split at h <;> try (cases h; done)
      rename_i obj hobj
      split at h <;> try (cases h; done)
      rename_i s y hn
      cases ht : tyOK P T y.size y.isAgg <;> simp only [ht, cond_true, cond_false] at h <;> try (cases h; done)
      cases h
      refine ⟨rfl, fun ρ X a w hs => ?_⟩
      have he := hs.ev x
      rw [hx] at he
      obtain ⟨b, hb0, hv⟩ := repA_ptr he
      obtain ⟨b', pre, c, post, T', z, h0, h1, h2, h3⟩ := objNav_rep hn hside (hs.objs n obj (hle _ _ hobj))
      rw [hb0] at h0; cases h0
      have hrow := rowAt_of_heap h1
      rw [h2] at hrow
      have hl : c.length = y.size := h3.length
      refine ⟨wrapV y.isAgg c, ?_, repA_of_c h3, fun m hm => hs.closedH n obj (hle _ _ hobj) m (objNav_names hn m hm)⟩
      simp only [execOp, ho]
      refine run_map ?_
      simp only [Instr.loadAt, hv, Instr.sureAddr]
      exact run_loadVar hrow (by rw [hl]; exact ht) (fun hag => notAgg_size h3 hag)
    · rename_i y
      cases ht : tyOK P T y.size y.isAgg <;> simp only [ht, cond_true, cond_false] at h <;> try (cases h; done)
      cases h
      refine ⟨rfl, fun ρ X a w hs => ?_⟩
      have he := hs.ev x
      rw [hx] at he
      obtain ⟨b, q, cs, hv, h1, h2, h3, h4⟩ := repA_dptr he
      refine ⟨wrapV y.isAgg cs, ?_, repA_mk h4, fun m hm => by cases hm⟩
      simp only [execOp, ho]
      refine run_map ?_
      simp only [Instr.loadAt, hv, Instr.sureAddr]
      exact run_loadVar h3 (by rw [h4.length]; exact ht) (fun hag => notAgg_size (ρ := ρ) (.d h4) hag)
  rw [key.1]
  exact steps_value key.2

def aStore (P : Program) (T : TypeId) (hp : Nat → Option AObj) : AV → AV → Option Res
  | .ptr o p, v => bif tyOK P T v.size v.isAgg && v.plain then match hp o with
    | some (.var x) => match x.set p v with
      | some (s, z) => some ⟨s, .top, [(o, .var z)]⟩
      | none => none
    | some (.row e xs) => match p, v with
      | [.ix i e'], .d y => bif e.beq e' && y.size.beq e then some ⟨i < xs.length, .top, [(o, .row e (xs.set i y))]⟩ else none
      | _, _ => none
    | _ => none
    else none
  | _, _ => none

end Go.Sym
