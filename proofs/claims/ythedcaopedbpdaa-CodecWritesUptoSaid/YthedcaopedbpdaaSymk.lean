/-
What an operation that calls nothing does to what a frame holds, eighth part: append.
-/
import Derived.Test.YthedcaopedbpdaaSymj
import Derived.Laws.Append
namespace Go.Sym

theorem nextslicecap_room {need old : Nat} (h : old < need) : Builtin.nextslicecap need old ≤ need + need / 4 + 512 := by
  unfold Builtin.nextslicecap
  split
  · omega
  · split
    · omega
    · rw [growBy_four]
      repeat' split
      all_goals omega

/-- There is room for so many elements. -/
def Room (n bytes : Nat) : Prop := (n + n / 4 + 512) * bytes ≤ 281474976710656

structure AppTy (P : Program) (T T2 : TypeId) where
  el : TypeId
  i : TypeInfo
  z : Value
  u : P.underlying T = some (.slice el)
  hi : P.info? el = some i
  hz : i.zero = some z
  hsz : z.cells.size = i.size
  hne : i.size ≠ 0
  hby : i.bytes ≠ 0
  d2 : TypeDesc
  u2 : P.underlying T2 = some d2
  ni : ∀ k, d2 ≠ .int k

def isIntTy : TypeDesc → Bool
  | .int _ => true
  | _ => false

def appTy (P : Program) (T T2 : TypeId) : Option (Nat × Nat) :=
  match P.underlying T, P.underlying T2 with
  | some (.slice el), some d2 => match P.info? el with
    | some i => match i.zero with
      | some z => bif z.cells.size.beq i.size && !i.size.beq 0 && !i.bytes.beq 0 && !isIntTy d2 then some (i.size, i.bytes) else none
      | none => none
    | none => none
  | _, _ => none

theorem appTy_spec {P : Program} {T T2 : TypeId} {e b : Nat} (h : appTy P T T2 = some (e, b)) : ∃ t : AppTy P T T2, t.i.size = e ∧ t.i.bytes = b := by
  unfold appTy at h
  split at h <;> try (cases h; done)
  rename_i el d2 hu hu2
  split at h <;> try (cases h; done)
  rename_i i hi
  split at h <;> try (cases h; done)
  rename_i z hz
  cases hb : z.cells.size.beq i.size && !i.size.beq 0 && !i.bytes.beq 0 && !isIntTy d2 <;> simp only [hb, cond_true, cond_false] at h <;> cases h
  simp only [Bool.and_eq_true, Bool.not_eq_true'] at hb
  refine ⟨⟨el, i, z, hu, hi, hz, Nat.eq_of_beq_eq_true hb.1.1.1, fun e => ?_, fun e => ?_, d2, hu2, fun k e => ?_⟩, rfl, rfl⟩
  · rw [e] at hb; cases hb.1.1.2
  · rw [e] at hb; cases hb.1.2
  · rw [e] at hb; cases hb.2

theorem zeroCells_size (z : Array Value) (n : Nat) : (Builtin.zeroCells z n).size = n * z.size := by simp [Builtin.zeroCells]

section
variable {P : Program}

/-- The front of append: what it asks of the types. -/
theorem run_append_front {T T2 ty : TypeId} (t : AppTy P T T2) {base : Option Addr} {sLen sCap n : Nat} {x : Value} {w : World} (hlen : (Builtin.lenOf x).run P w = .ok n w) :
    (Builtin.append_ #[T, T2] ty #[.slice base sLen sCap, x]).run P w =
      (if sLen + n ≤ sCap then (do
        let new ← Builtin.firstCells t.i.size n x
        if let some a := base then storeCells (a.add (sLen * t.i.size)) new.toList
        pure (.slice base (sLen + n) sCap) : Sem Value)
      else (do
        if ((sLen + n : Nat) : Int) > IntKind.i64.max ∧ (false = true ∨ (← typeInfo t.el).bytes = 0) then runtimePanic (.error "growslice: len out of range")
        if Builtin.nextslicecap (sLen + n) sCap * (← typeInfo t.el).bytes > 2 ^ 48 then (if false = true then runtimePanic (.error "growslice: len out of range") else do
          if !(← Builtin.mayShare t.i.size sLen n base x) then mark .noRoom
          unsupported (.resourceLimit "append: a slice or a string whose bytes no memory bears"))
        let newCap ← choose (.appendCap (sLen + n) sCap t.el)
        askRoom (newCap * (← typeInfo t.el).bytes)
        let old ← Builtin.firstCells t.i.size sLen (.slice base sLen sCap)
        let new ← Builtin.firstCells t.i.size n x
        let rest := Builtin.zeroCells (← zeroValue t.el).cells (newCap - (sLen + n))
        pure (.slice (some (← newRow t.el (old ++ new ++ rest))) (sLen + n) newCap) : Sem Value)).run P w := by
  have hsz : (sizeOf t.el).run P w = .ok t.i.size w := by
    simp only [sizeOf, typeInfo, program]
    simp [Sem.run, Sem.run_bind, t.hi]
  simp only [Builtin.append_]
  rw [show (#[T, T2] : Array TypeId)[0]? = some T from rfl, show (#[T, T2] : Array TypeId)[1]? = some T2 from rfl, show (#[Value.slice base sLen sCap, x] : Array Value)[0]? = some (.slice base sLen sCap) from rfl,
    show (#[Value.slice base sLen sCap, x] : Array Value)[1]? = some x from rfl]
  simp only []
  rw [run_bind_ok (run_underlying t.u w)]
  simp only []
  rw [run_bind_ok hsz, run_bind_ok (run_underlying t.u2 w)]
  cases hd : t.d2
  all_goals (try exact absurd hd (t.ni _))
  all_goals
    rw [run_bind_ok (run_pure _ w)]
    simp only [Bool.false_eq_true, if_false, Bool.not_false, if_true]
    rw [run_bind_ok hlen]
    split <;> rfl

theorem run_askRoom (n : Nat) (w : World) : (askRoom n).run P w = .ok () w := by
  unfold askRoom
  split
  · simp [mark, Sem.run]
  · rfl

theorem run_append_grows {T T2 ty : TypeId} (t : AppTy P T T2) {base : Option Addr} {sLen sCap n : Nat} {x : Value} {w : World} {olds news : Array Value} (hlen : (Builtin.lenOf x).run P w = .ok n w)
    (hold : (Builtin.firstCells t.i.size sLen (.slice base sLen sCap)).run P w.drew = .ok olds w.drew) (hnew : (Builtin.firstCells t.i.size n x).run P w.drew = .ok news w.drew)
    (hg : sCap < sLen + n) (hroom : Room (sLen + n) t.i.bytes) :
    (Builtin.append_ #[T, T2] ty #[.slice base sLen sCap, x]).run P w =
      .ok (.slice (some ⟨w.heap.size, 0, none⟩) (sLen + n) (grownCap w (sLen + n) sCap t.el))
        (w.drew.alloc (.cells (olds ++ news ++ Builtin.zeroCells t.z.cells (grownCap w (sLen + n) sCap t.el - (sLen + n))) t.el)) := by
  have hti : ∀ w : World, (typeInfo t.el).run P w = .ok t.i w := fun w => by
    simp only [typeInfo, program]
    simp [Sem.run, Sem.run_bind, t.hi]
  have hzv : ∀ w : World, (zeroValue t.el).run P w = .ok t.z w := fun w => by
    simp only [zeroValue, typeInfo, program]
    simp [Sem.run, Sem.run_bind, t.hi, t.hz]
  have h48 : ¬ (Builtin.nextslicecap (sLen + n) sCap * t.i.bytes > 2 ^ 48) := by
    have h1 := nextslicecap_room hg
    have h2 : Builtin.nextslicecap (sLen + n) sCap * t.i.bytes ≤ (sLen + n + (sLen + n) / 4 + 512) * t.i.bytes := Nat.mul_le_mul_right _ h1
    have h3 : (sLen + n + (sLen + n) / 4 + 512) * t.i.bytes ≤ 281474976710656 := hroom
    omega
  rw [run_append_front t hlen, if_neg (by omega)]
  rw [run_bind_ok (hti w)]
  rw [if_neg (fun h => h.2.elim (fun h => nomatch h) t.hby)]
  dsimp only
  rw [run_bind_ok (hti w), if_neg h48]
  have hch : (choose (.appendCap (sLen + n) sCap t.el)).run P w = .ok (grownCap w (sLen + n) sCap t.el) w.drew := by
    simp [choose, Sem.run, Question.forced, grownCap]
  rw [run_bind_ok hch, run_bind_ok (hti _), run_bind_ok (run_askRoom _ _), run_bind_ok hold, run_bind_ok hnew, run_bind_ok (hzv _)]
  simp only [newRow]
  rfl

end

def appEls (hp : Nat → Option AObj) : AV → Option (Prop × List D)
  | .d (.str s) => some (True, s.data.toList.map fun b => .int .u8 b.toNat)
  | x => elsOf hp x

theorem RepL.bytes {X : Nat → Prop} {w : World} : ∀ (l : List UInt8), RepL X w (l.map fun b => D.int .u8 b.toNat) (l.map fun b => Value.int .u8 b.toNat)
  | [] => .nil
  | b :: l => by
    have := RepL.cons (.int .u8 b.toNat : RepD X w _ _) (RepL.bytes (X := X) (w := w) l)
    exact this

theorem appEls_rep {P : Program} {S : St} {ρ : Nat → Option Nat} {X : Nat → Prop} {a : Act} {w : World} (hs : Sim S ρ X a w) {x : AV} {s : Prop} {ys : List D} {hp : Nat → Option AObj} (hle : ∀ n x, hp n = some x → S.hp n = some x) (h : appEls hp x = some (s, ys)) (hside : s) {v : Value}
    (hv : RepA ρ X w x v) {e : Nat} (he : ∀ y, y ∈ ys → y.size = e) :
    ∃ cs : List Value, (Builtin.lenOf v).run P w = .ok ys.length w ∧ (∀ d, (Builtin.firstCells e ys.length v).run P { w with drawn := d } = .ok cs.toArray { w with drawn := d }) ∧ RepL X w ys cs := by
  by_cases hx : ∃ t, x = .d (.str t)
  · obtain ⟨t, rfl⟩ := hx
    cases h
    have := repA_str hv
    subst this
    have hl : (t.data.toList.map fun b => (D.int .u8 b.toNat : D)).length = t.size := by simp
    rw [hl]
    refine ⟨t.data.toList.map fun b => .int .u8 b.toNat, ?_, fun d => ?_, RepL.bytes _⟩
    · rfl
    · simp only [Builtin.firstCells, run_pure]
      congr 1
      have : t.extract 0 t.size = t := by simp
      rw [this]
      apply Array.ext'
      simp
  · have h : elsOf hp x = some (s, ys) := by
      unfold appEls at h
      split at h
      · exact absurd ⟨_, rfl⟩ hx
      · exact h
    rcases elsOf_rep hs hle h hside hv with ⟨rfl, ad, cap, rfl⟩ | ⟨b, q, cap, cs, e', rfl, h2, h3, h4, _, _⟩
    · refine ⟨[], rfl, fun d => ?_, .nil⟩
      have h0 : ([] : List D).length * e = 0 := by simp
      cases ad with
      | none => rfl
      | some ad => simp only [Builtin.firstCells]; rw [h0]; rfl
    · refine ⟨cs, rfl, fun d => ?_, h3⟩
      simp only [Builtin.firstCells]
      have hl : ys.length * e = cs.length := by rw [h3.length, D.sizes_const ys he]
      rw [hl]
      exact run_loadCells (w := { w with drawn := d }) h2

def aAppend (P : Program) (nm : Nat) (tys : Array TypeId) (hp : Nat → Option AObj) (s x : AV) : Option Res :=
  match tys[0]?, tys[1]? with
  | some T, some T2 => match appTy P T T2, appEls hp x with
    | some (e, bytes), some (sd, ys) => match s with
      | .d .nils => some ⟨(sd ∧ Room ys.length bytes) ∧ ∀ y, y ∈ ys → y.size = e, .sl nm [] e 0 ys.length, [(nm, .row e ys)]⟩
      | .sl o [] e' 0 len => match hp o with
        | some (.row e'' xs) => bif e'.beq e && e''.beq e then some ⟨(sd ∧ len = xs.length ∧ Room (xs ++ ys).length bytes) ∧ ∀ y, y ∈ ys → y.size = e, .sl nm [] e 0 (xs ++ ys).length, [(nm, .row e (xs ++ ys)), (o, .dead)]⟩ else none
        | _ => none
      | _ => none
    | _, _ => none
  | _, _ => none

/-- What was owned under one name is owned under another one. -/
theorem Sim.moved {S : St} {ρ : Nat → Option Nat} {X Y : Nat → Prop} {a : Act} {w w' : World} (hs : Sim S ρ X a w) {nm : Nat} {x : AObj} {ws : List (Nat × AObj)} {dst : Option Tmp} {r : AV} {v : Value} {nb : Option Nat}
    (hf : S.hp nm = none) (hlk : ∀ n y, lkp ws n = some y → (n = nm ∧ y = x) ∨ (y = .dead ∧ S.hp n ≠ none)) (hnmw : lkp ws nm = some x)
    (hext : Ext Y w w') (hY : ∀ b, Y b → ∃ o y, lkp ws o ≠ none ∧ S.hp o = some y ∧ y.alive = true ∧ ρ o = some b)
    (hnb : ∀ b, nb = some b → w.heap.size ≤ b ∨ ∃ o y, lkp ws o ≠ none ∧ S.hp o = some y ∧ y.alive = true ∧ ρ o = some b)
    (hobj : ∀ ρ' X', Goes ρ ρ' X X' Y w w' → ρ' nm = nb → ObjAt ρ' X' w' nm x)
    (hn : ∀ n, n ∈ x.names → S.hp n ≠ none)
    (hr : ∀ ρ' X', Goes ρ ρ' X X' Y w w' → ρ' nm = nb → RepA ρ' X' w' r v) (hrn : ∀ n, n ∈ r.names → S.hp n ≠ none ∨ n = nm) :
    ∃ ρ' X', Sim (S.upd dst r ws) ρ' X' (a.put dst v) w' ∧ Evo S (S.upd dst r ws) ρ ρ' X X' w w' := by
  let ρ' : Nat → Option Nat := fun m => bif nm.beq m then nb else ρ m
  let X' : Nat → Prop := fun c => (nb = some c ∧ w.heap.size ≤ c) ∨ X c
  have hρ : ∀ n, n ≠ nm → ρ' n = ρ n := fun n h => by
    simp only [ρ']
    cases hb : nm.beq n with
    | true => exact absurd (Nat.eq_of_beq_eq_true hb).symm h
    | false => rfl
  have hρn : ρ' nm = nb := by simp [ρ']
  have hne : ∀ n, S.hp n ≠ none → n ≠ nm := fun n h e => h (by rw [e]; exact hf)
  have hX : ∀ b, b < w.heap.size → (X' b ↔ X b) := fun b hb => ⟨fun h => h.elim (fun h => by omega) id, .inr⟩
  have hYX : ∀ b, Y b → X b := fun b hb => by obtain ⟨o, y, _, h2, h3, h4⟩ := hY b hb; exact hs.own o y b h2 h3 h4
  have g : Goes ρ ρ' X X' Y w w' := ⟨hext, fun b _ hx hy => hx (hYX b hy), fun b hb h => (hX b hb).1 h⟩
  refine ⟨ρ', X', hs.step (Y := Y) hext (fun b hb => ?_) (fun n h => hρ n (hne n h)) (fun b hb h => (hX b hb).1 h) (fun o x b _ h1 h2 h3 => (hX b ((hs.objs o x h1).lt h2 h3)).2 (hs.own o x b h1 h2 h3)) ?_ ?_ ?_ ?_ ?_ (hr ρ' X' g hρn) (fun n h => ?_), ?_⟩
  · obtain ⟨o, y, h1, h2, h3, h4⟩ := hY b hb
    cases hl : lkp ws o with
    | none => exact absurd hl h1
    | some y' => exact ⟨o, y, y', hl, h2, h3, h4⟩
  · intro o y h
    rcases hlk o y h with ⟨rfl, rfl⟩ | ⟨rfl, _⟩
    · exact hobj ρ' X' g hρn
    · trivial
  · intro o y b h ha hb
    rcases hlk o y h with ⟨rfl, rfl⟩ | ⟨rfl, _⟩
    · rw [hρn] at hb
      rcases hnb b hb with h1 | ⟨o', y', _, h2, h3, h4⟩
      · exact .inl ⟨hb, h1⟩
      · exact .inr (hs.own o' y' b h2 h3 h4)
    · cases ha
  · intro o y o' y' b h ha h' ha' _ _
    rcases hlk o y h with ⟨rfl, rfl⟩ | ⟨rfl, _⟩
    · rcases hlk o' y' h' with ⟨rfl, rfl⟩ | ⟨rfl, _⟩
      · rfl
      · cases ha'
    · cases ha
  · intro o y o' y' b h ha h' hy' ha' hb hb'
    rcases hlk o y h with ⟨rfl, rfl⟩ | ⟨rfl, _⟩
    · rw [hρn] at hb
      rcases hnb b hb with h1 | ⟨o2, y2, h1, h2, h3, h4⟩
      · have := (hs.objs o' y' hy').lt ha' hb'; omega
      · have := hs.inj _ _ _ _ _ h2 h3 hy' ha' h4 hb'
        subst this; exact h1 h'
    · cases ha
  · intro o y h n hn'
    rcases hlk o y h with ⟨rfl, rfl⟩ | ⟨rfl, _⟩
    · exact .inl (hn n hn')
    · cases hn'
  · rcases hrn n h with h | h
    · exact .inl h
    · subst h; exact .inr (by rw [hnmw]; simp)
  · refine ⟨hext.mono fun b _ hb => ?_, fun b hb => ⟨(hX b hb).1, fun h => .inl ((hX b hb).2 h)⟩, fun o y b hy hay hb => ?_, fun n h => hρ n (hne n h)⟩
    · obtain ⟨o, y, _, h2, h3, h4⟩ := hY b hb; exact ⟨o, y, h2, h3, h4⟩
    · rw [St.hp_upd] at hy
      cases hl : lkp ws o with
      | some y' =>
        simp only [hl, Option.some.injEq] at hy; subst hy
        rcases hlk o y' hl with ⟨rfl, rfl⟩ | ⟨rfl, _⟩
        · rw [hρn] at hb
          rcases hnb b hb with h1 | ⟨o', z, _, h2, h3, h4⟩
          · exact .inl h1
          · exact .inr ⟨o', z, h2, h3, h4⟩
        · cases hay
      | none =>
        simp only [hl] at hy
        rw [hρ o (hne o (by rw [hy]; simp))] at hb
        exact .inr ⟨o, y, hy, hay, hb⟩

theorem steps_own {P : Program} {o : Oper} {S S' : St}
    (h : ∀ (ρ : Nat → Option Nat) (X : Nat → Prop) (a : Act) (w : World), Sim S ρ X a w → ∃ v w', (execOp a.eval o).run P w = .ok (.value v) w' ∧ ∃ ρ' X', Sim S' ρ' X' (a.put o.dst v) w' ∧ Evo S S' ρ ρ' X X' w w') :
    StepsTo P o S S' := by
  intro ρ X a w hs
  obtain ⟨v, w', hv, hr⟩ := h ρ X a w hs
  unfold Does
  rw [hv]
  exact hr

theorem grownCap_ge (w : World) (need old : Nat) (e : TypeId) : need ≤ grownCap w need old e := by
  show need ≤ need + _ % _
  omega

/-- The grown row. -/
theorem grown_end {P : Program} {T T2 : TypeId} (t : AppTy P T T2) {S : St} {ρ : Nat → Option Nat} {X : Nat → Prop} {a : Act} {w : World} (hs : Sim S ρ X a w) {nm : Nat} {ws : List (Nat × AObj)} {dst : Option Tmp} {zs : List D} {cs : List Value} {cap : Nat}
    (hf : S.hp nm = none) (hlk : ∀ n y, lkp ws n = some y → (n = nm ∧ y = .row t.i.size zs) ∨ (y = .dead ∧ S.hp n ≠ none)) (hnmw : lkp ws nm = some (.row t.i.size zs))
    (hrep : RepL X w zs cs) (he : ∀ y, y ∈ zs → y.size = t.i.size) (hcap : zs.length ≤ cap) :
    ∃ ρ' X', Sim (S.upd dst (.sl nm [] t.i.size 0 zs.length) ws) ρ' X' (a.put dst (.slice (some ⟨w.heap.size, 0, none⟩) zs.length cap)) (w.drew.alloc (.cells (cs.toArray ++ Builtin.zeroCells t.z.cells (cap - zs.length)) t.el)) ∧
      Evo S (S.upd dst (.sl nm [] t.i.size 0 zs.length) ws) ρ ρ' X X' w (w.drew.alloc (.cells (cs.toArray ++ Builtin.zeroCells t.z.cells (cap - zs.length)) t.el)) := by
  have hdr : Ext (fun _ => False) w w.drew := Ext.drew _ w
  obtain ⟨hext, hnew⟩ := alloc_new w.drew (cs.toArray ++ Builtin.zeroCells t.z.cells (cap - zs.length)) t.el (0, 0)
  have hext := hdr.trans hext
  have hnew : (w.drew.alloc (.cells (cs.toArray ++ Builtin.zeroCells t.z.cells (cap - zs.length)) t.el)).heap[w.heap.size]? = some (.cells (cs.toArray ++ Builtin.zeroCells t.z.cells (cap - zs.length)) t.el (0, 0)) := hnew
  have hcl : cs.length = zs.length * t.i.size := by rw [hrep.length, D.sizes_const zs he]
  refine hs.moved hf hlk hnmw (nb := some w.heap.size) hext (fun _ h => h.elim) (fun b hb => by cases hb; exact .inl (Nat.le_refl _)) (fun ρ' X' g hρ => ?_) (fun n hn => by cases hn) (fun ρ' X' g hρ => ?_) (fun n hn => by simp [AV.names] at hn; exact .inr hn)
  · refine .inr ⟨w.heap.size, cs, (Builtin.zeroCells t.z.cells (cap - zs.length)).toList, t.el, (0, 0), hρ, ?_, .inl (Nat.le_refl _), hrep.mono g.ext g.off g.own, he⟩
    rw [hnew]
    congr 2
    apply Array.ext'; simp
  · refine repA_of_c (.sl hρ hnew ?_ hcap (.inr (by simp [pOff])))
    rw [Array.size_append, zeroCells_size, t.hsz]
    simp only [pOff, List.size_toArray, Nat.zero_add]
    rw [hcl, ← Nat.add_mul]
    have : zs.length + (cap - zs.length) = cap := by omega
    rw [this]
    exact Nat.le_refl _

theorem aAppend_sound {P : Program} {tys : Array TypeId} {o : Oper} {s x : Operand} {S : St} {res : Res} {nm : Nat} {hp : Nat → Option AObj} (hle : ∀ n x, hp n = some x → S.hp n = some x) (ho : o.op = .call { callee := .builtin .append, args := #[s, x], argTypes := tys })
    (h2 : tys.size = 2) (h : aAppend P nm tys hp (S.ev s) (S.ev x) = some res) (hside : res.side) (hf : S.hp nm = none) : StepsTo P o S (S.upd o.dst res.r res.ws) := by
  unfold aAppend at h
  split at h <;> try (cases h; done)
  rename_i T T2 hT hT2
  have htys : tys = #[T, T2] := by
    apply Array.ext
    · simp [h2]
    · intro i h1 h3
      have : i = 0 ∨ i = 1 := by simp at h3; omega
      rcases this with rfl | rfl
      · have := (Array.getElem?_eq_some_iff.1 hT).2; simpa using this
      · have := (Array.getElem?_eq_some_iff.1 hT2).2; simpa using this
  subst htys
  split at h <;> try (cases h; done)
  rename_i e bytes sd ys hty hels
  obtain ⟨t, rfl, rfl⟩ := appTy_spec hty
  have key : ∀ {w w' : World} {ev : Operand → Value} {v : Value}, (Builtin.append_ #[T, T2] o.type #[ev s, ev x]).run P w = .ok v w' → (execOp ev o).run P w = .ok (.value v) w' := fun hr => by
    refine run_builtin ho ?_
    simp only [builtin, List.map_toArray, List.map_cons, List.map_nil]
    exact run_map hr
  have one : ∀ {y : AObj} (n : Nat) (z : AObj), lkp [(nm, y)] n = some z → n = nm ∧ z = y := fun n z h => by
    have := lkp_mem h
    simp at this
    exact this
  have two : ∀ {y : AObj} {m : Nat} (n : Nat) (z : AObj), lkp [(nm, y), (m, .dead)] n = some z → (n = nm ∧ z = y) ∨ (n = m ∧ z = .dead) := fun n z h => by
    have := lkp_mem h
    simp at this
    exact this
  have self : ∀ {y : AObj} {l : List (Nat × AObj)}, lkp ((nm, y) :: l) nm = some y := by intro y l; simp [lkp]
  split at h <;> try (cases h; done)
  · rename_i hsx
    cases h
    obtain ⟨⟨hsd, hroom⟩, hsz⟩ := hside
    refine steps_own fun ρ X a w hs => ?_
    have hes := hs.ev s
    rw [hsx] at hes
    have hsv : a.eval s = .slice none 0 0 := by
      obtain ⟨cs, h1, h2⟩ := repA_d hes
      cases h1; exact h2
    obtain ⟨cs, hl, hc, hrep⟩ := appEls_rep (P := P) hs hle hels hsd (hs.ev x) hsz
    by_cases hn : ys.length = 0
    · have hys : ys = [] := List.eq_nil_of_length_eq_zero hn
      subst hys
      refine ⟨.slice none 0 0, w, key ?_, ?_⟩
      · rw [hsv, run_append_front t hl, if_pos (by simp)]
        rw [run_bind_ok (hc w.drawn)]
        rfl
      · refine hs.moved hf (fun n y h => .inl (one n y h)) self (nb := none) (Ext.refl (fun _ => False) w) (fun _ h => h.elim) (fun _ h => by cases h) (fun ρ' X' g hρ => .inl ⟨hρ, rfl⟩) (fun n hn => by cases hn)
          (fun ρ' X' g hρ => repA_of_c (.slnil hρ)) (fun n hn => by simp [AV.names] at hn; exact .inr hn)
    · have hrun := run_append_grows (ty := o.type) (base := none) (sLen := 0) (sCap := 0) t hl (olds := #[]) rfl (hc _) (by omega) (by simpa using hroom)
      rw [← hsv] at hrun
      refine ⟨_, _, key hrun, ?_⟩
      · simp only [Nat.zero_add, Array.empty_append]
        exact grown_end t hs hf (fun n y h => .inl (one n y h)) self hrep hsz (grownCap_ge _ _ _ _)
  · rename_i m e' len hsx
    split at h <;> try (cases h; done)
    rename_i e'' xs hm
    have hm := hle _ _ hm
    cases hb : e'.beq t.i.size && e''.beq t.i.size <;> simp only [hb, cond_true, cond_false] at h <;> cases h
    simp only [Bool.and_eq_true] at hb
    have he1 := Nat.eq_of_beq_eq_true hb.1
    have he2 := Nat.eq_of_beq_eq_true hb.2
    subst he1; subst he2
    obtain ⟨⟨hsd, rfl, hroom⟩, hsz⟩ := hside
    refine steps_own fun ρ X a w hs => ?_
    have hes := hs.ev s
    rw [hsx] at hes
    obtain ⟨cs, hl, hc, hrep⟩ := appEls_rep (P := P) hs hle hels hsd (hs.ev x) hsz
    have hdeadm : ∀ (n : Nat) (y : AObj), lkp [(nm, AObj.row t.i.size (xs ++ ys)), (m, AObj.dead)] n = some y → (n = nm ∧ y = AObj.row t.i.size (xs ++ ys)) ∨ (y = AObj.dead ∧ S.hp n ≠ none) := fun n y h => by
      rcases two n y h with h | ⟨rfl, rfl⟩
      · exact .inl h
      · exact .inr ⟨rfl, by rw [hm]; simp⟩
    have hmne : m ≠ nm := fun e => by rw [e, hf] at hm; cases hm
    have hlm : lkp [(nm, AObj.row t.i.size (xs ++ ys)), (m, .dead)] m ≠ none := by
      simp only [lkp]
      cases hb : nm.beq m with
      | true => exact absurd (Nat.eq_of_beq_eq_true hb).symm hmne
      | false => simp
    rcases repA_sl hes with ⟨g0, gl, g1⟩ | ⟨b, cap, q, c, T', z, g0, g1, g2, g3, g4, g5⟩
    · -- it is nil
      have hxs : xs = [] := List.eq_nil_of_length_eq_zero gl
      subst hxs
      simp only [List.nil_append] at *
      by_cases hn : ys.length = 0
      · have hys : ys = [] := List.eq_nil_of_length_eq_zero hn
        subst hys
        refine ⟨.slice none 0 0, w, key ?_, ?_⟩
        · rw [g1, run_append_front t hl, if_pos (by simp)]
          rw [run_bind_ok (hc w.drawn)]
          rfl
        · refine hs.moved hf hdeadm self (nb := none) (Ext.refl (fun _ => False) w) (fun _ h => h.elim) (fun _ h => by cases h) (fun ρ' X' g hρ => .inl ⟨hρ, rfl⟩) (fun n hn => by cases hn)
            (fun ρ' X' g hρ => repA_of_c (.slnil hρ)) (fun n hn => by simp [AV.names] at hn; exact .inr hn)
      · have hrun := run_append_grows (ty := o.type) (base := none) (sLen := 0) (sCap := 0) t hl (olds := #[]) rfl (hc _) (by omega) (by simpa using hroom)
        rw [← g1] at hrun
        refine ⟨_, _, key hrun, ?_⟩
        · simp only [Nat.zero_add, Array.empty_append]
          exact grown_end t hs hf hdeadm self hrep hsz (grownCap_ge _ _ _ _)
    · rcases hs.objs m _ hm with ⟨k0, _⟩ | ⟨b', os, rest, T2', z2, k0, k1, k2, k3, k4⟩
      · rw [g0] at k0; cases k0
      rw [g0] at k0; cases k0
      have hol : os.length = xs.length * t.i.size := by rw [k3.length, D.sizes_const xs k4]
      have hcl : cs.length = ys.length * t.i.size := by rw [hrep.length, D.sizes_const ys hsz]
      have hall : ∀ y, y ∈ xs ++ ys → y.size = t.i.size := fun y hy => by
        rcases List.mem_append.1 hy with h | h
        · exact k4 y h
        · exact hsz y h
      have hq : cap ≠ 0 → q = 0 := fun hc0 => by
        rcases g5 with g5 | g5
        · exact absurd g5 hc0
        · simpa [pOff] using g5
      have hcsz : cap * t.i.size ≤ (os ++ rest).length := by
        rw [k1] at g2
        simp only [Option.some.injEq, Obj.cells.injEq] at g2
        obtain ⟨rfl, _, _⟩ := g2
        simpa [pOff] using g3
      by_cases hroomy : (xs ++ ys).length ≤ cap
      · -- there is room
        have hlen2 : xs.length + ys.length = (xs ++ ys).length := by simp
        by_cases hy0 : ys = []
        · subst hy0
          have hcs0 : cs = [] := List.eq_nil_of_length_eq_zero (by simpa using hcl)
          subst hcs0
          simp only [List.append_nil] at *
          refine ⟨.slice (some ⟨b, q, none⟩) xs.length cap, w, key ?_, ?_⟩
          · rw [g1, run_append_front t hl, if_pos (by simpa using hroomy), run_bind_ok (hc w.drawn)]
            rfl
          · refine hs.moved hf hdeadm self (nb := some b) (Ext.refl (fun _ => False) w) (fun _ h => h.elim) (fun b' h => ?_) (fun ρ' X' g hρ => ?_) (fun n hn => by cases hn)
              (fun ρ' X' g hρ => repA_of_c (.sl hρ g2 g3 g4 g5)) (fun n hn => by simp [AV.names] at hn; exact .inr hn)
            · cases h; exact .inr ⟨m, _, hlm, hm, rfl, g0⟩
            · exact .inr ⟨b, os, rest, T2', z2, hρ, k1, k2, k3.mono g.ext g.off g.own, k4⟩
        · have hy1 : 1 ≤ ys.length := by cases ys with | nil => exact absurd rfl hy0 | cons _ _ => simp
          have hq := hq (by simp at hroomy; omega)
          subst hq
          have hfit : cs.length ≤ rest.length := by
            have h1 : (xs.length + ys.length) * t.i.size ≤ cap * t.i.size := Nat.mul_le_mul_right _ (by simpa using hroomy)
            rw [Nat.add_mul] at h1
            simp at hcsz; omega
          have hstore := run_storeCells (P := P) (b := b) (T := T2') (z := z2) os (xs.length * t.i.size) cs (rest.take cs.length) (rest.drop cs.length) [] w
            (by simpa using k1) (by simpa using k2) hol (by simp; omega) hrep.cell
          simp only [List.append_nil, List.length_nil] at hstore
          refine ⟨.slice (some ⟨b, 0, none⟩) (xs ++ ys).length cap, World.lay w b (os ++ cs ++ rest.drop cs.length), key ?_, ?_⟩
          · rw [g1, run_append_front t hl, if_pos (by rw [hlen2]; exact hroomy), run_bind_ok (hc w.drawn)]
            simp only [addr_add, Nat.zero_add]
            rw [run_bind_ok hstore, hlen2]
            rfl
          · have hnewl : (os ++ cs ++ rest.drop cs.length).length = (os ++ rest).length := by simp; omega
            have hh := heap_lay k1 (os ++ cs ++ rest.drop cs.length)
            have hext : Ext (fun k => k = b) w (World.lay w b (os ++ cs ++ rest.drop cs.length)) := by
              refine ⟨rfl, rfl, rfl, by simp [World.lay], fun k _ hne => heap_lay_ne w _ hne, fun k c' T3 z3 hc' => ?_⟩
              by_cases hkb : k = b
              · subst hkb
                rw [k1] at hc'
                simp only [Option.some.injEq, Obj.cells.injEq] at hc'
                obtain ⟨rfl, rfl, rfl⟩ := hc'
                exact ⟨_, hh, by simpa using hnewl⟩
              · exact ⟨c', by rw [heap_lay_ne w _ hkb]; exact hc', rfl⟩
            refine hs.moved hf hdeadm self (nb := some b) hext (fun k hk => ⟨m, _, hlm, hm, rfl, by rw [hk]; exact g0⟩) (fun b' h => ?_) (fun ρ' X' g hρ => ?_) (fun n hn => by cases hn)
              (fun ρ' X' g hρ => repA_of_c (.sl hρ hh ?_ hroomy (.inr (by simp [pOff])))) (fun n hn => by simp [AV.names] at hn; exact .inr hn)
            · cases h; exact .inr ⟨m, _, hlm, hm, rfl, g0⟩
            · exact .inr ⟨b, os ++ cs, rest.drop cs.length, T2', z2, hρ, hh, by rw [hnewl]; exact k2, (k3.mono g.ext g.off g.own).append (hrep.mono g.ext g.off g.own), hall⟩
            · simp only [pOff, Nat.zero_add, List.size_toArray]
              rw [hnewl]
              exact hcsz
      · -- it grows
        have hlen2 : xs.length + ys.length = (xs ++ ys).length := by simp
        have hrow : RowAt w b q os := by
          by_cases hx0 : xs.length = 0
          · have : os = [] := List.eq_nil_of_length_eq_zero (by rw [hol, hx0]; simp)
            subst this
            intro i v hv; simp at hv
          · have := hq (by omega)
            subst this
            have := rowAt_of_heap (w := w) (b := b) (pre := []) (c := os) (post := rest) (T := T2') (z := z2) (by simpa using k1)
            simpa using this
        have hold : (Builtin.firstCells t.i.size xs.length (.slice (some ⟨b, q, none⟩) xs.length cap)).run P w.drew = .ok os.toArray w.drew := by
          simp only [Builtin.firstCells]
          rw [← hol]
          exact run_loadCells (w := w.drew) hrow
        have hrun := run_append_grows (ty := o.type) t hl hold (hc _) (by omega) (by rw [hlen2]; exact hroom)
        rw [← g1] at hrun
        refine ⟨_, _, key hrun, ?_⟩
        · rw [hlen2]
          have := grown_end t hs (dst := o.dst) hf hdeadm self (k3.append hrep) hall (grownCap_ge w (xs ++ ys).length cap t.el)
          have e : os.toArray ++ cs.toArray = (os ++ cs).toArray := by simp
          simp only [e]
          exact this

end Go.Sym
