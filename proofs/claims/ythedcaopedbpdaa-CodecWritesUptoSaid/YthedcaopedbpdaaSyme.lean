/-
What an operation that calls nothing does to what a frame holds, second part: values, loads, stores, new variables, addresses.
-/
import Derived.Test.YthedcaopedbpdaaSymd
namespace Go.Sym

def constA : Value → AV
  | .int k n => .d (.int k n)
  | .bool b => .d (.bool b)
  | .string s => .d (.str s)
  | .slice none 0 0 => .d .nils
  | .pointer none => .d .nilp
  | .nilFunc => .d .nilf
  | .nilIface => .d .nili
  | _ => .top

def St.ev (S : St) : Operand → AV
  | .tmp t => bif Nat.blt t S.n then S.sl t else .top
  | .const v => constA v
  | .global _ => .top
  | .func f => .fn (.func f) []

structure Res where
  side : Prop
  r : AV
  ws : List (Nat × AObj)

theorem constA_rep (ρ : Nat → Option Nat) (X : Nat → Prop) (w : World) (v : Value) : RepA ρ X w (constA v) v := by
  unfold constA
  split
  · exact ⟨_, .d (.int _ _), rfl⟩
  · exact ⟨_, .d (.bool _), rfl⟩
  · exact ⟨_, .d (.str _), rfl⟩
  · exact ⟨_, .d .nils, rfl⟩
  · exact ⟨_, .d .nilp, rfl⟩
  · exact ⟨_, .d .nilf, rfl⟩
  · exact ⟨_, .d .nili, rfl⟩
  · trivial

theorem constA_names (v : Value) : (constA v).names = [] := by
  unfold constA
  split <;> rfl

theorem Sim.ev {S : St} {ρ : Nat → Option Nat} {X : Nat → Prop} {a : Act} {w : World} (hs : Sim S ρ X a w) (x : Operand) : RepA ρ X w (S.ev x) (a.eval x) := by
  cases x with
  | tmp t =>
    simp only [St.ev, Act.eval]
    cases hb : Nat.blt t S.n with
    | true =>
      have hlt : t < a.tmps.size := by rw [hs.n]; simpa using hb
      refine hs.slots t _ ?_
      rw [Array.getElem?_eq_getElem hlt, Array.getD_eq_getD_getElem?, Array.getElem?_eq_getElem hlt]; rfl
    | false => trivial
  | const v => exact constA_rep ρ X w v
  | global g => trivial
  | func f => exact ⟨_, .fn .nil, rfl⟩

theorem Sim.evNames {S : St} {ρ : Nat → Option Nat} {X : Nat → Prop} {a : Act} {w : World} (hs : Sim S ρ X a w) (x : Operand) : ∀ o, o ∈ (S.ev x).names → S.hp o ≠ none := by
  cases x with
  | tmp t =>
    simp only [St.ev]
    cases Nat.blt t S.n with
    | true => exact hs.closedS t
    | false => intro o ho; cases ho
  | const v => intro o ho; simp [St.ev, constA_names] at ho
  | global g => intro o ho; cases ho
  | func f => intro o ho; cases ho

/-! ### What an operation comes to -/

def Does (P : Program) (o : Oper) (a : Act) (w : World) (R Rp : Value → World → Prop) : Prop :=
  match (execOp a.eval o).run P w with
  | .ok (.value v) w' => R v w'
  | .ok .skip w' => R undef w'
  | .ok (.enter f args) w' => Calls P f args w' fun e w'' => match e with
      | .returned v => R v w''
      | .panicked c => ∃ pv, c = [{ v := pv, recovered := false }] ∧ Rp pv w''
      | .outgrown => False
  | .halt (.panic v) w' => Rp v w'
  | _ => False

/-- What is asked of owned memory from one step to the next. -/
structure Evo (S S' : St) (ρ ρ' : Nat → Option Nat) (X X' : Nat → Prop) (w w' : World) : Prop where
  ext : Ext (fun b => ∃ o x, S.hp o = some x ∧ x.alive = true ∧ ρ o = some b) w w'
  xs : ∀ b, b < w.heap.size → (X' b → X b) ∧ (X b → X' b ∨ ∃ o x, S.hp o = some x ∧ x.alive = true ∧ ρ o = some b)
  own : ∀ o x b, S'.hp o = some x → x.alive = true → ρ' o = some b → w.heap.size ≤ b ∨ ∃ o' x', S.hp o' = some x' ∧ x'.alive = true ∧ ρ o' = some b
  same : ∀ n, S.hp n ≠ none → ρ' n = ρ n

def StepsTo (P : Program) (o : Oper) (S S' : St) : Prop :=
  ∀ (ρ : Nat → Option Nat) (X : Nat → Prop) (a : Act) (w : World), Sim S ρ X a w →
    Does P o a w (fun v w' => ∃ ρ' X', Sim S' ρ' X' (a.put o.dst v) w' ∧ Evo S S' ρ ρ' X X' w w') (fun _ _ => False)

theorem Sim.put {S : St} {ρ : Nat → Option Nat} {X : Nat → Prop} {a : Act} {w : World} (hs : Sim S ρ X a w) {dst : Option Tmp} {r : AV} {v : Value}
    (hr : RepA ρ X w r v) (hn : ∀ n, n ∈ r.names → S.hp n ≠ none) : Sim (S.upd dst r []) ρ X (a.put dst v) w ∧ Evo S (S.upd dst r []) ρ ρ X X w w := by
  refine ⟨hs.step (Y := fun _ => False) (.refl _ _) (fun _ h => h.elim) (fun _ _ => rfl) (fun _ _ h => h) (fun o x b _ h1 h2 h3 => hs.own o x b h1 h2 h3) (fun _ _ h => by cases h) (fun _ _ _ h => by cases h) (fun _ _ _ _ _ h => by cases h)
    (fun _ _ _ _ _ h => by cases h) (fun _ _ h => by cases h) hr (fun o ho => .inl (hn o ho)), .refl _ _, fun _ _ => ⟨id, .inl⟩, fun o x b hx ha hb => .inr ⟨o, x, ?_, ha, hb⟩, fun _ _ => rfl⟩
  rw [St.hp_upd] at hx
  exact hx

theorem steps_value {P : Program} {o : Oper} {S : St} {r : AV}
    (h : ∀ (ρ : Nat → Option Nat) (X : Nat → Prop) (a : Act) (w : World), Sim S ρ X a w → ∃ v, (execOp a.eval o).run P w = .ok (.value v) w ∧ RepA ρ X w r v ∧ ∀ n, n ∈ r.names → S.hp n ≠ none) :
    StepsTo P o S (S.upd o.dst r []) := by
  intro ρ X a w hs
  obtain ⟨v, hv, hr, hn⟩ := h ρ X a w hs
  unfold Does
  rw [hv]
  exact ⟨ρ, X, hs.put hr hn⟩

theorem repA_d {ρ : Nat → Option Nat} {X : Nat → Prop} {w : World} {x : D} {v : Value} (h : RepA ρ X w (.d x) v) : ∃ cs, RepD X w x cs ∧ v = wrapV x.isAgg cs := by
  obtain ⟨cs, h1, h2⟩ := h
  cases h1 with
  | d h1 => exact ⟨cs, h1, h2⟩

theorem repA_mk {ρ : Nat → Option Nat} {X : Nat → Prop} {w : World} {x : D} {cs : List Value} (h : RepD X w x cs) : RepA ρ X w (.d x) (wrapV x.isAgg cs) := ⟨cs, .d h, rfl⟩

theorem repA_int {ρ : Nat → Option Nat} {X : Nat → Prop} {w : World} {k : IntKind} {n : Int} {v : Value} (h : RepA ρ X w (.d (.int k n)) v) : v = .int k n := by
  obtain ⟨cs, h1, h2⟩ := repA_d h
  cases h1; exact h2

theorem repA_bool {ρ : Nat → Option Nat} {X : Nat → Prop} {w : World} {b : Bool} {v : Value} (h : RepA ρ X w (.d (.bool b)) v) : v = .bool b := by
  obtain ⟨cs, h1, h2⟩ := repA_d h
  cases h1; exact h2

theorem repA_str {ρ : Nat → Option Nat} {X : Nat → Prop} {w : World} {s : ByteArray} {v : Value} (h : RepA ρ X w (.d (.str s)) v) : v = .string s := by
  obtain ⟨cs, h1, h2⟩ := repA_d h
  cases h1; exact h2

theorem repA_ptr {ρ : Nat → Option Nat} {X : Nat → Prop} {w : World} {o : Nat} {p : List Stp} {v : Value} (h : RepA ρ X w (.ptr o p) v) : ∃ b, ρ o = some b ∧ v = .pointer (some ⟨b, pOff p, none⟩) := by
  obtain ⟨cs, h1, h2⟩ := h
  cases h1 with
  | ptr _ h => exact ⟨_, h, h2⟩

theorem repA_dptr {ρ : Nat → Option Nat} {X : Nat → Prop} {w : World} {x : D} {v : Value} (h : RepA ρ X w (.dptr x) v) :
    ∃ b q cs, v = .pointer (some ⟨b, q, none⟩) ∧ ¬ X b ∧ b < w.heap.size ∧ RowAt w b q cs ∧ RepD X w x cs := by
  obtain ⟨cs, h1, h2⟩ := h
  cases h1 with
  | dptr a1 a2 a3 a4 => exact ⟨_, _, _, h2, a1, a2, a3, a4⟩

/-! ### Whole numbers, truth, texts -/

def aBits (op : BinOp) (k : IntKind) (a b : Int) : Int :=
  k.wrap ((match op with
    | .and => BitVec.ofInt k.bits a &&& BitVec.ofInt k.bits b
    | .or => BitVec.ofInt k.bits a ||| BitVec.ofInt k.bits b
    | .xor => BitVec.ofInt k.bits a ^^^ BitVec.ofInt k.bits b
    | _ => BitVec.ofInt k.bits a &&& ~~~ BitVec.ofInt k.bits b).toNat)

def shlI (k : IntKind) (a b : Int) : Int := k.wrap (a * 2 ^ (min b.toNat k.bits))
def shrI (k : IntKind) (a b : Int) : Int := a.fdiv (2 ^ (min b.toNat k.bits))

def isBoolTy (P : Program) (T : TypeId) : Bool := match P.underlying T with
  | some .bool => true
  | _ => false

def aBin (P : Program) (op : BinOp) (T : TypeId) : D → D → Option (Prop × D)
  | .int k a, .int k' b =>
    match op with
    | .shl => some (0 ≤ b, .int k (shlI k a b))
    | .shr => some (0 ≤ b, .int k (shrI k a b))
    | op => if k = k' then match op with
      | .add => some (True, .int k (k.wrap (a + b)))
      | .sub => some (True, .int k (k.wrap (a - b)))
      | .mul => some (True, .int k (k.wrap (a * b)))
      | .quo => some (b ≠ 0, .int k (k.wrap (a.tdiv b)))
      | .rem => some (b ≠ 0, .int k (a.tmod b))
      | .and => some (True, .int k (aBits .and k a b))
      | .or => some (True, .int k (aBits .or k a b))
      | .xor => some (True, .int k (aBits .xor k a b))
      | .andNot => some (True, .int k (aBits .andNot k a b))
      | .eql => some (True, .bool (a == b))
      | .neq => some (True, .bool (a != b))
      | .lss => some (True, .bool (decide (a < b)))
      | .leq => some (True, .bool (decide (a ≤ b)))
      | .gtr => some (True, .bool (decide (a > b)))
      | .geq => some (True, .bool (decide (a ≥ b)))
      | _ => none
      else none
  | .bool a, .bool b => bif isBoolTy P T then match op with
      | .eql => some (True, .bool (a == b))
      | .neq => some (True, .bool (!(a == b)))
      | _ => none
    else none
  | .str a, .str b => match op with
      | .eql => some (True, .bool (a.toList == b.toList))
      | .neq => some (True, .bool (!(a.toList == b.toList)))
      | _ => none
  | _, _ => none

theorem run_runBool {P : Program} {T : TypeId} (h : isBoolTy P T = true) (a b : Bool) (w : World) : (Op.equal T (.bool a) (.bool b)).run P w = .ok (a == b) w := by
  unfold isBoolTy at h
  split at h
  · rename_i hu
    have key : ∀ d, (Op.equalIn (d + 1) T (.bool a) (.bool b)).run P w = .ok (a == b) w := fun d => by
      simp only [Op.equalIn]
      rw [run_bind_ok (run_underlying hu w)]
      rfl
    exact key 9999
  · cases h

theorem aBin_run {P : Program} {op : BinOp} {T : TypeId} {x y z : D} {s : Prop} (h : aBin P op T x y = some (s, z)) (hs : s) {X : Nat → Prop} {w : World} {u v : Value}
    (hu : ∃ cs, RepD X w x cs ∧ u = wrapV x.isAgg cs) (hv : ∃ cs, RepD X w y cs ∧ v = wrapV y.isAgg cs) (q r : Operand) :
    ∃ t, (do eqGuard op T q r u v; binOp op T u v : Sem Value).run P w = .ok t w ∧ (∃ cs, RepD X w z cs ∧ t = wrapV z.isAgg cs) := by
  obtain ⟨c1, h1, rfl⟩ := hu
  obtain ⟨c2, h2, rfl⟩ := hv
  have int : ∀ {k : IntKind} {n : Int}, ∃ cs, RepD X w (.int k n) cs ∧ (.int k n : Value) = wrapV false cs := fun {k n} => ⟨_, .int k n, rfl⟩
  have bool : ∀ {b : Bool}, ∃ cs, RepD X w (.bool b) cs ∧ (.bool b : Value) = wrapV false cs := fun {b} => ⟨_, .bool b, rfl⟩
  have g0 : ∀ (k k' : IntKind) (a b : Int), (eqGuard op T q r (.int k a) (.int k' b)).run P w = .ok () w := fun k k' a b => by
    unfold eqGuard; cases op <;> simp
  have g1 : ∀ (a b : Bool), (eqGuard op T q r (.bool a) (.bool b)).run P w = .ok () w := fun a b => by
    unfold eqGuard; cases op <;> simp
  have g2 : ∀ (a b : ByteArray), (eqGuard op T q r (.string a) (.string b)).run P w = .ok () w := fun a b => by
    unfold eqGuard; cases op <;> simp
  cases h1 <;> cases h2 <;> try (simp only [aBin] at h; cases h; done)
  · rename_i k a k' b
    simp only [wrapV, D.isAgg, Bool.false_eq_true, if_false, List.headD_cons]
    rw [run_bind_ok (g0 _ _ _ _)]
    cases op
    all_goals (try simp only [aBin] at h)
    case shl => cases h; exact ⟨_, by simp only [binOp, Op.shift]; rw [if_neg (by simpa using hs)]; rfl, int⟩
    case shr => cases h; exact ⟨_, by simp only [binOp, Op.shift]; rw [if_neg (by simpa using hs)]; rfl, int⟩
    all_goals (split at h <;> try (cases h; done))
    all_goals (rename_i hk; subst hk)
    case int.int.quo.isTrue => cases h; exact ⟨_, by simp only [binOp, Op.intDiv]; rw [if_neg (by simp), if_neg hs]; rfl, int⟩
    case int.int.rem.isTrue => cases h; exact ⟨_, by simp only [binOp, Op.intDiv]; rw [if_neg (by simp), if_neg hs]; rfl, int⟩
    all_goals (cases h; first | exact ⟨_, by simp only [binOp]; rw [if_neg (by simp)]; rfl, int⟩ | exact ⟨_, by simp only [binOp]; rw [if_neg (by simp)]; rfl, bool⟩)
  · rename_i a b
    simp only [wrapV, D.isAgg, Bool.false_eq_true, if_false, List.headD_cons]
    rw [run_bind_ok (g1 _ _)]
    simp only [aBin] at h
    cases hb : isBoolTy P T <;> simp only [hb, cond_true, cond_false] at h <;> try (cases h; done)
    cases op <;> simp only at h <;> cases h
    · exact ⟨_, by simp only [binOp]; rw [run_bind_ok (run_runBool hb a b w)]; rfl, bool⟩
    · exact ⟨_, by simp only [binOp]; rw [run_bind_ok (run_runBool hb a b w)]; rfl, bool⟩
  · rename_i a b
    simp only [wrapV, D.isAgg, Bool.false_eq_true, if_false, List.headD_cons]
    rw [run_bind_ok (g2 _ _)]
    simp only [aBin] at h
    cases op <;> simp only at h <;> cases h
    · exact ⟨_, by simp only [binOp, Op.stringOp]; rfl, bool⟩
    · exact ⟨_, by simp only [binOp, Op.stringOp]; rfl, bool⟩

end Go.Sym
