/-
What an operation that calls nothing does to what a frame holds: all of it ('aOp'); what it looks at.
-/
import Derived.Test.YthedcaopedbpdaaSymn
namespace Go.Sym

def aBinA (P : Program) (op : BinOp) (T : TypeId) (x y : AV) : Option Res :=
  match x, y with
  | .d a, .d b => match aBin P op T a b with
    | some (s, z) => some ⟨s, .d z, []⟩
    | none => aCmp P op T (.d a) (.d b)
  | x, y => aCmp P op T x y

def aBuiltin (P : Program) (nm : Nat) (b : Builtin) (tys : Array TypeId) (hp : Nat → Option AObj) (ins : List AV) : Option Res :=
  match b, ins, tys.toList with
  | .len, [x], [T] => aLen P T x
  | .append, [s, x], [_, _] => aAppend P nm tys hp s x
  | _, _, _ => none

def aOp (P : Program) (nm : Nat) (op : Op) (ev : Operand → AV) (hp : Nat → Option AObj) : Option Res :=
  match op with
  | .move x => aMove (ev x)
  | .assign x => aMove (ev x)
  | .pick c a b => aPick (ev c) (ev a) (ev b)
  | .alloc T => aAlloc P nm T
  | .box _ x => aBox nm (ev x)
  | .build T parts => aBuild P T (parts.toList.map fun p => (p.1, ev p.2))
  | .buildSlice T len parts => aBuildSlice P nm T len (parts.toList.map fun p => (p.1, ev p.2))
  | .load T a => aLoad P T hp (ev a)
  | .store T a v => aStore P T hp (ev a) (ev v)
  | .nilCheck x => aNilCheck (ev x)
  | .binOp op T x y _ => aBinA P op T (ev x) (ev y)
  | .unOp op _ x => aUn op (ev x)
  | .convert s d x => aConv P nm s d hp (ev x)
  | .makeFunc fn first caps => aMakeFunc fn first (caps.toList.map ev)
  | .makeInterface T x => aMakeIface P T (ev x)
  | .makeSlice T l c => aMakeSlice P nm T (ev l) (ev c)
  | .slice T x lo hi mx => match mx with
    | none => aSlice P T hp (ev x) (lo.map ev) (hi.map ev)
    | some _ => none
  | .fieldAddr T x f => aFieldAddr P T f (ev x)
  | .field T x f => aField P T f (ev x)
  | .indexAddr T x i => aIndexAddr P T (ev x) (ev i)
  | .index T x i => aIndex P T (ev x) (ev i)
  | .extract x i => aExtract i (ev x)
  | .call c => match c.callee with
    | .builtin b => aBuiltin P nm b c.argTypes hp (c.args.toList.map ev)
    | _ => none
  | _ => none

theorem aOp_sound {P : Program} {nm : Nat} {o : Oper} {S : St} {hp : Nat → Option AObj} {res : Res} (hle : ∀ n x, hp n = some x → S.hp n = some x) (h : aOp P nm o.op S.ev hp = some res) (hside : res.side) (hf : S.hp nm = none) :
    StepsTo P o S (S.upd o.dst res.r res.ws) := by
  cases ho : o.op <;> rw [ho] at h <;> simp only [aOp] at h <;> try (cases h; done)
  case move x => exact aMove_sound (.inl ho) h
  case assign x => exact aMove_sound (.inr ho) h
  case pick c a b => exact aPick_sound ho h
  case alloc T => exact aAlloc_sound ho h hf
  case box T x => exact aBox_sound ho h hf
  case build T parts => exact aBuild_sound ho h hside
  case buildSlice T len parts => exact aBuildSlice_sound ho h hf
  case load T a => exact aLoad_sound hle ho h hside
  case store T a v => exact aStore_sound hle ho h hside
  case nilCheck x => exact aNilCheck_sound ho h
  case binOp op T x y T2 =>
    unfold aBinA at h
    split at h
    · rename_i a b hx hy
      split at h
      · rename_i s z hb
        cases h
        refine steps_value fun ρ X e w hs => ?_
        have h1 := hs.ev x
        have h2 := hs.ev y
        rw [hx] at h1; rw [hy] at h2
        obtain ⟨t, ht, hr⟩ := aBin_run (P := P) hb hside (w := w) (repA_d h1) (repA_d h2) x y
        refine ⟨t, ?_, ?_, fun m hm => by cases hm⟩
        · simp only [execOp, ho]
          exact run_map ht
        · obtain ⟨cs, c1, c2⟩ := hr
          rw [c2]; exact repA_mk c1
      · rw [← hx, ← hy] at h
        exact aCmp_sound ho h hside
    · exact aCmp_sound ho h hside
  case unOp op T x => exact aUn_sound ho h
  case convert s d x => exact aConv_sound hle ho h hside hf
  case makeFunc fn first caps => exact aMakeFunc_sound ho h
  case makeInterface T x => exact aMakeIface_sound ho h
  case makeSlice T l c => exact aMakeSlice_sound ho h hside hf
  case slice T x lo hi mx =>
    cases mx with
    | none => exact aSlice_sound hle ho h hside
    | some _ => cases h
  case fieldAddr T x f => exact aFieldAddr_sound ho h hside
  case field T x f => exact aField_sound ho h hside
  case indexAddr T x i => exact aIndexAddr_sound ho h hside
  case index T x i => exact aIndex_sound ho h hside
  case extract x i => exact aExtract_sound ho h
  case call c =>
    obtain ⟨callee, args, tys⟩ := c
    cases callee <;> simp only at h <;> try (cases h; done)
    rename_i b
    unfold aBuiltin at h
    split at h <;> try (cases h; done)
    · rename_i x T hins htys
      have ha : ∃ y, args = #[y] ∧ S.ev y = x := by
        cases args with
        | mk l =>
          simp only at hins
          match l, hins with
          | [y], hins => simp only [List.map_cons, List.map_nil, List.cons.injEq, and_true] at hins; exact ⟨y, rfl, hins⟩
      obtain ⟨y, rfl, rfl⟩ := ha
      refine aLen_sound ho ?_ h
      cases tys with
      | mk l => simp only at htys; subst htys; rfl
    · rename_i s x T T2 hins htys
      have ha : ∃ u v, args = #[u, v] ∧ S.ev u = s ∧ S.ev v = x := by
        cases args with
        | mk l =>
          simp only at hins
          match l, hins with
          | [u, v], hins => simp only [List.map_cons, List.map_nil, List.cons.injEq, and_true] at hins; exact ⟨u, v, rfl, hins⟩
      obtain ⟨u, v, rfl, rfl, rfl⟩ := ha
      refine aAppend_sound hle ho ?_ h hside hf
      cases tys with
      | mk l => simp only at htys; subst htys; rfl

theorem aOp_congr {P : Program} {nm : Nat} {op : Op} {ev ev' : Operand → AV} {hp : Nat → Option AObj} (h : ∀ x, x ∈ op.operands → ev x = ev' x) : aOp P nm op ev hp = aOp P nm op ev' hp := by
  cases op <;> simp only [aOp] <;> simp only [Op.operands] at h
  case build T parts =>
    congr 1
    exact List.map_congr_left fun p hp => by rw [h p.2 (by simp; exact ⟨p.1, by simpa using hp⟩)]
  case buildSlice T len parts =>
    congr 1
    exact List.map_congr_left fun p hp => by rw [h p.2 (by simp; exact ⟨p.1, by simpa using hp⟩)]
  case makeFunc fn first caps =>
    congr 1
    exact List.map_congr_left fun p hp => h p (by simp; right; simpa using hp)
  case slice T x lo hi mx =>
    cases mx with
    | some _ => rfl
    | none =>
      rw [h x (by simp)]
      cases lo with
      | none => cases hi with
        | none => rfl
        | some b => simp only [Option.map_some, Option.map_none]; rw [h b (by simp)]
      | some a => cases hi with
        | none => simp only [Option.map_some, Option.map_none]; rw [h a (by simp)]
        | some b => simp only [Option.map_some]; rw [h a (by simp), h b (by simp)]
  case call c =>
    obtain ⟨callee, args, tys⟩ := c
    cases callee <;> simp only
    congr 1
    exact List.map_congr_left fun p hp => h p (by simp [Call.operands]; simpa using hp)
  all_goals first
    | rfl
    | (rw [h _ (by simp)]; done)
    | (rename_i x y; rw [h x (by simp), h y (by simp)]; done)
    | (rename_i a x y; rw [h x (by simp), h y (by simp)]; done)
    | (rename_i a x y b; rw [h x (by simp), h y (by simp)]; done)
    | (rename_i a b x y c; rw [h x (by simp), h y (by simp)]; done)
    | (rename_i a b x; rw [h x (by simp)]; done)
    | (rename_i a x; rw [h x (by simp)]; done)
    | (rename_i c x y; rw [h c (by simp), h x (by simp), h y (by simp)]; done)
    | skip

/-- A heap of which only some names are seen. -/
def rst (hp : Nat → Option AObj) (l : List Nat) : Nat → Option AObj := fun n => bif l.contains n then hp n else none

theorem rst_le {hp : Nat → Option AObj} {l : List Nat} {n : Nat} {x : AObj} (h : rst hp l n = some x) : hp n = some x := by
  unfold rst at h
  cases hb : l.contains n <;> simp only [hb, cond_true, cond_false] at h
  · cases h
  · exact h

theorem rst_congr {hp hp' : Nat → Option AObj} {l : List Nat} (h : ∀ n, n ∈ l → hp n = hp' n) : rst hp l = rst hp' l := by
  funext n
  unfold rst
  cases hb : l.contains n with
  | false => rfl
  | true => simp only [cond_true]; exact h n (by simpa using hb)

/-- Does it look at memory? -/
def readsMem : Op → Bool
  | .load _ _ => true
  | .store _ _ _ => true
  | .convert _ _ _ => true
  | .slice _ _ _ _ _ => true
  | .call _ => true
  | _ => false

def opNames (S : St) (op : Op) : List Nat := bif readsMem op then AV.namesL (op.operands.toList.map S.ev) else []

end Go.Sym
