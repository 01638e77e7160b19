/-
What an operation that calls nothing does to what a frame holds, seventh part: the builtins len, append, copy.
-/
import Derived.Test.YthedcaopedbpdaaSymi
namespace Go.Sym

/-- The elements that a slice shows. -/
def elsOf (hp : Nat → Option AObj) : AV → Option (Prop × List D)
  | .d (.sl xs) => some (True, xs)
  | .d .nils => some (True, [])
  | .sl o p e off len => match hp o with
    | some (.row e' xs) => match p with
      | [] => bif e.beq e' then some (off + len ≤ xs.length, (xs.drop off).take len) else none
      | _ => none
    | some (.var u) => match AV.nav u p with
      | some (s, .d (.arr _ e' xs)) => bif e.beq e' then some (s ∧ off + len ≤ xs.length, (xs.drop off).take len) else none
      | _ => none
    | _ => none
  | _ => none

theorem RepL.mid {X : Nat → Prop} {w : World} {xs : List D} {cs : List Value} {e : Nat} (h : RepL X w xs cs) (he : ∀ x, x ∈ xs → x.size = e) {off len : Nat} (hl : off + len ≤ xs.length) :
    ∃ pre c post, cs = pre ++ c ++ post ∧ pre.length = off * e ∧ RepL X w ((xs.drop off).take len) c ∧ (∀ x, x ∈ (xs.drop off).take len → x.size = e) := by
  have hc := h.cut he (l := off) (k := off + len) (by omega) hl
  have : (xs.take (off + len)).drop off = (xs.drop off).take len := by
    rw [List.drop_take]; congr 1; omega
  rw [this] at hc
  obtain ⟨pre, c, post, h1, h2, h3, h4, _⟩ := hc
  exact ⟨pre, c, post, h1, h2, h3, h4⟩

theorem elsOf_rep {S : St} {ρ : Nat → Option Nat} {X : Nat → Prop} {a : Act} {w : World} (hs : Sim S ρ X a w) {x : AV} {s : Prop} {xs : List D} {hp : Nat → Option AObj} (hle : ∀ n x, hp n = some x → S.hp n = some x) (h : elsOf hp x = some (s, xs)) (hside : s) {v : Value}
    (hv : RepA ρ X w x v) : (xs = [] ∧ ∃ ad cap, v = .slice ad 0 cap) ∨ ∃ b q cap cs e, v = .slice (some ⟨b, q, none⟩) xs.length cap ∧ RowAt w b q cs ∧ RepL X w xs cs ∧ (∀ y, y ∈ xs → y.size = e) ∧ xs.length ≤ cap ∧ b < w.heap.size := by
  unfold elsOf at h
  split at h <;> try (cases h; done)
  · cases h
    obtain ⟨cs, h1, h2⟩ := repA_d hv
    cases h1 with
    | slnil => exact .inl ⟨rfl, _, _, h2⟩
    | sl a1 a2 a3 a4 a5 a6 => exact .inr ⟨_, _, _, _, _, h2, a5, a6, a3, a4, a2⟩
  · cases h
    obtain ⟨cs, h1, h2⟩ := repA_d hv
    cases h1
    exact .inl ⟨rfl, _, _, h2⟩
  · rename_i o p e off len
    rcases repA_sl hv with ⟨g0, rfl, g1⟩ | ⟨b, cap, q, c, T', z, g0, g1, g2, g3, g4, g5⟩
    · refine .inl ⟨?_, _, _, g1⟩
      split at h
      · split at h <;> try (cases h; done)
        rename_i e' ys _ _
        cases hb : e.beq e' <;> simp only [hb, cond_true, cond_false] at h <;> cases h
        simp
      · split at h <;> try (cases h; done)
        rename_i s' m e' ys _
        cases hb : e.beq e' <;> simp only [hb, cond_true, cond_false] at h <;> cases h
        simp
      · cases h
    · have hlt : b < w.heap.size := (Array.getElem?_eq_some_iff.1 g2).1
      right
      split at h
      · rename_i e' ys ho
        have ho := hle _ _ ho
        split at h <;> try (cases h; done)
        cases hb : e.beq e' <;> simp only [hb, cond_true, cond_false] at h <;> cases h
        have he := Nat.eq_of_beq_eq_true hb
        subst he
        have hlen : ((ys.drop off).take len).length = len := by simp; omega
        rcases hs.objs o _ ho with ⟨k0, _⟩ | ⟨b', cs, rest, T2, z2, k0, k1, k2, k3, k4⟩
        · rw [g0] at k0; cases k0
        rw [g0] at k0; cases k0
        obtain ⟨pre, c', post, e1, e2, e3, e4⟩ := k3.mid k4 hside
        by_cases hcap : cap = 0
        · have : len = 0 := by omega
          subst this
          refine ⟨b, q, cap, [], e, by rw [hlen]; exact g1, fun i v hv => by simp at hv, ?_, e4, by omega, hlt⟩
          simp
          exact .nil
        · have hq : q = off * e := by
            rcases g5 with g5 | g5
            · exact absurd g5 hcap
            · simpa [pOff] using g5
          refine ⟨b, q, cap, c', e, by rw [hlen]; exact g1, ?_, e3, e4, by omega, hlt⟩
          rw [hq, ← e2]
          refine rowAt_of_heap (post := post ++ rest) ?_ (T := T2) (z := z2)
          rw [k1, e1]; simp
      · rename_i u ho
        have ho := hle _ _ ho
        split at h <;> try (cases h; done)
        rename_i s' m e' ys hn
        cases hb : e.beq e' <;> simp only [hb, cond_true, cond_false] at h <;> cases h
        have he := Nat.eq_of_beq_eq_true hb
        subst he
        have hlen : ((ys.drop off).take len).length = len := by simp; have := hside.2; omega
        obtain ⟨b', cs, T2, z2, k0, k1, k2, k3⟩ := hs.objs o _ ho
        rw [g0] at k0; cases k0
        obtain ⟨pre, c1, post, e1, e2, e3⟩ := AV.nav_rep hn hside.1 k3
        cases e3 with
        | d e3 =>
          cases e3 with
          | arr f1 f2 f3 =>
            obtain ⟨pre', c', post', d1, d2, d3, d4⟩ := f3.mid f2 hside.2
            by_cases hcap : cap = 0
            · have : len = 0 := by omega
              subst this
              refine ⟨b, q, cap, [], e, by rw [hlen]; exact g1, fun i v hv => by simp at hv, ?_, d4, by omega, hlt⟩
              simp
              exact .nil
            · have hq : q = pOff p + off * e := by
                rcases g5 with g5 | g5
                · exact absurd g5 hcap
                · exact g5
              refine ⟨b, q, cap, c', e, by rw [hlen]; exact g1, ?_, d3, d4, by omega, hlt⟩
              have : q = (pre ++ pre').length := by rw [List.length_append, e2, d2]; exact hq
              rw [this]
              refine rowAt_of_heap (post := post' ++ post) ?_ (T := T2) (z := z2)
              rw [k1, e1, d1]; simp
      · cases h

def elTy (P : Program) (T : TypeId) : Option TypeId := match P.underlying T with
  | some (.slice e) => some e
  | _ => none

theorem elTy_spec {P : Program} {T e : TypeId} (h : elTy P T = some e) : P.underlying T = some (.slice e) := by
  unfold elTy at h
  split at h <;> cases h
  assumption

/-! ### len -/

theorem one_get (v : Value) : (#[v] : Array Value)[0]? = some v := rfl

def aLen (P : Program) (T : TypeId) (x : AV) : Option Res :=
  match P.underlying T with
  | some (.slice _) => match x with
    | .d (.sl xs) => some ⟨True, .d (.int .i64 xs.length), []⟩
    | .d .nils => some ⟨True, .d (.int .i64 0), []⟩
    | .sl _ _ _ _ len => some ⟨True, .d (.int .i64 len), []⟩
    | _ => none
  | some .string => match x with
    | .d (.str s) => some ⟨True, .d (.int .i64 s.size), []⟩
    | _ => none
  | some (.array n _) => some ⟨True, .d (.int .i64 n), []⟩
  | _ => none

theorem run_builtin {P : Program} {o : Oper} {b : Builtin} {args : Array Operand} {tys : Array TypeId} {ev : Operand → Value} {w w' : World} {v : Value}
    (ho : o.op = .call { callee := .builtin b, args := args, argTypes := tys }) (h : (builtin b tys o.type (args.map fun | .const _ => true | _ => false) (args.map ev)).run P w = .ok (.value v) w') :
    (execOp ev o).run P w = .ok (.value v) w' := by
  simp only [execOp, ho, resolve]
  rw [run_bind_ok (run_pure _ w)]
  simp only [invoke]
  exact h

theorem aLen_sound {P : Program} {T : TypeId} {tys : Array TypeId} {o : Oper} {x : Operand} {S : St} {res : Res} (ho : o.op = .call { callee := .builtin .len, args := #[x], argTypes := tys })
    (hT : tys[0]? = some T) (h : aLen P T (S.ev x) = some res) : StepsTo P o S (S.upd o.dst res.r res.ws) := by
  have key : ∀ {w : World} {ev : Operand → Value} {v : Value}, (Builtin.len_ tys o.type #[ev x]).run P w = .ok v w → (execOp ev o).run P w = .ok (.value v) w := fun hr => by
    refine run_builtin ho ?_
    simp only [builtin, List.map_toArray, List.map_cons, List.map_nil]
    exact run_map hr
  have it : ∀ {ρ : Nat → Option Nat} {X : Nat → Prop} {w : World} {k : IntKind} {n : Int}, RepA ρ X w (.d (.int k n)) (.int k n) := fun {_ _ _ k n} => ⟨_, .d (.int k n), rfl⟩
  unfold aLen at h
  split at h <;> try (cases h; done)
  · rename_i el hu
    split at h <;> cases h
    · rename_i xs hx
      refine steps_value fun ρ X a w hs => ?_
      have he := hs.ev x
      rw [hx] at he
      obtain ⟨cs, h1, h2⟩ := repA_d he
      refine ⟨.int .i64 xs.length, key ?_, it, fun m hm => by cases hm⟩
      cases h1 with
      | slnil =>
        simp only [Builtin.len_, hT, h2, one_get]
        rw [run_bind_ok (run_underlying hu w)]; rfl
      | sl a1 a2 a3 a4 a5 a6 =>
        simp only [Builtin.len_, hT, h2, one_get]
        rw [run_bind_ok (run_underlying hu w)]; rfl
    · rename_i hx
      refine steps_value fun ρ X a w hs => ?_
      have he := hs.ev x
      rw [hx] at he
      obtain ⟨cs, h1, h2⟩ := repA_d he
      refine ⟨.int .i64 0, key ?_, it, fun m hm => by cases hm⟩
      cases h1 with
      | nils =>
        simp only [Builtin.len_, hT, h2, one_get]
        rw [run_bind_ok (run_underlying hu w)]; rfl
    · rename_i n p e off len hx
      refine steps_value fun ρ X a w hs => ?_
      have he := hs.ev x
      rw [hx] at he
      refine ⟨.int .i64 len, key ?_, it, fun m hm => by cases hm⟩
      rcases repA_sl he with ⟨_, rfl, g1⟩ | ⟨b, cap, q, c, T', z, g0, g1, _⟩
      · simp only [Builtin.len_, hT, g1, one_get]
        rw [run_bind_ok (run_underlying hu w)]; rfl
      · simp only [Builtin.len_, hT, g1, one_get]
        rw [run_bind_ok (run_underlying hu w)]; rfl
  · rename_i hu
    split at h <;> cases h
    rename_i s hx
    refine steps_value fun ρ X a w hs => ?_
    have he := hs.ev x
    rw [hx] at he
    refine ⟨.int .i64 s.size, key ?_, it, fun m hm => by cases hm⟩
    simp only [Builtin.len_, hT, repA_str he, one_get]
    rw [run_bind_ok (run_underlying hu w)]; rfl
  · rename_i n el hu
    cases h
    refine steps_value fun ρ X a w hs => ?_
    refine ⟨.int .i64 n, key ?_, it, fun m hm => by cases hm⟩
    simp only [Builtin.len_, hT, one_get]
    rw [run_bind_ok (run_underlying hu w)]
    cases a.eval x <;> rfl

end Go.Sym
