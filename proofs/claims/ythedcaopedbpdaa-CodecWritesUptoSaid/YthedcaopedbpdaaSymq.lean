/-
One operation of a region, calls too, by what it looks at: a local step; what is asked of the operations one behind the other ('vcOps').
-/
import Derived.Test.YthedcaopedbpdaaSymp
namespace Go.Sym

structure Foot where
  rd : List Nat
  wr : List Nat
  nw : List Nat

/-- Two frames are one where an operation looks. -/
structure Agree (ops : Array Oper) (o : Oper) (φ : Foot) (S S' : St) : Prop where
  n : S'.n = S.n
  sl : ∀ t, t ∈ o.looksAt ops → S'.sl t = S.sl t
  rd : ∀ n, n ∈ φ.rd → S'.hp n = S.hp n
  wr : ∀ n, n ∈ φ.wr → S'.hp n = S.hp n
  nw : ∀ n, n ∈ φ.nw → S'.hp n = none

def OpStep (P : Program) (ops : Array Oper) (o : Oper) (S : St) (r : AV) (ws : List (Nat × AObj)) : Prop :=
  ∀ (ρ : Nat → Option Nat) (X : Nat → Prop) (a : Act) (w : World), Sim S ρ X a w →
    (Region.wanted o (yielded ops a.tmps) = true → Does P o a w (fun v w' => ∃ ρ' X', Sim (S.upd o.dst r ws) ρ' X' (a.put o.dst v) w' ∧ Evo S (S.upd o.dst r ws) ρ ρ' X X' w w') (fun _ _ => False)) ∧
    (Region.wanted o (yielded ops a.tmps) = false → r = .tup [] ∧ ws = [])

def OpPan (P : Program) (ops : Array Oper) (o : Oper) (S : St) (pv : Value) (ws : List (Nat × AObj)) : Prop :=
  ∀ (ρ : Nat → Option Nat) (X : Nat → Prop) (a : Act) (w : World), Sim S ρ X a w →
    Region.wanted o (yielded ops a.tmps) = true ∧
    Does P o a w (fun _ _ => False) (fun v w' => v = pv ∧ ∃ ρ' X', Sim (S.upd none .top ws) ρ' X' a w' ∧ Evo S (S.upd none .top ws) ρ ρ' X X' w w')

def LStep (P : Program) (ops : Array Oper) (i : Nat) (S : St) (φ : Foot) (r : AV) (ws : List (Nat × AObj)) : Prop :=
  ∃ o, ops[i]? = some o ∧ (∀ c, o.op ≠ .defer c) ∧ (∀ n, lkp ws n ≠ none → n ∈ φ.wr ∨ n ∈ φ.nw) ∧ (∀ n, n ∈ φ.nw → S.hp n = none) ∧ ∀ S', Agree ops o φ S S' → OpStep P ops o S' r ws

def LPan (P : Program) (ops : Array Oper) (i : Nat) (S : St) (φ : Foot) (pv : Value) (ws : List (Nat × AObj)) : Prop :=
  ∃ o, ops[i]? = some o ∧ (∀ c, o.op ≠ .defer c) ∧ (∀ n, n ∈ φ.nw → S.hp n = none) ∧ ∀ S', Agree ops o φ S S' → OpPan P ops o S' pv ws

/-! ### Calls -/

def calleeOf (S : St) : Op → Option (FuncId × List AV)
  | .call c => match c.callee with
    | .value x => match S.ev x with
      | .fn (.func f) caps => bif caps.all AV.single then some (f, c.args.toList.map S.ev ++ caps) else none
      | _ => none
    | _ => none
  | _ => none

def callable (P : Program) (f : FuncId) : Bool := match P.funcs[f]? with
  | some fn => fn.body.isSome && fn.name != "runtime.NumGoroutine"
  | none => false

theorem callable_run {P : Program} {f : FuncId} (h : callable P f = true) (args : Array Value) (w : World) : (callFunc f args).run P w = .ok (.enter f args) w := by
  unfold callable at h
  split at h <;> try (cases h; done)
  rename_i fn hf
  simp only [Bool.and_eq_true, bne_iff_ne, ne_eq] at h
  simp only [callFunc, program]
  rw [Sem.run_bind]
  simp only [Sem.run, Result.andThen, hf]
  have h1 : (fn.name == "runtime.NumGoroutine") = false := by simpa using h.2
  have h2 : fn.body.isNone = false := by cases hb : fn.body <;> simp [hb] at h ⊢
  simp [h1, h2]

def LocalCall (P : Program) (f : FuncId) (args : List AV) (pre : List (Nat × AObj)) (nw : List Nat) (r : AV) (ws : List (Nat × AObj)) : Prop :=
  ∀ hp : Nat → Option AObj, (∀ p, p ∈ pre → hp p.1 = some p.2) → (∀ n, n ∈ nw → hp n = none) → CallOK P f args hp r ws

def LocalPan (P : Program) (f : FuncId) (args : List AV) (pre : List (Nat × AObj)) (nw : List Nat) (pv : Value) (ws : List (Nat × AObj)) : Prop :=
  ∀ hp : Nat → Option AObj, (∀ p, p ∈ pre → hp p.1 = some p.2) → (∀ n, n ∈ nw → hp n = none) → PanOK P f args hp pv ws

def preOK (hp : Nat → Option AObj) : List (Nat × AObj) → Prop
  | [] => True
  | p :: l => hp p.1 = some p.2 ∧ preOK hp l

theorem preOK_spec {hp : Nat → Option AObj} : ∀ {l : List (Nat × AObj)}, preOK hp l → ∀ p, p ∈ l → hp p.1 = some p.2
  | [], _, p, h => by cases h
  | q :: l, ⟨h1, h2⟩, p, h => by
    rcases List.mem_cons.1 h with rfl | h
    · exact h1
    · exact preOK_spec h2 p h

/-- The names are as they must be. -/
def okNames (hp : Nat → Option AObj) (pre : List (Nat × AObj)) (fz nw : List Nat) (ws : List (Nat × AObj)) : Bool :=
  ws.all (fun p => (pre.map (·.1)).contains p.1 || nw.contains p.1) && pre.all (fun p => !fz.contains p.1) && nw.all (fun n => (hp n).isNone)

theorem elsOf_congr {hp hp' : Nat → Option AObj} {x : AV} (h : ∀ n, n ∈ x.names → hp' n = hp n) : elsOf hp' x = elsOf hp x := by
  cases x with
  | sl o p e off len => simp only [elsOf, h o (by simp [AV.names])]
  | d y => cases y <;> rfl
  | _ => rfl

mutual
theorem toD_congr {hp hp' : Nat → Option AObj} : ∀ {x : AV}, (∀ n, n ∈ x.names → hp' n = hp n) → toD hp' x = toD hp x
  | .sl o p e off len, h => by simp only [toD, elsOf_congr h]
  | .d y, _ => by cases y <;> simp only [toD]
  | .st fs, h => by simp only [toD]; rw [toDs_congr (xs := fs) (by simpa only [AV.names] using h)]
  | .ptr _ _, _ => by simp only [toD]
  | .dptr _, _ => by simp only [toD]
  | .fn _ _, _ => by simp only [toD]
  | .tup _, _ => by simp only [toD]
  | .top, _ => by simp only [toD]
  | .cst _, _ => by simp only [toD]
theorem toDs_congr {hp hp' : Nat → Option AObj} : ∀ {xs : List AV}, (∀ n, n ∈ AV.namesL xs → hp' n = hp n) → toDs hp' xs = toDs hp xs
  | [], _ => by simp only [toDs]
  | x :: xs, h => by
    simp only [toDs]
    rw [toD_congr (x := x) fun n hn => h n (by simp [AV.namesL, hn]), toDs_congr (xs := xs) fun n hn => h n (by simp [AV.namesL, hn])]
end

theorem cvt_congr {hp hp' : Nat → Option AObj} : ∀ {xs : List AV} {ms : List Bool}, (∀ n, n ∈ AV.namesL xs → hp' n = hp n) → cvt hp' ms xs = cvt hp ms xs
  | [], ms, _ => by cases ms <;> rfl
  | x :: xs, [], h => by simp only [cvt, cvt_congr (xs := xs) (ms := []) fun n hn => h n (by simp [AV.namesL, hn])]
  | x :: xs, m :: ms, h => by
    simp only [cvt, cvt_congr (xs := xs) (ms := ms) fun n hn => h n (by simp [AV.namesL, hn])]
    rw [toD_congr (x := x) fun n hn => h n (by simp [AV.namesL, hn])]

theorem lkp_append {α : Type} : ∀ (l m : List (Nat × α)) (n : Nat), lkp (l ++ m) n = match lkp l n with
    | some x => some x
    | none => lkp m n
  | [], _, _ => rfl
  | (k, v) :: l, m, n => by
    simp only [List.cons_append, lkp]
    cases k.beq n with
    | true => rfl
    | false => exact lkp_append l m n

theorem St.upd_append (S : St) (dst : Option Tmp) (r : AV) (ws ds : List (Nat × AObj)) : (S.write ds).upd dst r ws = S.upd dst r (ws ++ ds) := by
  have : (S.write ds).write ws = S.write (ws ++ ds) := by
    simp only [St.write]
    congr 1
    funext o
    rw [lkp_append]
    cases lkp ws o <;> rfl
  simp only [St.upd, this]

theorem St.ev_put_ne {S : St} {S' : St} (hn : S'.n = S.n) {x : Operand} (h : ∀ t, x = .tmp t → S'.sl t = S.sl t) : S'.ev x = S.ev x := by
  cases x with
  | tmp t => simp only [St.ev, hn, h t rfl]
  | _ => rfl

theorem Agree.ev {ops : Array Oper} {o : Oper} {φ : Foot} {S S' : St} (h : Agree ops o φ S S') : ∀ x, x ∈ o.op.operands → S'.ev x = S.ev x := by
  intro x hx
  refine St.ev_put_ne h.n fun t ht => h.sl t ?_
  subst ht
  unfold Oper.looksAt
  refine List.mem_append_left _ (List.mem_filterMap.2 ⟨.tmp t, by simpa using hx, rfl⟩)

/-- A frame with what was let go, and a call behind it. -/
theorem Sim.killCall {S : St} {ρ ρ' : Nat → Option Nat} {X X' : Nat → Prop} {a : Act} {w w' : World} (hs : Sim S ρ X a w) {fz : List Nat} {dst : Option Tmp} {r : AV} {v : Value} {ws : List (Nat × AObj)}
    (hh : HSim (wr (wr S.hp (deads fz)) ws) ρ' X' w') (he : HEvo (wr S.hp (deads fz)) (wr (wr S.hp (deads fz)) ws) ρ ρ' (less S.hp ρ X fz) X' w w') (hr : RepA ρ' X' w' r v) (hrn : ∀ n, n ∈ r.names → wr (wr S.hp (deads fz)) ws n ≠ none) :
    Sim (S.upd dst r (ws ++ deads fz)) ρ' X' (a.put dst v) w' ∧ Evo S (S.upd dst r (ws ++ deads fz)) ρ ρ' X X' w w' := by
  have hk := hs.kill fz
  have hal : ∀ o x, wr S.hp (deads fz) o = some x → x.alive = true → S.hp o = some x := fun o x h ha => by
    unfold wr at h
    cases hl : lkp (deads fz) o with
    | some y => simp only [hl, Option.some.injEq] at h; subst h; rw [(lkp_deads hl).1] at ha; cases ha
    | none => simpa only [hl] using h
  obtain ⟨h1, h2⟩ := hk.call (dst := dst) (r := r) (v := v) (ws := ws) hh he hr hrn
  rw [St.upd_append] at h1 h2
  refine ⟨h1, ⟨h2.ext.mono fun b _ hb => ?_, fun b hb => ⟨fun h => ((h2.xs b hb).1 h).1, fun h => ?_⟩, fun o x b k1 k2 k3 => ?_, fun n hn => h2.same n (wr_ne (ws := deads fz) hn)⟩⟩
  · obtain ⟨o, x, k1, k2, k3⟩ := hb; exact ⟨o, x, hal o x k1 k2, k2, k3⟩
  · by_cases hl : less S.hp ρ X fz b
    · rcases (h2.xs b hb).2 hl with h | ⟨o, x, k1, k2, k3⟩
      · exact .inl h
      · exact .inr ⟨o, x, hal o x k1 k2, k2, k3⟩
    · right
      have : ∃ o x, o ∈ fz ∧ S.hp o = some x ∧ x.alive = true ∧ ρ o = some b := Classical.byContradiction fun hn => hl ⟨h, hn⟩
      obtain ⟨o, x, _, k1, k2, k3⟩ := this
      exact ⟨o, x, k1, k2, k3⟩
  · rcases h2.own o x b k1 k2 k3 with h | ⟨o', x', k1, k2, k3⟩
    · exact .inl h
    · exact .inr ⟨o', x', hal o' x' k1 k2, k2, k3⟩

theorem RepCs.singles {ρ : Nat → Option Nat} {X : Nat → Prop} {w : World} : ∀ {caps : List AV} {vs : List Value}, RepCs ρ X w caps vs → caps.all AV.single = true →
    caps.length = vs.length ∧ ∀ (i : Nat) (y : AV) (v : Value), caps[i]? = some y → vs[i]? = some v → RepA ρ X w y v
  | _, _, .nil, _ => ⟨rfl, fun i y v h => by simp at h⟩
  | _, _, .cons (x := x) (c := c) h hs, ha => by
    simp only [List.all_cons, Bool.and_eq_true] at ha
    obtain ⟨h1, h2⟩ := RepCs.singles hs ha.2
    have hag : x.isAgg = false := by cases x <;> first | rfl | cases ha.1
    obtain ⟨u, rfl⟩ := List.length_eq_one_iff.1 (notAgg_size h hag)
    refine ⟨by simp [h1], fun i y v hy hv => ?_⟩
    cases i with
    | zero =>
      simp only [List.getElem?_cons_zero, Option.some.injEq] at hy
      simp at hv
      subst hy; subst hv
      have := repA_of_c h
      rw [hag] at this
      exact this
    | succ i =>
      simp only [List.getElem?_cons_succ] at hy
      simp at hv
      exact h2 i y v hy hv

theorem evals_rep {S : St} {ρ : Nat → Option Nat} {X : Nat → Prop} {a : Act} {w : World} (hs : Sim S ρ X a w) {c : Call} {x : Operand} {f : FuncId} {caps : List AV} (hx : S.ev x = .fn (.func f) caps) (hsg : caps.all AV.single = true) :
    ∃ cvs : List Value, a.eval x = .func (.func f) #[] cvs.toArray ∧ (c.args.toList.map S.ev ++ caps).length = (c.args.toList.map a.eval ++ cvs).length ∧
      (∀ (i : Nat) (y : AV) (v : Value), (c.args.toList.map S.ev ++ caps)[i]? = some y → (c.args.toList.map a.eval ++ cvs)[i]? = some v → RepA ρ X w y v) ∧
      ∀ n, n ∈ AV.namesL (c.args.toList.map S.ev ++ caps) → S.hp n ≠ none := by
  have he := hs.ev x
  have hn := hs.evNames x
  rw [hx] at he hn
  obtain ⟨cs, h1, h2⟩ := he
  have nmApp : ∀ {n : Nat} {l m : List AV}, n ∈ AV.namesL (l ++ m) → n ∈ AV.namesL l ∨ n ∈ AV.namesL m := by
    intro n l m
    induction l with
    | nil => intro h; exact .inr h
    | cons y l ih =>
      intro h
      simp only [List.cons_append, AV.namesL, List.mem_append] at h ⊢
      rcases h with h | h
      · exact .inl (.inl h)
      · rcases ih h with h | h
        · exact .inl (.inr h)
        · exact .inr h
  have nmMap : ∀ {n : Nat} {l : List Operand}, n ∈ AV.namesL (l.map S.ev) → S.hp n ≠ none := by
    intro n l
    induction l with
    | nil => intro h; cases h
    | cons y l ih =>
      intro h
      simp only [List.map_cons, AV.namesL, List.mem_append] at h
      rcases h with h | h
      · exact hs.evNames y n h
      · exact ih h
  cases h1 with
  | fn hcs =>
    rename_i vs
    obtain ⟨k1, k2⟩ := hcs.singles hsg
    refine ⟨vs, h2, by simp [k1], fun i y v hy hv => ?_, fun n h => ?_⟩
    · by_cases hi : i < c.args.toList.length
      · rw [List.getElem?_append_left (by simpa using hi)] at hy hv
        rw [List.getElem?_map] at hy hv
        cases hp : c.args.toList[i]? with
        | none => rw [hp] at hy; cases hy
        | some p =>
          rw [hp] at hy hv
          simp only [Option.map_some, Option.some.injEq] at hy hv
          subst hy; subst hv
          exact hs.ev p
      · rw [List.getElem?_append_right (by simp at hi ⊢; omega)] at hy hv
        simp only [List.length_map] at hy hv
        exact k2 _ y v hy hv
    · rcases nmApp h with h | h
      · exact nmMap h
      · exact hn n h

theorem does_call {P : Program} {o : Oper} {S : St} {c : Call} {x : Operand} {a : Act} {w : World} {ρ : Nat → Option Nat} {X : Nat → Prop} (hs : Sim S ρ X a w) (ho : o.op = .call c) (hc : c.callee = .value x) {f : FuncId} {caps : List AV}
    (hx : S.ev x = .fn (.func f) caps) (hsg : caps.all AV.single = true) (hf : callable P f = true) {ms : List Bool} {args' : List AV} {fz : List Nat} {s : Prop} (hcv : cvt S.hp ms (c.args.toList.map S.ev ++ caps) = some (s, args', fz)) (hside : s)
    {R Rp : Value → World → Prop}
    (h : ∀ vs, RepT ρ (less S.hp ρ X fz) w args' vs → (∀ n, n ∈ AV.namesL args' → wr S.hp (deads fz) n ≠ none) → Calls P f vs.toArray w fun e w' => match e with
      | .returned v => R v w'
      | .panicked ch => ∃ pv, ch = [{ v := pv, recovered := false }] ∧ Rp pv w'
      | .outgrown => False) : Does P o a w R Rp := by
  obtain ⟨cvs, e1, e2, e3, e4⟩ := evals_rep hs (c := c) hx hsg
  have hr := cvt_rep hs hcv hside (F := fz) (fun _ h => h) e2 e3
  have hn : ∀ n, n ∈ AV.namesL args' → wr S.hp (deads fz) n ≠ none := fun n hn => wr_ne (e4 n ((cvt_names hcv).1 hn))
  have key := h _ hr hn
  have hrun : (execOp a.eval o).run P w = .ok (.enter f (c.args.toList.map a.eval ++ cvs).toArray) w := by
    simp only [execOp, ho, resolve, hc, e1, Deferred.ofValue]
    rw [run_bind_ok (run_pure _ w)]
    simp only [invoke]
    have : (#[] ++ c.args.map a.eval) ++ cvs.toArray = (c.args.toList.map a.eval ++ cvs).toArray := by
      apply Array.ext'; simp
    rw [this]
    exact callable_run hf _ w
  unfold Does
  rw [hrun]
  exact key

/-! ### Values forced, head first (so that what is computed stays small) -/

def fN (n : Nat) (K : Nat → Prop) : Prop := match n with
  | 0 => K 0
  | n + 1 => K (n + 1)
theorem fN_eq (n : Nat) (K : Nat → Prop) : fN n K = K n := by cases n <;> rfl

def fNs : List Nat → (List Nat → Prop) → Prop
  | [], K => K []
  | n :: l, K => fN n fun m => fNs l fun l' => K (m :: l')
theorem fNs_eq : ∀ (l : List Nat) (K : List Nat → Prop), fNs l K = K l
  | [], _ => rfl
  | n :: l, K => by simp only [fNs, fN_eq, fNs_eq l]

def fK (k : IntKind) (K : IntKind → Prop) : Prop := match k with
  | .i8 => K .i8
  | .i16 => K .i16
  | .i32 => K .i32
  | .i64 => K .i64
  | .u8 => K .u8
  | .u16 => K .u16
  | .u32 => K .u32
  | .u64 => K .u64
theorem fK_eq (k : IntKind) (K : IntKind → Prop) : fK k K = K k := by cases k <;> rfl

mutual
def fD : D → (D → Prop) → Prop
  | .int k n, K => fK k fun k' => K (.int k' n)
  | .bool b, K => K (.bool b)
  | .str s, K => K (.str s)
  | .st fs, K => fDs fs fun fs' => K (.st fs')
  | .arr n e xs, K => fN n fun n' => fN e fun e' => K (.arr n' e' xs)
  | .sl xs, K => K (.sl xs)
  | .nils, K => K .nils
  | .nilp, K => K .nilp
  | .nilf, K => K .nilf
  | .nili, K => K .nili
def fDs : List D → (List D → Prop) → Prop
  | [], K => K []
  | x :: xs, K => fD x fun y => fDs xs fun ys => K (y :: ys)
end

mutual
theorem fD_eq : ∀ (x : D) (K : D → Prop), fD x K = K x
  | .int k n, K => by simp only [fD, fK_eq]
  | .bool _, _ | .str _, _ | .sl _, _ | .nils, _ | .nilp, _ | .nilf, _ | .nili, _ => by simp only [fD]
  | .st fs, K => by simp only [fD]; rw [fDs_eq fs]
  | .arr n e xs, K => by simp only [fD, fN_eq]
theorem fDs_eq : ∀ (xs : List D) (K : List D → Prop), fDs xs K = K xs
  | [], _ => by simp only [fDs]
  | x :: xs, K => by
    simp only [fDs]
    rw [fD_eq x, fDs_eq xs]
end

def fPath : List Stp → (List Stp → Prop) → Prop
  | [], K => K []
  | .fld i o :: p, K => fN i fun i' => fN o fun o' => fPath p fun q => K (.fld i' o' :: q)
  | .ix i e :: p, K => fN e fun e' => fPath p fun q => K (.ix i e' :: q)
theorem fPath_eq : ∀ (p : List Stp) (K : List Stp → Prop), fPath p K = K p
  | [], _ => rfl
  | .fld i o :: p, K => by simp only [fPath, fN_eq, fPath_eq p]
  | .ix i e :: p, K => by simp only [fPath, fN_eq, fPath_eq p]

def fFn (f : Fn) (K : Fn → Prop) : Prop := match f with
  | .func n => fN n fun n => K (.func n)
  | f => K f
theorem fFn_eq (f : Fn) (K : Fn → Prop) : fFn f K = K f := by cases f <;> simp only [fFn, fN_eq]

mutual
def fAV : AV → (AV → Prop) → Prop
  | .d x, K => fD x fun y => K (.d y)
  | .ptr o p, K => fN o fun o' => fPath p fun q => K (.ptr o' q)
  | .sl o p e off len, K => fN o fun o' => fPath p fun q => fN e fun e' => K (.sl o' q e' off len)
  | .st fs, K => fAVs fs fun fs' => K (.st fs')
  | .dptr x, K => fD x fun y => K (.dptr y)
  | .fn f cs, K => fFn f fun f' => fAVs cs fun cs' => K (.fn f' cs')
  | .tup vs, K => fAVs vs fun vs' => K (.tup vs')
  | .top, K => K .top
  | .cst v, K => K (.cst v)
def fAVs : List AV → (List AV → Prop) → Prop
  | [], K => K []
  | x :: xs, K => fAV x fun y => fAVs xs fun ys => K (y :: ys)
end

mutual
theorem fAV_eq : ∀ (x : AV) (K : AV → Prop), fAV x K = K x
  | .d x, K => by simp only [fAV, fD_eq]
  | .ptr o p, K => by simp only [fAV, fN_eq, fPath_eq]
  | .sl o p e off len, K => by simp only [fAV, fN_eq, fPath_eq]
  | .st fs, K => by simp only [fAV]; rw [fAVs_eq fs]
  | .dptr x, K => by simp only [fAV, fD_eq]
  | .fn f cs, K => by simp only [fAV, fFn_eq]; rw [fAVs_eq cs]
  | .tup vs, K => by simp only [fAV]; rw [fAVs_eq vs]
  | .top, K => by simp only [fAV]
  | .cst v, K => by simp only [fAV]
theorem fAVs_eq : ∀ (xs : List AV) (K : List AV → Prop), fAVs xs K = K xs
  | [], _ => by simp only [fAVs]
  | x :: xs, K => by
    simp only [fAVs]
    rw [fAV_eq x, fAVs_eq xs]
end

def fObj : AObj → (AObj → Prop) → Prop
  | .var x, K => fAV x fun y => K (.var y)
  | .row e xs, K => fN e fun e' => K (.row e' xs)
  | .dead, K => K .dead
theorem fObj_eq : ∀ (x : AObj) (K : AObj → Prop), fObj x K = K x
  | .var x, K => by simp only [fObj, fAV_eq]
  | .row e xs, K => by simp only [fObj, fN_eq]
  | .dead, K => rfl

def fWs : List (Nat × AObj) → (List (Nat × AObj) → Prop) → Prop
  | [], K => K []
  | p :: l, K => fN p.1 fun n => fObj p.2 fun x => fWs l fun l' => K ((n, x) :: l')
theorem fWs_eq : ∀ (l : List (Nat × AObj)) (K : List (Nat × AObj) → Prop), fWs l K = K l
  | [], _ => rfl
  | p :: l, K => by simp only [fWs, fN_eq, fObj_eq, fWs_eq l]

def fFoot (φ : Foot) (K : Foot → Prop) : Prop := fNs φ.rd fun a => fNs φ.wr fun b => fNs φ.nw fun c => K ⟨a, b, c⟩
theorem fFoot_eq (φ : Foot) (K : Foot → Prop) : fFoot φ K = K φ := by simp only [fFoot, fNs_eq]

/-- What is left to be shown by hand; by a computation. -/
structure Side (p : Prop) : Prop where
  h : p
theorem Side_eq (p : Prop) : Side p = p := propext ⟨fun h => h.h, fun h => ⟨h⟩⟩
structure Chk (b : Bool) : Prop where
  h : b = true
theorem Chk_eq (b : Bool) : Chk b = (b = true) := propext ⟨fun h => h.h, fun h => ⟨h⟩⟩
/-- What is looked at later (a wall for whoever computes). -/
structure Later (p : Prop) : Prop where
  h : p
theorem Later_eq (p : Prop) : Later p = p := propext ⟨fun h => h.h, fun h => ⟨h⟩⟩

end Go.Sym
