/-
A function by its body: from 'wpC' of the body to what is said of its calls.
-/
import Derived.Test.YthedcaopedbpdaaSymu
import Derived.Laws.Sem
import Derived.Tactics
namespace Go.Sym

/-! ### What a body hands back -/

def aRes1 (P : Program) (S : St) : ResultVar → Option (Prop × AV)
  | .tmp t => bif Nat.blt t S.n then some (True, S.sl t) else none
  | .cell t T => bif Nat.blt t S.n then match aLoad P T S.hp (S.sl t) with
      | some res => some (res.side, res.r)
      | none => none
    else none

def aRes (P : Program) (S : St) : List ResultVar → Option (Prop × List AV)
  | [] => some (True, [])
  | r :: rs => match aRes1 P S r, aRes P S rs with
    | some (s, x), some (s', xs) => some (s ∧ s', x :: xs)
    | _, _ => none

/-- One result, read. -/
def rdRes (tmps : Array Value) : ResultVar → Sem Value
  | .tmp t => pure (tmps.getD t undef)
  | .cell t T => do loadVar T (← asAddr (tmps.getD t undef))

theorem run_asAddr {P : Program} {w : World} (x : Addr) (T : TypeId) : (do loadVar T (← asAddr (.pointer (some x))) : Sem Value).run P w = (loadVar T x).run P w := by
  have h : (asAddr (.pointer (some x))).run P w = .ok x w := rfl
  rw [run_bind_ok h]

theorem aRes1_run {P : Program} {S : St} {ρ : Nat → Option Nat} {X : Nat → Prop} {a : Act} {w : World} (hs : Sim S ρ X a w) {rv : ResultVar} {s : Prop} {x : AV} (h : aRes1 P S rv = some (s, x)) (hside : s) :
    ∃ v, (rdRes a.tmps rv).run P w = .ok v w ∧ RepA ρ X w x v ∧ ∀ n, n ∈ x.names → S.hp n ≠ none := by
  cases rv with
  | tmp t =>
    simp only [aRes1] at h
    cases hb : Nat.blt t S.n <;> simp only [hb, cond_true, cond_false] at h <;> cases h
    have hlt : t < a.tmps.size := by rw [hs.n]; simpa using hb
    refine ⟨_, rfl, hs.slots t _ ?_, hs.closedS t⟩
    rw [Array.getD_eq_getD_getElem?, Array.getElem?_eq_getElem hlt]; rfl
  | cell t T =>
    simp only [aRes1] at h
    cases hb : Nat.blt t S.n <;> simp only [hb, cond_true, cond_false] at h <;> try (cases h; done)
    have hlt : t < a.tmps.size := by rw [hs.n]; simpa using hb
    have hv := hs.slots t (a.tmps.getD t undef) (by rw [Array.getD_eq_getD_getElem?, Array.getElem?_eq_getElem hlt]; rfl)
    simp only [rdRes]
    generalize a.tmps.getD t undef = v at hv ⊢
    split at h <;> cases h
    rename_i res hl
    cases hx : S.sl t <;> rw [hx] at hl <;> simp only [aLoad] at hl <;> try (cases hl; done)
    · rename_i n p
      split at hl <;> try (cases hl; done)
      rename_i obj hobj
      split at hl <;> try (cases hl; done)
      rename_i s y hn
      cases ht : tyOK P T y.size y.isAgg <;> simp only [ht, cond_true, cond_false] at hl <;> try (cases hl; done)
      cases hl
      rw [hx] at hv
      obtain ⟨b, hb0, rfl⟩ := repA_ptr hv
      obtain ⟨b', pre, c, post, T', z, h0, h1, h2, h3⟩ := objNav_rep hn hside (hs.objs n obj hobj)
      rw [hb0] at h0; cases h0
      have hrow := rowAt_of_heap h1
      rw [h2] at hrow
      have hl : c.length = y.size := h3.length
      refine ⟨wrapV y.isAgg c, ?_, repA_of_c h3, fun m hm => hs.closedH n obj hobj m (objNav_names hn m hm)⟩
      rw [run_asAddr]
      exact run_loadVar hrow (by rw [hl]; exact ht) (fun hag => notAgg_size h3 hag)
    · rename_i y
      cases ht : tyOK P T y.size y.isAgg <;> simp only [ht, cond_true, cond_false] at hl <;> try (cases hl; done)
      cases hl
      rw [hx] at hv
      obtain ⟨b, q, cs, rfl, h1, h2, h3, h4⟩ := repA_dptr hv
      refine ⟨wrapV y.isAgg cs, ?_, repA_mk h4, fun m hm => by cases hm⟩
      rw [run_asAddr]
      exact run_loadVar h3 (by rw [h4.length]; exact ht) (fun hag => notAgg_size (ρ := ρ) (.d h4) hag)

theorem aRes_run {P : Program} {S : St} {ρ : Nat → Option Nat} {X : Nat → Prop} {a : Act} {w : World} (hs : Sim S ρ X a w) : ∀ {rvs : List ResultVar} {s : Prop} {xs : List AV}, aRes P S rvs = some (s, xs) → s →
    ∃ vs : List Value, (rvs.mapM (rdRes a.tmps)).run P w = .ok vs w ∧ xs.length = vs.length ∧
      (∀ (i : Nat) (x : AV) (v : Value), xs[i]? = some x → vs[i]? = some v → RepA ρ X w x v) ∧ ∀ n, n ∈ AV.namesL xs → S.hp n ≠ none
  | [], s, xs, h, _ => by
    simp only [aRes, Option.some.injEq, Prod.mk.injEq] at h
    obtain ⟨_, rfl⟩ := h
    exact ⟨[], rfl, rfl, fun i x v h => by simp at h, fun n h => by cases h⟩
  | r :: rs, s, xs, h, hside => by
    simp only [aRes] at h
    split at h <;> cases h
    rename_i h1 h2
    obtain ⟨v, k1, k2, k3⟩ := aRes1_run hs h1 hside.1
    obtain ⟨vs, m1, m2, m3, m4⟩ := aRes_run hs h2 hside.2
    refine ⟨v :: vs, ?_, by simp [m2], fun i x u hx hu => ?_, fun n hn => ?_⟩
    · rw [List.mapM_cons]
      rw [run_bind_ok k1, run_bind_ok m1]; rfl
    · cases i with
      | zero =>
        simp only [List.getElem?_cons_zero, Option.some.injEq] at hx hu
        subst hx; subst hu; exact k2
      | succ i => exact m3 i x u (by simpa using hx) (by simpa using hu)
    · simp only [AV.namesL, List.mem_append] at hn
      exact hn.elim (k3 n) (m4 n)

def oneV : List Value → Value
  | [v] => v
  | vs => .tuple vs.toArray

theorem results_run {P : Program} {fn : Func} {a : Act} {w : World} {vs : List Value} (h : (fn.results.toList.mapM (rdRes a.tmps)).run P w = .ok vs w) :
    (results fn a.tmps).run P w = .ok (oneV vs) w := by
  have e : results fn a.tmps = (do
      let vs ← fn.results.mapM (rdRes a.tmps)
      pure (if h : vs.size = 1 then vs[0] else .tuple vs)) := rfl
  rw [e, Array.mapM_eq_mapM_toList, bind_map_left]
  refine (run_bind_ok h).trans ?_
  match vs with
  | [] => rfl
  | [_] => rfl
  | _ :: _ :: _ => rfl

/-! ### The frame at the start -/

def enumA : Nat → List AV → List (Nat × AV)
  | _, [] => []
  | i, x :: xs => (i, x) :: enumA (i + 1) xs

theorem enumA_lkp : ∀ (xs : List AV) (i t : Nat) (x : AV), lkp (enumA i xs) t = some x → i ≤ t ∧ xs[t - i]? = some x
  | [], _, _, _, h => by cases h
  | y :: xs, i, t, x, h => by
    simp only [enumA, lkp] at h
    cases hb : i.beq t with
    | true =>
      simp only [hb, cond_true, Option.some.injEq] at h
      have := Nat.eq_of_beq_eq_true hb
      subst this; subst h
      exact ⟨Nat.le_refl _, by simp⟩
    | false =>
      simp only [hb, cond_false] at h
      obtain ⟨h1, h2⟩ := enumA_lkp xs (i + 1) t x h
      refine ⟨by omega, ?_⟩
      rw [show t - i = (t - (i + 1)) + 1 by omega, List.getElem?_cons_succ]
      exact h2

def entOK (n : Nat) (args : List AV) (pre : List (Nat × AObj)) : Bool :=
  Nat.ble args.length n && args.all (fun x => x.names.all (hasKey pre)) && pre.all (fun p => p.2.names.all (hasKey pre))

theorem namesL_mem {n : Nat} : ∀ {xs : List AV}, n ∈ AV.namesL xs ↔ ∃ x, x ∈ xs ∧ n ∈ x.names
  | [] => by simp [AV.namesL]
  | x :: xs => by simp [AV.namesL, namesL_mem (xs := xs)]

theorem RepT.length {ρ : Nat → Option Nat} {X : Nat → Prop} {w : World} : ∀ {xs : List AV} {vs : List Value}, RepT ρ X w xs vs → xs.length = vs.length
  | [], [], _ => rfl
  | _ :: _, _ :: _, h => by simp [RepT.length h.2]
  | [], _ :: _, h => h.elim
  | _ :: _, [], h => h.elim

theorem RepA1.toA {ρ : Nat → Option Nat} {X : Nat → Prop} {w : World} {x : AV} {v : Value} (h : RepA1 ρ X w x v) : RepA ρ X w x v := by
  obtain ⟨cs, h1, h2⟩ := h
  rw [h2]; exact repA_of_c h1

theorem HSim.start {hp : Nat → Option AObj} {ρ : Nat → Option Nat} {X : Nat → Prop} {w : World} {n : Nat} {args : List AV} {pre : List (Nat × AObj)} {vs : List Value} (hh : HSim hp ρ X w) (hr : RepT ρ X w args vs)
    (hpre : ∀ p, p ∈ pre → hp p.1 = some p.2) (hok : entOK n args pre = true) :
    Inv ⟨fun o => lkp pre o, ρ, X, w, [], false⟩ (mkSt n (enumA 0 args) pre) { tmps := vs.toArray ++ Array.replicate (n - vs.toArray.size) undef, defers := [] } w := by
  simp only [entOK, Bool.and_eq_true, List.all_eq_true, hasKey, Option.isSome_iff_ne_none] at hok
  obtain ⟨⟨k0, k1⟩, k2⟩ := hok
  have hlen : args.length ≤ n := by simpa using k0
  have hvl := hr.length
  have sl : ∀ t x, lkp (enumA 0 args) t = some x → args[t]? = some x := fun t x h => (enumA_lkp args 0 t x h).2
  refine ⟨ρ, X, ⟨⟨?_, fun t v ht => ?_, fun o x h => ?_, fun o o' x x' b e1 e2 e3 e4 e5 e6 => ?_, fun o x b e1 e2 e3 => ?_, fun t o ho => ?_, fun o x h o' ho' => ?_⟩,
    .refl _ _, fun b _ => ⟨id, .inl⟩, fun o x b e1 e2 e3 => .inr ⟨o, x, e1, e2, e3⟩, fun o ho => ⟨ho, rfl⟩, ⟨[], rfl, fun _ => rfl, .nil, fun D hD => by cases hD⟩⟩⟩
  · show (vs.toArray ++ Array.replicate (n - vs.toArray.size) undef).size = n
    simp; omega
  · show RepA ρ X w (match lkp (enumA 0 args) t with | some x => x | none => .top) v
    cases hl : lkp (enumA 0 args) t with
    | none => trivial
    | some x =>
      have hx := sl t x hl
      have hlt : t < args.length := (List.getElem?_eq_some_iff.1 hx).1
      obtain ⟨u, hu1, hu2⟩ := hr.get hx
      have ht' : (vs.toArray ++ Array.replicate (n - vs.toArray.size) undef)[t]? = some v := ht
      rw [Array.getElem?_append_left (by simpa [← hvl] using hlt)] at ht'
      have : u = v := by simpa [hu1] using ht'
      rw [← this]; exact hu2.toA
  · exact hh.objs o x (hpre (o, x) (lkp_mem h))
  · exact hh.inj o o' x x' b (hpre _ (lkp_mem e1)) e2 (hpre _ (lkp_mem e3)) e4 e5 e6
  · exact hh.own o x b (hpre _ (lkp_mem e1)) e2 e3
  · have ho : o ∈ (match lkp (enumA 0 args) t with | some x => x | none => .top : AV).names := ho
    cases hl : lkp (enumA 0 args) t with
    | none => rw [hl] at ho; cases ho
    | some x => rw [hl] at ho; exact k1 x (List.mem_of_getElem? (sl t x hl)) o ho
  · exact k2 _ (lkp_mem h) o' ho'

/-! ### The end -/

def one : List AV → AV
  | [x] => x
  | xs => .tup xs

def eqAVs : List AV → List AV → Prop
  | [], [] => True
  | x :: xs, y :: ys => eqAV x y ∧ eqAVs xs ys
  | _, _ => False

theorem eqAVs_spec : ∀ {xs ys : List AV}, eqAVs xs ys → xs = ys
  | [], [], _ => rfl
  | _ :: _, _ :: _, h => by rw [eqAV_spec h.1, eqAVs_spec h.2]
  | [], _ :: _, h => h.elim
  | _ :: _, [], h => h.elim

/-- What a contract says is there behind the call, of what it names. -/
def finHp (pre : List (Nat × AObj)) (ws : List (Nat × AObj)) : List (Nat × AObj) := ws ++ pre.filter fun p => !(hasKey ws p.1)

def finOK (pre : List (Nat × AObj)) (nw : List Nat) (m : List (Nat × Nat)) (rs : List AV) (ws : List (Nat × AObj)) : Bool :=
  wkOK (pre.map (·.1)) m [(0, .tup rs)] (finHp pre ws) && nw.all (hasKey ws) && ws.all (fun p => hasKey pre p.1 || nw.contains p.1)

structure RetC (P : Program) (fn : Func) (pre : List (Nat × AObj)) (nw : List Nat) (rs : List AV) (ws : List (Nat × AObj)) (S : St) : Prop where
  h : ∃ (ms : List Bool) (m : List (Nat × Nat)) (s s' : Prop) (xs ys : List AV) (fz kl : List Nat), aRes P S fn.results.toList = some (s, xs) ∧ s ∧ cvt S.hp ms xs = some (s', ys, fz) ∧ s' ∧ eqAVs ys (AV.rens m rs) ∧
    Chk (finOK pre nw m rs ws) ∧ wkHp (S.write (deads (fz ++ kl))) m (finHp pre ws)

def FnC (P : Program) (fn : Func) (c : Code) (fr : List (Nat × List Nat)) (args : List AV) (pre : List (Nat × AObj)) (nw : List Nat) (rs : List AV) (ws : List (Nat × AObj)) : Prop :=
  Chk (entOK fn.ntmps args pre) ∧ wpC P fr false (pre.map (·.1)) c (mkSt fn.ntmps (enumA 0 args) pre) (fun e S' => match e with
    | .normal => RetC P fn pre nw rs ws S'
    | .ret => RetC P fn pre nw rs ws S'
    | _ => False) (fun _ _ => False)

/-- What is there where a call panics. -/
structure PanC (pre : List (Nat × AObj)) (nw : List Nat) (ws : List (Nat × AObj)) (S : St) : Prop where
  h : ∃ (m : List (Nat × Nat)) (kl : List Nat), Chk (finOK pre nw m [] ws) ∧ wkHp (S.write (deads kl)) m (finHp pre ws)

def FnPan (P : Program) (fn : Func) (c : Code) (fr : List (Nat × List Nat)) (args : List AV) (pre : List (Nat × AObj)) (nw : List Nat) (pv : Value) (ws : List (Nat × AObj)) : Prop :=
  Chk (entOK fn.ntmps args pre) ∧ wpC P fr false (pre.map (·.1)) c (mkSt fn.ntmps (enumA 0 args) pre) (fun _ _ => False) (fun v S' => Side (v = pv) ∧ PanC pre nw ws S')

theorem lkp_filter {α : Type} {q : Nat → Bool} {n : Nat} : ∀ {l : List (Nat × α)}, q n = true → lkp (l.filter fun p => q p.1) n = lkp l n
  | [], _ => rfl
  | (k, v) :: l, h => by
    cases hq : q k with
    | true =>
      rw [List.filter_cons_of_pos (by simpa using hq)]
      simp only [lkp]
      rw [lkp_filter h]
    | false =>
      rw [List.filter_cons_of_neg (by simp [hq])]
      simp only [lkp]
      have : k.beq n = false := by
        cases hb : k.beq n with
        | false => rfl
        | true => have := Nat.eq_of_beq_eq_true hb; subst this; rw [h] at hq; cases hq
      rw [this, cond_false]
      exact lkp_filter h

theorem finHp_lkp (pre ws : List (Nat × AObj)) (n : Nat) : lkp (finHp pre ws) n = match lkp ws n with
    | some x => some x
    | none => lkp pre n := by
  unfold finHp
  rw [lkp_append]
  cases h : lkp ws n with
  | some x => rfl
  | none => exact lkp_filter (q := fun k => !hasKey ws k) (by simp [hasKey, h])

open Classical in
/-- **What holds behind the call, for the caller.** -/
theorem fin_call {hp : Nat → Option AObj} {ρ : Nat → Option Nat} {X : Nat → Prop} {w : World} {pre : List (Nat × AObj)} {nw : List Nat} (hh : HSim hp ρ X w) (hpre : ∀ p, p ∈ pre → hp p.1 = some p.2) (hnw : ∀ n, n ∈ nw → hp n = none)
    {S : St} {ρ' : Nat → Option Nat} {X' : Nat → Prop} {a : Act} {w' : World} {ds : List Deferred} {nm : Bool} (hA : InvAt ⟨fun o => lkp pre o, ρ, X, w, ds, nm⟩ S ρ' X' a w') {m : List (Nat × Nat)} {rs : List AV} {ws : List (Nat × AObj)}
    (hok : finOK pre nw m rs ws = true) (hw : wkHp S m (finHp pre ws)) :
    ∃ ρf : Nat → Option Nat, HSim (wr hp ws) ρf X' w' ∧ HEvo hp (wr hp ws) ρ ρf X X' w w' ∧ (∀ n, n ∈ AV.namesL rs → ρf n = ρ' (renN m n) ∧ wr hp ws n ≠ none) := by
  simp only [finOK, wkOK, Bool.and_eq_true, List.all_eq_true, Bool.or_eq_true, Bool.not_eq_true', hasKey, Option.isSome_iff_ne_none, List.contains_eq_mem, decide_eq_true_eq] at hok
  obtain ⟨⟨⟨⟨⟨k1, k2⟩, k3⟩, k4⟩, k5⟩, k6⟩ := hok
  let ρf : Nat → Option Nat := fun n => if hp n ≠ none then ρ n else ρ' (renN m n)
  -- the names of the contract
  have hwr : ∀ n x, wr hp ws n = some x → lkp (finHp pre ws) n = some x ∨ (lkp ws n = none ∧ lkp pre n = none ∧ hp n = some x) := fun n x h => by
    rw [finHp_lkp]
    unfold wr at h
    cases hl : lkp ws n with
    | some y => simp only [hl] at h ⊢; exact .inl h
    | none =>
      simp only [hl] at h ⊢
      cases hp' : lkp pre n with
      | none => exact .inr ⟨trivial, rfl, h⟩
      | some y => left; rw [← hpre _ (lkp_mem hp')]; exact h
  have hfin : ∀ n, lkp (finHp pre ws) n ≠ none → ρf n = ρ' (renN m n) ∧ wr hp ws n ≠ none := fun n h => by
    rw [finHp_lkp] at h
    have preCase : lkp pre n ≠ none → ρf n = ρ' (renN m n) ∧ hp n ≠ none := fun hn => by
      obtain ⟨x, hx⟩ := Option.ne_none_iff_exists'.1 hn
      have hpn : hp n ≠ none := by rw [hpre _ (lkp_mem hx)]; simp
      have hm : renN m n = n := Nat.eq_of_beq_eq_true (k4 n (List.mem_map.2 ⟨_, lkp_mem hx, rfl⟩)).1
      refine ⟨?_, hpn⟩
      show (if hp n ≠ none then ρ n else ρ' (renN m n)) = _
      rw [if_pos hpn, hm]
      exact (hA.same n hn).2.symm
    by_cases hn : lkp pre n = none
    · cases hl : lkp ws n with
      | none => rw [hl] at h; exact absurd hn h
      | some x =>
        have hnn : n ∈ nw := by
          rcases k6 _ (lkp_mem hl) with h' | h'
          · exact absurd hn h'
          · exact h'
        refine ⟨?_, ?_⟩
        · show (if hp n ≠ none then ρ n else ρ' (renN m n)) = _
          rw [if_neg (by rw [hnw n hnn]; simp)]
        · unfold wr; rw [hl]; simp
    · obtain ⟨h1, h2⟩ := preCase hn
      exact ⟨h1, wr_ne h2⟩
  have hobj : ∀ n x, lkp (finHp pre ws) n = some x → S.hp (renN m n) = some (x.ren m) := fun n x h => wkHp_spec hw n x (lkp_mem h)
  have hEown : ∀ b, Ent.own ⟨fun o => lkp pre o, ρ, X, w, ds, nm⟩ b → ∃ o x, hp o = some x ∧ x.alive = true ∧ ρ o = some b := fun b ⟨o, x, h1, h2, h3⟩ => ⟨o, x, hpre _ (lkp_mem h1), h2, h3⟩
  have hEX : ∀ b, Ent.own ⟨fun o => lkp pre o, ρ, X, w, ds, nm⟩ b → X b := fun b hb => by
    obtain ⟨o, x, h1, h2, h3⟩ := hEown b hb; exact hh.own o x b h1 h2 h3
  -- an object that the contract does not name
  have hoth : ∀ n x b, lkp pre n = none → hp n = some x → x.alive = true → ρ n = some b → b < w.heap.size ∧ ¬ Ent.own ⟨fun o => lkp pre o, ρ, X, w, ds, nm⟩ b := fun n x b hn hx ha hb => by
    refine ⟨(hh.objs n x hx).lt ha hb, ?_⟩
    rintro ⟨o, y, h1, h2, h3⟩
    have := hh.inj n o x y b hx ha (hpre _ (lkp_mem h1)) h2 hb h3
    subst this
    have h1 : lkp pre n = some y := h1
    rw [hn] at h1; cases h1
  have hρf : ∀ n, hp n ≠ none → ρf n = ρ n := fun n h => if_pos h
  have g : Goes ρ ρf X X' (Ent.own ⟨fun o => lkp pre o, ρ, X, w, ds, nm⟩) w w' := ⟨hA.ext, fun b _ h1 h2 => h1 (hEX b h2), fun b hb h => (hA.xs b hb).1 h⟩
  have own : ∀ n x b, wr hp ws n = some x → x.alive = true → ρf n = some b → X' b ∧ (w.heap.size ≤ b ∨ ∃ o' x', hp o' = some x' ∧ x'.alive = true ∧ ρ o' = some b) := fun n x b h1 h2 h3 => by
    rcases hwr n x h1 with h | ⟨e1, e2, e3⟩
    · have hb := (hfin n (by rw [h]; simp)).1
      rw [hb] at h3
      have ha : (x.ren m).alive = true := by rw [AObj.ren_alive]; exact h2
      exact ⟨hA.sim.own _ _ b (hobj n x h) ha h3, (hA.own _ _ b (hobj n x h) ha h3).imp id (hEown b)⟩
    · rw [hρf n (by rw [e3]; simp)] at h3
      obtain ⟨q1, q2⟩ := hoth n x b e2 e3 h2 h3
      refine ⟨?_, .inr ⟨n, x, e3, h2, h3⟩⟩
      rcases (hA.xs b q1).2 (hh.own n x b e3 h2 h3) with k | k
      · exact k
      · exact absurd k q2
  refine ⟨ρf, ⟨fun n x h => ?_, fun o o' x x' b e1 e2 e3 e4 e5 e6 => ?_, fun o x b e1 e2 e3 => (own o x b e1 e2 e3).1, fun n x h o' ho' => ?_⟩, ⟨?_, fun b hb => ⟨(hA.xs b hb).1, fun k => ?_⟩, fun o x b e1 e2 e3 => (own o x b e1 e2 e3).2, hρf⟩, fun n hn => ?_⟩
  · rcases hwr n x h with h | ⟨e1, e2, e3⟩
    · have h1 := ObjAt.ren (hA.sim.objs _ _ (hobj n x h))
      refine h1.mono (Y := fun _ => False) ⟨.refl _ _, fun _ _ _ h => h, fun _ _ h => h⟩ (hfin n (by rw [h]; simp)).1 (fun _ _ => rfl) fun o ho => (hfin o (k2 _ (lkp_mem h) o ho)).1
    · have hne : hp n ≠ none := by rw [e3]; simp
      cases ha : x.alive with
      | false => cases x <;> first | trivial | cases ha
      | true =>
        refine (hh.objs n x e3).mono g (hρf n hne) (fun b hb => ?_) fun o ho => hρf o (hh.closed n x e3 o ho)
        obtain ⟨q1, q2⟩ := hoth n x b e2 e3 ha hb
        exact hA.ext.keep b q1 q2
  · rcases hwr o x e1 with h | ⟨q1, q2, q3⟩
    · have hb := (hfin o (by rw [h]; simp)).1
      rw [hb] at e5
      have ha : (x.ren m).alive = true := by rw [AObj.ren_alive]; exact e2
      rcases hwr o' x' e3 with h' | ⟨q1', q2', q3'⟩
      · have hb' := (hfin o' (by rw [h']; simp)).1
        rw [hb'] at e6
        have ha' : (x'.ren m).alive = true := by rw [AObj.ren_alive]; exact e4
        have := hA.sim.inj _ _ _ _ b (hobj o x h) ha (hobj o' x' h') ha' e5 e6
        rcases k3 _ (lkp_mem h) _ (lkp_mem h') with h | h
        · exact Nat.eq_of_beq_eq_true h
        · simp only at h
          rw [this] at h; simp at h
      · rw [hρf o' (by rw [q3']; simp)] at e6
        obtain ⟨z1, z2⟩ := hoth o' x' b q2' q3' e4 e6
        rcases hA.own _ _ b (hobj o x h) ha e5 with k | k
        · have : w.heap.size ≤ b := k
          omega
        · exact absurd k z2
    · rw [hρf o (by rw [q3]; simp)] at e5
      obtain ⟨z1, z2⟩ := hoth o x b q2 q3 e2 e5
      rcases hwr o' x' e3 with h' | ⟨q1', q2', q3'⟩
      · have hb' := (hfin o' (by rw [h']; simp)).1
        rw [hb'] at e6
        have ha' : (x'.ren m).alive = true := by rw [AObj.ren_alive]; exact e4
        rcases hA.own _ _ b (hobj o' x' h') ha' e6 with k | k
        · have : w.heap.size ≤ b := k
          omega
        · exact absurd k z2
      · rw [hρf o' (by rw [q3']; simp)] at e6
        exact hh.inj o o' x x' b q3 e2 q3' e4 e5 e6
  · rcases hwr n x h with h | ⟨e1, e2, e3⟩
    · exact (hfin o' (k2 _ (lkp_mem h) o' ho')).2
    · exact wr_ne (hh.closed n x e3 o' ho')
  · exact hA.ext.mono fun b _ hb => hEown b hb
  · exact ((hA.xs b hb).2 k).imp id (hEown b)
  · have hm : n ∈ (AV.tup rs).names := by simpa only [AV.names] using hn
    exact hfin n (k1 (0, .tup rs) (by simp) n hm)

end Go.Sym
