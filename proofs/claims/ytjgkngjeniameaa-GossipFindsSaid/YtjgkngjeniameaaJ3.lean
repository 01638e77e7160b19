import Derived.Test.YtjgkngjeniameaaJ2
import Derived.WideKeyArgs
import Derived.Below
import Derived.RowKit
import Derived.ChangeOld
set_option linter.unusedSimpArgs false
set_option linter.unusedVariables false
namespace Go.Sym
open Go.ChangeShapes Go.RowKit
section
variable {H : Type} {enc : TypeId × Value → H} {P : Program} {w : World}
theorem arg_rep {n : Nat} {t : TypeId} {v : Value} {d : DataW H} {ps : List MemPlace} {sp : Nat → Bool} {held : Bool} {r : Reach} {b : Nat} (hp : plainT P n t = true) (hval : Value.okWide P w r b t v) (h : DataW.Trod enc P w 0 sp held t v d ps) :
    ∃ x, RepA1 (fun _ => none) noX w (.d x) v ∧ okD P n t x ∧ RelD x d := by
  obtain ⟨x, k1, k2, _, k4⟩ := trod_rep n t v.cells.toList (d, ps) hp h
  refine ⟨x, ⟨v.cells.toList, .d k1, ?_⟩, k2, k4⟩
  show v = wrapV x.isAgg v.cells.toList
  cases n with
  | zero => simp [plainT] at hp
  | succ n =>
    simp only [okD] at k2
    simp only [Value.okWide] at hval
    split at k2
    · rename_i hu
      obtain ⟨q, rfl⟩ := k2
      simp only [hu, Cell.okWide, Cell.ok] at hval
      cases v <;> first | exact hval.elim | rfl
    · rename_i k hu
      obtain ⟨q, rfl, _⟩ := k2
      simp only [hu, Cell.okWide, Cell.ok] at hval
      cases v <;> first | exact hval.elim | rfl
    · rename_i hu
      obtain ⟨q, rfl, _⟩ := k2
      simp only [hu, Cell.okWide, Cell.ok] at hval
      cases v <;> first | exact hval.elim | rfl
    · rename_i fs hu
      obtain ⟨q, rfl, _⟩ := k2
      simp only [hu] at hval
      obtain ⟨cs, rfl, _⟩ := hval
      simp [wrapV, D.isAgg, Value.cells]
    · rename_i m e hu
      obtain ⟨q, rfl, _⟩ := k2
      simp only [hu] at hval
      obtain ⟨cs, rfl, _⟩ := hval
      simp [wrapV, D.isAgg, Value.cells]
    · rename_i e hu
      obtain ⟨q, rfl, _⟩ := k2
      simp only [hu, Cell.okWide, Cell.ok] at hval
      cases v <;> first | exact hval.elim | rfl
    · exact k2.elim
theorem args_rep {n : Nat} {sp : Nat → Bool} {held : Bool} {r : Reach} {b : Nat} : ∀ {ts : List TypeId} {vs : List Value} {ds : List (DataW H)} {ps : List MemPlace}, ts.all (plainT P n) = true →
    (∀ (j : Nat) t v, ts[j]? = some t → vs[j]? = some v → Value.okWide P w r b t v) → DataW.TrodAll enc P w 0 sp held ts vs ds ps →
    ∃ xs, RepT (fun _ => none) noX w (xs.map AV.d) vs ∧ okAll (okD P n) ts xs ∧ RelL xs ds
  | [], [], [], _, _, _, _ => ⟨[], trivial, trivial, .nil⟩
  | t :: ts, v :: vs, d :: ds, _, hp, hv, ⟨p, q, h1, h2, _⟩ => by
    simp only [List.all_cons, Bool.and_eq_true] at hp
    obtain ⟨x, k1, k2, k3⟩ := arg_rep hp.1 (hv 0 t v rfl rfl) h1
    obtain ⟨xs, m1, m2, m3⟩ := args_rep hp.2 (fun j t v ht hv' => hv (j + 1) t v (by simpa using ht) (by simpa using hv')) h2
    exact ⟨x :: xs, ⟨k1, m1⟩, ⟨k2, m2⟩, .cons k3 m3⟩
  | [], [], _ :: _, _, _, _, h => h.elim
  | [], _ :: _, _, _, _, _, h => h.elim
  | _ :: _, [], _, _, _, _, h => h.elim
  | _ :: _, _ :: _, [], _, _, _, h => h.elim
theorem trodAll_stays (hl : laidOutB P = true) {W W' : World} (he : Ext noX W W') : ∀ {ts : List TypeId} {vs : List Value} {ds : List (DataW H)} {ps : List MemPlace}, (ts.all fun t => P.readableRec t && decide (t < P.types.size)) = true → (∀ p ∈ ps, p.block < W.heap.size) →
    DataW.TrodAll enc P W 0 (fun _ => true) true ts vs ds ps → DataW.TrodAll enc P W' 0 (fun b => decide (b < W.heap.size)) true ts vs ds ps
  | [], [], [], _, _, _, h => h
  | t :: ts, v :: vs, d :: ds, _, ht, hp, ⟨p, q, h1, h2, e⟩ => by
    simp only [List.all_cons, Bool.and_eq_true, decide_eq_true_eq] at ht
    subst e
    have hsame : ∀ x ∈ p, W.sameAt W' x := fun x hx => by
      have hb := hp x (List.mem_append_left _ hx)
      have := he.keep x.block hb (fun h => h)
      cases x with
      | cell b o => exact World.cell?_of_block (w := W) this
      | map b => exact this
    exact ⟨p, q, WideElems.Trod_stays hl ht.1.1 ht.1.2 h1 hsame (fun x hx => by simpa using hp x (List.mem_append_left _ hx)), trodAll_stays hl he ht.2 (fun x hx => hp x (List.mem_append_right _ hx)) h2, rfl⟩
  | [], [], _ :: _, _, _, _, h => h.elim
  | [], _ :: _, _, _, _, _, h => h.elim
  | _ :: _, [], _, _, _, _, h => h.elim
  | _ :: _, _ :: _, [], _, _, _, h => h.elim
theorem Ext.kept {W W' : World} (he : Ext noX W W') (may : MemPlace → Prop) : W.keptBut W' may := by
  refine ⟨he.os, he.output, fun i hi => ?_⟩
  have := he.keep i hi (fun h => h)
  rw [this]
  cases W.heap[i]? with
  | none => rfl
  | some o => cases o <;> simp
theorem law_post {f : Func} {s : ChangeSpec} {W W' : World} {args : Array Value} {ds gs : List (DataW H)} {before : List MemPlace} {tb : TypeId} (hW : DataW.Whole enc P f.params.toList s.vars false W args.toList ds gs before) (hv : s.vars = [])
    (hfn : (s.fn H ds).results = [.lit (.bool true)] ∧ (s.fn H ds).args = ds ∧ (s.fn H ds).vars = []) (hb : P.underlying tb = some .bool) (hrt : f.resultTypes = #[tb]) (hl : laidOutB P = true)
    (ht : (f.params.toList.all fun t => P.readableRec t && decide (t < P.types.size)) = true) (he : Ext noX W W') : s.post enc P f false true false false W args (.bool true) W' := by
  have hlt := hW.lt
  have hW2 := hW
  obtain ⟨p, q, hA, hV, e, _, _⟩ := hW2
  rw [hv] at hV
  obtain ⟨rfl, rfl⟩ := trodVars_none hV
  refine ⟨ds, [], before, [], p, [], hW, ?_, ?_, ?_, he.kept _, fun h => by cases h⟩
  · rw [List.append_nil, hfn.1, hrt]
    exact trodAll_mk1 (shut_bool hb true)
  · rw [List.append_nil, hfn.2.1]
    exact trodAll_stays hl he ht (fun x hx => hlt x (by rw [e]; exact List.mem_append_left _ hx)) hA
  · rw [List.append_nil, hfn.2.2, hv]; rfl
theorem hsim0 (w : World) : HSim (fun _ => none) (fun _ => none) noX w :=
  ⟨nofun, nofun, nofun, nofun⟩
theorem law_calls {fid : FuncId} {f : Func} {s : ChangeSpec} {W : World} {base : Nat} {args : Array Value} {ds gs : List (DataW H)} {before : List MemPlace} {tb : TypeId} (n : Nat)
    (hval : ∀ (j : Nat) t v, f.params[j]? = some t → args[j]? = some v → Value.okWide P W .any base t v) (hW : DataW.Whole enc P f.params.toList s.vars false W args.toList ds gs before) (hv : s.vars = [])
    (hfn : ds.length = f.params.size → (s.fn H ds).results = [.lit (.bool true)] ∧ (s.fn H ds).args = ds ∧ (s.fn H ds).vars = []) (hb : P.underlying tb = some .bool) (hrt : f.resultTypes = #[tb]) (hl : laidOutB P = true)
    (ht : (f.params.toList.all fun t => P.readableRec t && decide (t < P.types.size)) = true) (hp : f.params.toList.all (plainT P n) = true)
    (hmain : ∀ xs, okAll (okD P n) f.params.toList xs → RelL xs ds → LocalCall P fid (xs.map AV.d) [] [] (.d (.bool true)) []) :
    Calls P fid args W fun e W' => ∃ v, e = .returned v ∧ s.post enc P f false true false false W args v W' := by
  have hW2 := hW
  obtain ⟨p, q, hA, hV, _, _, _⟩ := hW2
  have hlen : ∀ {ts : List TypeId} {vs : List Value} {ds : List (DataW H)} {ps : List MemPlace}, DataW.TrodAll enc P W 0 (fun _ => true) true ts vs ds ps → ds.length = ts.length := by
    intro ts
    induction ts with
    | nil => intro vs ds ps h; cases vs <;> cases ds <;> first | rfl | exact h.elim
    | cons t ts ih =>
      intro vs ds ps h
      cases vs <;> cases ds <;> try exact h.elim
      obtain ⟨_, _, _, h2, _⟩ := h
      simp [ih h2]
  obtain ⟨xs, h1, h2, h3⟩ := args_rep hp (fun j t v h1 h2 => hval j t v (by simpa using h1) (by simpa using h2)) hA
  have hc := hmain xs h2 h3 (fun _ => none) (fun _ h => by cases h) (fun _ h => by cases h) (fun _ => none) noX W args.toList (hsim0 W) h1 (fun n hn => by
    exfalso
    have : ∀ l : List D, n ∉ AV.namesL (l.map AV.d) := fun l => by
      induction l with
      | nil => intro h; cases h
      | cons x l ih => simpa [AV.namesL, AV.names] using ih
    exact this xs hn)
  rw [Array.toArray_toList] at hc
  refine hc.mono fun e W' he => ?_
  obtain ⟨v, rfl, ρ', X', _, q2, q3, _⟩ := he
  have := repA_bool q3
  subst this
  exact ⟨_, rfl, law_post hW hv (hfn (by rw [hlen hA]; simp)) hb hrt hl ht (q2.ext.mono fun b _ hb => by obtain ⟨_, _, h, _⟩ := hb; cases h)⟩
end
end Go.Sym

namespace Go.Sym
def nobody : Nat → Prop := fun _ => False
def E0 (w : World) : Ent := ⟨fun _ => none, fun _ => none, nobody, w, [], true⟩
def FlatA (x : AV) : Prop := ∀ (ρ ρ' : Nat → Option Nat) (X X' : Nat → Prop) (w w' : World) (v : Value), RepA ρ X w x v → RepA ρ' X' w' x v
theorem flat_scal {X X' : Nat → Prop} {w w' : World} {x : D} {cs : List Value} (hs : x.scal = true) (h : RepD X w x cs) : RepD X' w' x cs := by
  cases h <;> first | cases hs | skip
  · exact .int _ _
  · exact .bool _
  · exact .str _
theorem flat_scals {X X' : Nat → Prop} {w w' : World} : ∀ {xs : List D} {cs : List Value}, (∀ x, x ∈ xs → x.scal = true) → RepL X w xs cs → RepL X' w' xs cs
  | _, _, _, .nil => .nil
  | _, _, hs, .cons h ht => .cons (flat_scal (hs _ (by simp)) h) (flat_scals (fun x hx => hs x (by simp [hx])) ht)
theorem flatA_d {x : D} (hs : x.scal = true) : FlatA (.d x) := fun ρ ρ' X X' w w' v h => by
  obtain ⟨cs, h1, h2⟩ := h
  cases h1 with
  | d h1 => exact ⟨cs, .d (flat_scal hs h1), h2⟩
theorem flatA_arr {n e : Nat} {xs : List D} (hs : ∀ x, x ∈ xs → x.scal = true) : FlatA (.d (.arr n e xs)) := fun ρ ρ' X X' w w' v h => by
  obtain ⟨cs, h1, h2⟩ := h
  cases h1 with
  | d h1 =>
    cases h1 with
    | arr k1 k2 k3 => exact ⟨cs, .d (.arr k1 k2 (flat_scals hs k3)), h2⟩
theorem flatA_fn {f : Fn} : FlatA (.fn f []) := fun ρ ρ' X X' w w' v h => by
  obtain ⟨cs, h1, h2⟩ := h
  cases h1 with
  | fn h1 => cases h1; exact ⟨_, .fn .nil, h2⟩
def Fl (n : Nat) (sl : List (Nat × AV)) (a : Act) (w : World) : Prop := Inv (E0 w) (mkSt n sl []) a w
theorem fl_any {n : Nat} {sl : List (Nat × AV)} {w0 w w' : World} {a : Act} (hI : Inv (E0 w0) (mkSt n sl []) a w) (hf : ∀ p, p ∈ sl → FlatA p.2) : Fl n sl a w' := by
  obtain ⟨ρ, X, hA⟩ := hI
  have hs := hA.sim
  refine ⟨fun _ => none, nobody, ⟨⟨hs.n, fun t v h => ?_, nofun, nofun, nofun, fun t o ho => hs.closedS t o ho, nofun⟩, .refl _ _, fun b _ => ⟨id, .inl⟩, nofun, fun n hn => absurd rfl hn, ?_⟩⟩
  · have h1 := hs.slots t v h
    show RepA _ _ _ (match lkp sl t with | some x => x | none => .top) v
    have h1 : RepA ρ X w (match lkp sl t with | some x => x | none => .top) v := h1
    cases hl : lkp sl t with
    | none => trivial
    | some x =>
      rw [hl] at h1
      exact hf _ (lkp_mem hl) _ _ _ _ _ _ _ h1
  · obtain ⟨ms, m1, m2, _⟩ := hA.marks
    have := m2 rfl
    subst this
    exact ⟨[], m1, fun _ => rfl, .nil, fun D hD => by cases hD⟩
structure WeakF (n : Nat) (sl : List (Nat × AV)) (S : St) : Prop where
  h : S.n = n ∧ Weak [] S sl []
theorem fl_weak {n : Nat} {sl : List (Nat × AV)} {S : St} {w0 w w' : World} {a : Act} (hI : Inv (E0 w0) S a w) (h : WeakF n sl S) (hf : ∀ p, p ∈ sl → FlatA p.2) : Fl n sl a w' := by
  obtain ⟨h1, h2⟩ := h.h
  subst h1
  exact fl_any (hI.weak (fun n hn => absurd rfl hn) h2) hf
theorem fl_put {n : Nat} {sl : List (Nat × AV)} {a : Act} {w : World} (h : Fl n sl a w) (t : Nat) (x : AV) (v : Value) (hr : RepA (fun _ => none) nobody w x v) (hn : x.names = []) : Fl n ((t, x) :: sl) (a.put (some t) v) w := by
  obtain ⟨ρ, X, hA⟩ := h
  have hs := hA.sim
  have hsl : (mkSt n ((t, x) :: sl) []) = (mkSt n sl []).put (some t) x := by
    simp only [mkSt, St.put]
    congr 1
    funext u
    simp only [lkp]
    cases t.beq u <;> rfl
  have hr' : RepA ρ X w x v := hr.mono (Y := fun _ => False) (ρ' := ρ) (X' := X) ⟨.refl _ _, fun _ _ h => h, fun b hb h => ((hA.xs b hb).1 h).elim⟩ (fun o ho => by rw [hn] at ho; cases ho)
  obtain ⟨k1, k2⟩ := hs.put (dst := some t) (r := x) (v := v) hr' (fun o ho => by rw [hn] at ho; cases ho)
  refine ⟨ρ, X, ?_⟩
  rw [hsl]
  exact hA.evo k1 k2 (fun n hn => by rw [St.hp_put]; exact hn) rfl
theorem inv0_ext {S : St} {a : Act} {w w' : World} (h : Inv (E0 w) S a w') : Ext (fun _ => False) w w' := by
  obtain ⟨ρ, X, hA⟩ := h
  exact hA.ext.mono fun b _ hb => by obtain ⟨_, _, h, _⟩ := hb; cases h
section
variable {P : Program} {ops : Array Oper} {Q : Exit → Act → World → Prop}
theorem wpOpsIn_append {F : Fence} {n : Nat} : ∀ (L1 : List Nat) {L2 : List Nat} {a : Act} {w : World}, wpOpsIn F n P ops (Exit.then (wpOpsIn F n P ops Q L2) Q) L1 a w → wpOpsIn F n P ops Q (L1 ++ L2) a w
  | [], _, _, _, h => h
  | i :: L1, L2, a, w, h => by
    rw [List.cons_append]
    rw [wpOpsIn_cons] at h ⊢
    refine wpOpIn_mono (K := wpOpsIn F n P ops (Exit.then (wpOpsIn F n P ops Q L2) Q) L1) (fun a w h => wpOpsIn_append L1 h) ?_
    unfold wpOpIn at h ⊢
    cases ho : ops[i]? with
    | none => rw [ho] at h; exact h
    | some o =>
      rw [ho] at h
      simp only at h ⊢
      split
      · rename_i hw
        rw [if_pos hw] at h
        unfold Oper.wpIn at h ⊢
        refine ⟨h.1, ?_⟩
        have h := h.2
        generalize (o.semAt F.round a.eval).run P w = r at h
        cases r with
        | ok x w' => cases x <;> exact h
        | halt x w' => cases x <;> exact h
      · rename_i hw
        rw [if_neg hw] at h
        exact h
def YieldOK (P : Program) (l n : Nat) (ys : Nat → List D) (J : Nat → World → Prop) (Jd : World → Prop) : Prop :=
  ∀ i, i < n → ∀ w, J i w → ∃ g tmps assign body, (Instr.yield l ((ys i).map D.sval).toArray).run P w = .ok (.round l g tmps assign body) w ∧
      RoundIn (FR none) 0 P l g tmps assign body w fun e w' => ∃ t, e = .returned (.bool t) ∧ (t = true → J (i + 1) w') ∧ (t = false → Jd w')
theorem scal_val {ρ : Nat → Option Nat} {X : Nat → Prop} {w : World} {x : D} {v : Value} (hs : x.scal = true) (h : RepA ρ X w (.d x) v) : v = x.sval := by
  obtain ⟨cs, h1, h2⟩ := h
  cases h1 with
  | d h1 =>
    rw [h2]
    cases h1 <;> first | rfl | cases hs
theorem yield_op {l n i k : Nat} {ys : Nat → List D} {J : Nat → World → Prop} {Jd : World → Prop} (hy : YieldOK P l n ys J Jd) {o : Oper} {c : Call} {x : Operand} {S : St} {w0 w : World} {a : Act} {K : Act → World → Prop} (ho : ops[k]? = some o) (hg : o.guard = none)
    (hop : o.op = .call c) (hc : c.callee = .value x) (hI : Inv (E0 w0) S a w) (hx : S.ev x = .fn (.yield l) []) (hargs : c.args.toList.map S.ev = (ys i).map AV.d) (hsc : (ys i).all D.scal = true) (hi : i < n) (hJ : J i w)
    (hK : ∀ t w', (t = true → J (i + 1) w') → (t = false → Jd w') → K (a.put o.dst (.bool t)) w') : wpOpIn (FR none) 0 P ops Q k K a w := by
  obtain ⟨ρ, X, hA⟩ := hI
  have he := hA.sim.ev x
  rw [hx] at he
  obtain ⟨cs, c1, c2⟩ := he
  cases c1 with
  | fn c1 =>
  cases c1
  have hev : a.eval x = .func (.yield l) #[] #[] := c2
  have hav : (c.args.map a.eval) = ((ys i).map D.sval).toArray := by
    have key : ∀ (l : List Operand) (ds : List D), l.map S.ev = ds.map AV.d → ds.all D.scal = true → l.map a.eval = ds.map D.sval := by
      intro l
      induction l with
      | nil => intro ds h _; cases ds with
        | nil => rfl
        | cons _ _ => cases h
      | cons p l ih =>
        intro ds h hs
        cases ds with
        | nil => cases h
        | cons d ds =>
          simp only [List.map_cons, List.cons.injEq] at h ⊢
          simp only [List.all_cons, Bool.and_eq_true] at hs
          have hp := hA.sim.ev p
          rw [h.1] at hp
          exact ⟨scal_val hs.1 hp, ih ds h.2 hs.2⟩
    apply Array.ext'
    rw [Array.toList_map]
    exact key _ _ hargs hsc
  obtain ⟨g, tmps, assign, body, h1, h2⟩ := hy i hi w hJ
  unfold wpOpIn
  rw [ho]
  simp only
  rw [if_pos (by simp [Region.wanted, hg])]
  refine ⟨fun _ _ => trivial, ?_⟩
  have hrun : (execOp a.eval o).run P w = .ok (.round l g tmps assign body) w := by
    simp only [execOp, hop, resolve, hc, hev, Deferred.ofValue]
    rw [run_bind_ok (run_pure _ w)]
    simp only [invoke, hav]
    simpa using h1
  show o.uponIn (FR none) 0 P a K Q ((o.semAt none a.eval).run P w)
  rw [Oper.semAt_none, hrun]
  refine ⟨(fun h => by cases h), ?_⟩
  refine RoundIn.mono h2 fun e w' he => ?_
  obtain ⟨t, rfl, k1, k2⟩ := he
  exact hK t w' k1 k2
theorem flat_part {id k m : Nat} {n : Nat} {sl sl' : List (Nat × AV)} {l : List Oper} (hf : ∀ p, p ∈ sl' → FlatA p.2) (pend : List Oper) (hp : ∀ j o, pend[j]? = some o → l[k + j]? = some o) (hm : pend.length = m)
    (h : Vc (vcOps P l id (fun _ => True) pend false k 0 (mkSt n sl []) [] (WeakF n sl') (fun _ _ => False))) {K : Act → World → Prop} {a : Act} {w : World} (hI : Fl n sl a w) (hK : ∀ a w', Fl n sl' a w' → Ext (fun _ => False) w w' → K a w') : wpOpsIn (FR none) 0 P l.toArray (Exit.then (fun a w' => K a w') Q) (List.range' k m) a w := by
  obtain ⟨pi, fs, out, t, _, _, ho⟩ := vc_tr _ _ _ _ _ _ _ _ hp h.h
  have : ((List.range' k pend.length).filter fun j => !(0 : Nat).testBit j) = List.range' k m := by
    rw [List.filter_eq_self.2 fun j _ => by simp, hm]
  rw [this] at t
  refine tr_text t hI ?_ ?_
  · intro S' a' w' he hI'
    subst he
    exact hK _ _ (fl_weak hI' ho hf) (inv0_ext hI')
  · intro pv S' a' w' he hI'
    subst he
    exact ho.elim
theorem flat_code (hm : P.follows .mixedOrders = true) {c : Code} {n : Nat} {sl : List (Nat × AV)} {K : AExit → St → Prop} (h : Vc (wpC P [] true [] c (mkSt n sl []) K (fun _ _ => False))) {a : Act} {w : World} (hI : Fl n sl a w)
    (hK : ∀ e a' w' S, K e S → Inv (E0 w) S a' w' → Q (match e with
      | .normal => .normal
      | .ret => .ret
      | .exit i => .exit i
      | .goto t => .goto t) a' w') : c.wpIn (FR none) 0 P Q a w := by
  refine wpIn_mono (wpC_sound hm c (ro := none) (k := 0) (fun h => by cases h) (fun n hn => absurd rfl hn) h.h hI) fun e a' w' he => ?_
  cases e with
  | normal => obtain ⟨S, h1, h2⟩ := he; exact hK .normal a' w' S h1 h2
  | ret => obtain ⟨S, h1, h2⟩ := he; exact hK .ret a' w' S h1 h2
  | exit i => obtain ⟨S, h1, h2⟩ := he; exact hK (.exit i) a' w' S h1 h2
  | goto t => obtain ⟨S, h1, h2⟩ := he; exact hK (.goto t) a' w' S h1 h2
  | panic ch => obtain ⟨_, _, _, h1, _⟩ := he; exact h1.elim
  | outgrown => exact he.elim
theorem fl_cond {n : Nat} {sl : List (Nat × AV)} {c : Operand} {x y : Code} {b : Bool} {a : Act} {w : World} (hI : Fl n sl a w) (hc : (mkSt n sl []).ev c = .d (.bool b)) (ht : b = true → x.wpIn (FR none) 0 P Q a w) (hf : b = false → y.wpIn (FR none) 0 P Q a w) :
    (Code.cond c x y).wpIn (FR none) 0 P Q a w := by
  obtain ⟨ρ, X, hA⟩ := hI
  have he := hA.sim.ev c
  rw [hc] at he
  exact wpIn_cond_split (repA_bool he) ht hf
theorem fl_defers {n : Nat} {sl : List (Nat × AV)} {a : Act} {w : World} (hI : Fl n sl a w) : a.defers = [] := by
  obtain ⟨ρ, X, hA⟩ := hI
  obtain ⟨ms, m1, m2, _⟩ := hA.marks
  have := m2 rfl
  subst this
  exact m1
end
def weakK (n : Nat) (sl : List (Nat × AV)) : AExit → St → Prop
  | .normal, S => WeakF n sl S
  | _, _ => False
theorem vzB {n : Nat} {sl : List (Nat × AV)} {S : St} (m : List (Nat × Nat)) (hn : Vc (Chk (S.n.beq n))) (h1 : Vc (Chk (wkOK [] m sl []))) (h2 : Vc (wkSl S m sl)) : Vc (WeakF n sl S) :=
  ⟨Nat.eq_of_beq_eq_true hn.h.h, ⟨m, h1.h, h2.h, trivial⟩⟩
theorem flat_norm {P : Program} {Q : Exit → Act → World → Prop} {K : Act → World → Prop} (hm : P.follows .mixedOrders = true) {c : Code} {n : Nat} {sl sl' : List (Nat × AV)} (hf : ∀ p, p ∈ sl' → FlatA p.2) {a : Act} {w : World} (hI : Fl n sl a w)
    (h : Vc (wpC P [] true [] c (mkSt n sl []) (weakK n sl') (fun _ _ => False))) (hK : ∀ a' w', Fl n sl' a' w' → Ext (fun _ => False) w w' → K a' w') : c.wpIn (FR none) 0 P (Exit.then K Q) a w := by
  refine flat_code hm h hI fun e a' w' S hS hI' => ?_
  cases e with
  | normal => exact hK a' w' (fl_weak hI' hS hf) (inv0_ext hI')
  | ret => exact hS.elim
  | exit i => exact hS.elim
  | goto t => exact hS.elim
theorem fl_start {n l b : Nat} {x : D} {cs : List Value} {X : Nat → Prop} {w : World} (hn : 2 ≤ n) (hrep : RepD X w x cs) (hrow : RowAt w b 0 cs) (hb : b < w.heap.size) :
    Fl n [(0, .fn (.yield l) []), (1, .dptr x)] { tmps := #[.func (.yield l) #[] #[], .pointer (some ⟨b, 0, none⟩)] ++ Array.replicate (n - 2) undef, defers := [] } w := by
  refine ⟨fun _ => none, nobody, ⟨⟨?_, fun t v ht => ?_, nofun, nofun, nofun, fun t o ho => ?_, nofun⟩, .refl _ _, fun b _ => ⟨id, .inl⟩, nofun, fun n hn => absurd rfl hn, ⟨[], rfl, fun _ => rfl, .nil, fun D hD => by cases hD⟩⟩⟩
  · simp [mkSt]; omega
  · rcases t with _ | _ | t
    · have : v = .func (.yield l) #[] #[] := by
        have ht : (#[Value.func (.yield l) #[] #[], .pointer (some ⟨b, 0, none⟩)] ++ Array.replicate (n - 2) undef)[0]? = some v := ht
        rw [Array.getElem?_append_left (by simp)] at ht
        simpa using ht.symm
      rw [this]; exact ⟨_, .fn .nil, rfl⟩
    · have : v = .pointer (some ⟨b, 0, none⟩) := by
        have ht : (#[Value.func (.yield l) #[] #[], .pointer (some ⟨b, 0, none⟩)] ++ Array.replicate (n - 2) undef)[1]? = some v := ht
        rw [Array.getElem?_append_left (by simp)] at ht
        simpa using ht.symm
      rw [this]; exact ⟨_, .dptr (fun h => h) hb hrow (hrep.mono (Y := fun _ => False) (.refl _ w) (fun _ _ _ h => h) (fun _ _ h => h.elim)), rfl⟩
    · exact trivial
  · exfalso
    rcases t with _ | _ | t
    · have : o ∈ (AV.fn (.yield l) []).names := ho
      cases this
    · have : o ∈ (AV.dptr x).names := ho
      cases this
    · have : o ∈ AV.top.names := ho
      cases this
theorem row_lt {w : World} {b : Nat} {cs : List Value} (h : RowAt w b 0 cs) (hl : 0 < cs.length) : b < w.heap.size := by
  have h0 := h 0 cs[0] (List.getElem?_eq_getElem hl)
  unfold World.cell? at h0
  split at h0
  · rename_i h; exact (Array.getElem?_eq_some_iff.1 h).1
  · cases h0
theorem flat_pre {P : Program} {Q : Exit → Act → World → Prop} {id m : Nat} {n : Nat} {sl sl' : List (Nat × AV)} {l : List Oper} (hf : ∀ p, p ∈ sl' → FlatA p.2) (hm : (l.take m).length = m) {K : Act → World → Prop} {a : Act} {w : World} (hI : Fl n sl a w)
    (h : Vc (vcOps P l id (fun _ => True) (l.take m) false 0 0 (mkSt n sl []) [] (WeakF n sl') (fun _ _ => False))) (hK : ∀ a w', Fl n sl' a w' → Ext (fun _ => False) w w' → K a w') :
    wpOpsIn (FR none) 0 P l.toArray (Exit.then (fun a w' => K a w') Q) (List.range' 0 m) a w :=
  flat_part hf (l.take m) (fun j o h => by
    rw [Nat.zero_add]
    rw [List.getElem?_take] at h
    split at h
    · exact h
    · cases h) hm h hI hK
theorem flat_suf {P : Program} {Q : Exit → Act → World → Prop} {id k m : Nat} {n : Nat} {sl sl' : List (Nat × AV)} {l : List Oper} (hf : ∀ p, p ∈ sl' → FlatA p.2) (hm : (l.drop k).length = m) {K : Act → World → Prop} {a : Act} {w : World} (hI : Fl n sl a w)
    (h : Vc (vcOps P l id (fun _ => True) (l.drop k) false k 0 (mkSt n sl []) [] (WeakF n sl') (fun _ _ => False))) (hK : ∀ a w', Fl n sl' a w' → Ext (fun _ => False) w w' → K a w') :
    wpOpsIn (FR none) 0 P l.toArray (Exit.then (fun a w' => K a w') Q) (List.range' k m) a w :=
  flat_part hf (l.drop k) (fun j o h => by rw [List.getElem?_drop] at h; exact h) hm h hI hK
theorem fl_yield {P : Program} {ops : Array Oper} {Q : Exit → Act → World → Prop} {l n i k d : Nat} {ys : Nat → List D} {J : Nat → World → Prop} {Jd : World → Prop} (hy : YieldOK P l n ys J Jd) {o : Oper} {c : Call} {x : Operand} {N : Nat} {sl : List (Nat × AV)} {w : World} {a : Act} {K : Act → World → Prop}
    (ho : ops[k]? = some o) (hg : o.guard = none) (hop : o.op = .call c) (hc : c.callee = .value x) (hd : o.dst = some d) (hI : Fl N sl a w) (hx : (mkSt N sl []).ev x = .fn (.yield l) []) (hargs : c.args.toList.map (mkSt N sl []).ev = (ys i).map AV.d) (hsc : (ys i).all D.scal = true)
    (hi : i < n) (hJ : J i w) (hf : ∀ p, p ∈ sl → FlatA p.2) (hK : ∀ t a' w', Fl N ((d, .d (.bool t)) :: sl) a' w' → (t = true → J (i + 1) w') → (t = false → Jd w') → K a' w') : wpOpIn (FR none) 0 P ops Q k K a w :=
  yield_op hy ho hg hop hc hI hx hargs hsc hi hJ fun t w' h1 h2 => by
    rw [hd]
    exact hK t _ w' (fl_put (fl_any hI hf) d (.d (.bool t)) (.bool t) ⟨_, .d (.bool t), rfl⟩ rfl) h1 h2
end Go.Sym

namespace Go.Sym
def bitB (bs : List UInt8) (n : Nat) : Bool := (bs.getD (n / 8) 0).toNat.testBit (7 - n % 8)
def bitI (bs : List UInt8) (i : Int) : Bool := decide (0 ≤ i) && decide (i < 256) && bitB bs i.toNat
theorem and_bit (c : UInt8) (m : Nat) (h : m < 8) : (aBits .and .u8 c.toNat (shrI .u8 128 m) != 0) = c.toNat.testBit (7 - m) := by
  have key : ∀ n : Fin 256, ∀ m : Fin 8, (aBits .and .u8 (n.val : Int) (shrI .u8 128 (m.val : Int)) != 0) = n.val.testBit (7 - m.val) := by decide +kernel
  exact key ⟨c.toNat, c.toNat_lt⟩ ⟨m, h⟩
theorem wrap64_id {n : Int} (h0 : -9223372036854775808 ≤ n) (h1 : n ≤ 9223372036854775807) : IntKind.i64.wrap n = n := by
  have e : IntKind.i64.wrap n = (if n % 18446744073709551616 ≥ 9223372036854775808 then n % 18446744073709551616 - 18446744073709551616 else n % 18446744073709551616) := by
    simp [IntKind.wrap, IntKind.signed, IntKind.bits]
  rw [e]
  split <;> omega
theorem getD_byte {bs : List UInt8} {k : Nat} (h : k < bs.length) : (bs.map byteD).getD k .nilp = byteD (bs.getD k 0) := by
  rw [List.getD_eq_getElem?_getD, List.getD_eq_getElem?_getD, List.getElem?_map, List.getElem?_eq_getElem h]; rfl
theorem div8 {n : Nat} (h : n < 256) : IntKind.i64.wrap ((n : Int).tdiv 8) = (n / 8 : Nat) := by
  rw [Int.tdiv_eq_ediv_of_nonneg (by omega), wrap64_id (by omega) (by omega)]; omega
theorem mod8 (n : Nat) : (n : Int).tmod 8 = (n % 8 : Nat) := by
  rw [Int.tmod_eq_emod_of_nonneg (by omega)]; omega
theorem bitI_nat (bs : List UInt8) {n : Nat} (h : n < 256) : bitI bs n = bitB bs n := by
  unfold bitI
  have h1 : (n : Int) < 256 := by omega
  simp [h1]
theorem bitI_neg (bs : List UInt8) {i : Int} (h : i < 0) : bitI bs i = false := by
  unfold bitI
  simp only [show decide (0 ≤ i) = false from by simp; omega, Bool.false_and]
theorem bitI_big (bs : List UInt8) {i : Int} (h : 256 ≤ i) : bitI bs i = false := by
  unfold bitI
  simp only [show decide (i < 256) = false from by simp; omega, Bool.false_and, Bool.and_false]
def common (a b : List UInt8) : Nat := ((List.range 256).takeWhile fun i => bitB a i == bitB b i).length
end Go.Sym

namespace Go.Sym
theorem HSim.withNil {hp : Nat → Option AObj} {ρ : Nat → Option Nat} {X : Nat → Prop} {w : World} {o e : Nat} (hs : HSim hp ρ X w) (ho : hp o = none) :
    HSim (wr hp [(o, .row e [])]) (fun n => bif o.beq n then none else ρ n) X w := by
  have hlk : ∀ n x, wr hp [(o, .row e [])] n = some x → (n = o ∧ x = .row e []) ∨ (n ≠ o ∧ hp n = some x) := fun n x h => by
    by_cases hn : n = o
    · subst hn; simp [wr, lkp] at h; exact .inl ⟨rfl, h.symm⟩
    · have : (o.beq n) = false := by
        cases hb : o.beq n with
        | true => exact absurd (Nat.eq_of_beq_eq_true hb).symm hn
        | false => rfl
      simp [wr, lkp, this] at h; exact .inr ⟨hn, h⟩
  have hρ : ∀ n, n ≠ o → (fun n => bif o.beq n then none else ρ n : Nat → Option Nat) n = ρ n := fun n hn => by
    have : (o.beq n) = false := by
      cases hb : o.beq n with
      | true => exact absurd (Nat.eq_of_beq_eq_true hb).symm hn
      | false => rfl
    simp [this]
  have hρo : (fun n => bif o.beq n then none else ρ n : Nat → Option Nat) o = none := by simp
  have g : Goes ρ (fun n => bif o.beq n then none else ρ n) X X (fun _ => False) w w := ⟨.refl _ _, fun _ _ _ h => h, fun _ _ h => h⟩
  have hne : ∀ n, hp n ≠ none → n ≠ o := fun n h he => h (by rw [he]; exact ho)
  refine ⟨fun n x h => ?_, fun n n' x x' b h1 h2 h3 h4 h5 h6 => ?_, fun n x b h1 h2 h3 => ?_, fun n x h1 n' hn' => ?_⟩
  · rcases hlk n x h with ⟨rfl, rfl⟩ | ⟨q1, q2⟩
    · exact .inl ⟨hρo, rfl⟩
    · exact (hs.objs n x q2).mono g (hρ n q1) (fun _ _ => rfl) (fun m hm => hρ m (hne m (hs.closed n x q2 m hm)))
  · rcases hlk n x h1 with ⟨rfl, rfl⟩ | ⟨q1, q2⟩
    · exact absurd (hρo.symm.trans h5) (by simp)
    · rcases hlk n' x' h3 with ⟨rfl, rfl⟩ | ⟨q3, q4⟩
      · exact absurd (hρo.symm.trans h6) (by simp)
      · exact hs.inj n n' x x' b q2 h2 q4 h4 ((hρ n q1).symm.trans h5) ((hρ n' q3).symm.trans h6)
  · rcases hlk n x h1 with ⟨rfl, rfl⟩ | ⟨q1, q2⟩
    · exact absurd (hρo.symm.trans h3) (by simp)
    · exact hs.own n x b q2 h2 ((hρ n q1).symm.trans h3)
  · rcases hlk n x h1 with ⟨rfl, rfl⟩ | ⟨q1, q2⟩
    · cases hn'
    · exact wr_ne (hs.closed n x q2 n' hn')
theorem wr_wr {hp : Nat → Option AObj} {o : Nat} {x : AObj} {ws : List (Nat × AObj)} (h : hasKey ws o = true) : wr (wr hp [(o, x)]) ws = wr hp ws := by
  funext n
  unfold wr
  cases hl : lkp ws n with
  | some y => rfl
  | none =>
    have hn : (o.beq n) = false := by
      cases hb : o.beq n with
      | true =>
        have := Nat.eq_of_beq_eq_true hb
        subst this
        unfold hasKey at h
        rw [hl] at h; cases h
      | false => rfl
    simp [lkp, hn]
theorem local_nil {P : Program} {f : FuncId} {xs : List AV} {pre : List (Nat × AObj)} {nw : List Nat} {r : AV} {ws : List (Nat × AObj)} (o e : Nat) (h : LocalCall P f (.sl o [] e 0 0 :: xs) ((o, .row e []) :: pre) nw r ws)
    (hk : hasKey ws o = true) (hpr : pre.all (fun p => !(p.1.beq o)) = true) (hnw : nw.all (fun n => !(n.beq o)) = true) : LocalCall P f (.d .nils :: xs) pre (o :: nw) r ws := by
  intro hp h1 h2 ρ X w vs hs hr hn
  have ho : hp o = none := h2 o (by simp)
  have hw : ∀ n, n ≠ o → wr hp [(o, .row e [])] n = hp n := fun n hne => by
    have : (o.beq n) = false := by
      cases hb : o.beq n with
      | true => exact absurd (Nat.eq_of_beq_eq_true hb).symm hne
      | false => rfl
    simp [wr, lkp, this]
  have hρ : ∀ n, n ≠ o → (fun n => bif o.beq n then none else ρ n : Nat → Option Nat) n = ρ n := fun n hne => by
    have : (o.beq n) = false := by
      cases hb : o.beq n with
      | true => exact absurd (Nat.eq_of_beq_eq_true hb).symm hne
      | false => rfl
    simp [this]
  have hρo : (fun n => bif o.beq n then none else ρ n : Nat → Option Nat) o = none := by simp
  have hs2 := hs.withNil (e := e) ho
  have g : Goes ρ (fun n => bif o.beq n then none else ρ n) X X (fun _ => False) w w := ⟨.refl _ _, fun _ _ _ h => h, fun _ _ h => h⟩
  have hne : ∀ n, hp n ≠ none → n ≠ o := fun n h he => h (by rw [he]; exact ho)
  have hr2 : RepT (fun n => bif o.beq n then none else ρ n) X w (.sl o [] e 0 0 :: xs) vs := by
    cases vs with
    | nil => exact hr.elim
    | cons v vs =>
      obtain ⟨⟨cs, k1, k2⟩, k3⟩ := hr
      refine ⟨?_, k3.mono g fun n hm => hρ n (hne n (hn n (by simpa [AV.namesL, AV.names] using hm)))⟩
      cases k1 with
      | d k1 => cases k1; exact ⟨_, .slnil hρo, k2⟩
  have key := h (wr hp [(o, .row e [])]) (fun p hp' => by
      rcases List.mem_cons.1 hp' with rfl | hp'
      · simp [wr, lkp]
      · rw [hw _ (fun he => by have := List.all_eq_true.1 hpr p hp'; simp [he] at this)]
        exact h1 p hp')
    (fun n hn' => by
      rw [hw n (fun he => by have := List.all_eq_true.1 hnw n hn'; simp [he] at this)]
      exact h2 n (by simp [hn'])) _ X w vs hs2 hr2 (fun n hm => by
        simp only [AV.namesL, AV.names, List.mem_append, List.mem_singleton] at hm
        rcases hm with rfl | hm
        · simp [wr, lkp]
        · exact wr_ne (hn n (by simpa [AV.namesL, AV.names] using hm)))
  rw [wr_wr hk] at key
  refine key.mono fun e' w' ⟨v, e1, ρ', X', k1, k2, k3, k4⟩ => ⟨v, e1, ρ', X', k1, ⟨k2.ext.mono fun b _ hb => ?_, fun b hb => ⟨(k2.xs b hb).1, fun hx => ?_⟩, fun n x b q1 q2 q3 => ?_, fun n hn' => ?_⟩, k3, k4⟩
  all_goals
    have conv : ∀ b, (∃ n x, wr hp [(o, .row e [])] n = some x ∧ x.alive = true ∧ (fun n => bif o.beq n then none else ρ n : Nat → Option Nat) n = some b) → ∃ n x, hp n = some x ∧ x.alive = true ∧ ρ n = some b := fun b ⟨n, x, q1, q2, q3⟩ => by
      by_cases hn : n = o
      · subst hn; exact absurd (hρo.symm.trans q3) (by simp)
      · exact ⟨n, x, (hw n hn).symm.trans q1, q2, (hρ n hn).symm.trans q3⟩
  · exact conv b hb
  · exact ((k2.xs b hb).2 hx).imp id (conv b)
  · exact (k2.own n x b q1 q2 q3).imp id (conv b)
  · rw [k2.same n (wr_ne hn')]; exact hρ n (hne n hn')
end Go.Sym

namespace Go.Sym
def midK (en : List Nat) (n : Nat) (sl : List (Nat × AV)) (hp : List (Nat × AObj)) : AExit → St → Prop
  | .normal, S => S.n = n ∧ Weak en S sl hp
  | _, _ => False
theorem vc_mid {en : List Nat} {n : Nat} {sl : List (Nat × AV)} {hp : List (Nat × AObj)} {S : St} (m : List (Nat × Nat)) (hn : Vc (Chk (S.n.beq n))) (h1 : Vc (Chk (wkOK en m sl hp))) (h2 : Vc (wkSl S m sl)) (h3 : Vc (wkHp S m hp)) : Vc (S.n = n ∧ Weak en S sl hp) :=
  ⟨Nat.eq_of_beq_eq_true hn.h.h, ⟨m, h1.h, h2.h, h3.h⟩⟩
def CatG (N : Nat) (q : St → Prop) (S : St) : Prop := match S.hp N with
  | some (.var (.d (.int _ _))) => q (S.write [(N, .var (.d (.int .i64 3)))])
  | _ => False
def catK (P : Program) (fn : Func) (pre : List (Nat × AObj)) (nw : List Nat) (rs : List AV) (ws : List (Nat × AObj)) (fv : Value) (N : Nat) : Value → St → Prop :=
  fun v S => Side (v = fv) ∧ CatG N (RetC P fn pre nw rs ws) S
theorem InvAt.noMarks {E : Ent} {S : St} {ρ : Nat → Option Nat} {X : Nat → Prop} {a : Act} {w : World} (h : InvAt E S ρ X a w) (hn : E.nm = true) : a.defers = E.ds := by
  obtain ⟨ms, k1, k2, _⟩ := h.marks
  rw [k2 hn] at k1
  exact k1
theorem local_recovers {P : Program} (hm : P.follows .mixedOrders = true) {f : FuncId} {fn : Func} {c0 rest : Code} {rid : Nat} {o1 o2 : Oper} (hf : P.funcs[f]? = some fn) (hb : fn.body = some (.seq c0 (.seq (.region rid #[o1, o2] false) rest)))
    {g : FuncId} {t4 t6 : Nat} {c2 : Call} (h1o : o1.op = .makeFunc (.func g) #[] #[.tmp t4]) (h1g : o1.guard = none) (h1d : o1.dst = some t6) (h2o : o2.op = .defer c2) (h2g : o2.guard = none) (h2d : o2.dst = none) (h2c : c2.callee = .value (.tmp t6)) (h2a : c2.args = #[])
    {n : Nat} (hn : fn.ntmps = n) (fr : List (Nat × List Nat)) {args : List AV} {pre : List (Nat × AObj)} {nw : List Nat} {rs : List AV} {ws : List (Nat × AObj)} {sl2 : List (Nat × AV)} {hp2 : List (Nat × AObj)} {N : Nat} {fv : Value} {zo : Obj}
    (hidle : ∀ p w, CallsDIn (FR none) 0 P g #[.pointer (some p)] .returning w fun e u' w' => e = .returned (.tuple #[]) ∧ u' = .returning ∧ w' = w)
    (hcatch : ∀ p w k x, (w.alloc zo).cell? p = some (.int k x) → (w.alloc zo).frozen? p = false → CallsDIn (FR none) 0 P g #[.pointer (some p)] (.panicking [{ v := fv, recovered := false }]) w fun e u' w' =>
      e = .returned (.tuple #[]) ∧ u' = .panicking [{ v := fv, recovered := true }] ∧ w' = (w.alloc zo).setCell p (.int .i64 3))
    (hcl : callable P g = true) (hE : Vc (Chk (entOK n args pre))) (hsl : lkp sl2 t4 = some (.ptr N [])) (ht4 : t4 < n) (ht6 : t6 < n) (hn6 : lkp sl2 t6 = none)
    (h0 : Vc (fNs (pre.map (·.1)) fun en => Later (wpC P fr true en c0 (mkSt n (enumA 0 args) pre) (midK en n sl2 hp2) (fun _ _ => False))))
    (h2 : Vc (fNs (hp2.map (·.1)) fun en => Later (wpC P fr true en rest (mkSt n sl2 hp2) (fnK P fn pre nw rs ws) (catK P fn pre nw rs ws fv N)))) : LocalCall P f args pre nw (one rs) ws := by
  subst hn
  intro hp hpre hnw ρ X w vs hh hr hnn
  have h0 := h0.h
  have h2 := h2.h
  rw [fNs_eq, Later_eq] at h0 h2
  have hstart := hh.start hr hpre hE.h.h
  have hstart' : Inv ⟨fun o => lkp pre o, ρ, X, w, [], true⟩ (mkSt fn.ntmps (enumA 0 args) pre) { tmps := vs.toArray ++ Array.replicate (fn.ntmps - vs.toArray.size) undef, defers := [] } w := by
    obtain ⟨ρ', X', k⟩ := hstart
    exact ⟨ρ', X', ⟨k.sim, k.ext, k.xs, k.own, k.same, ⟨[], rfl, fun _ => rfl, List.nodup_nil, fun _ h => by cases h⟩⟩⟩
  refine calls_of_wp_marks hf hb (wpIn_seq (wpIn_mono (wpC_sound hm (E := ⟨fun o => lkp pre o, ρ, X, w, [], true⟩) c0 (fun h => by cases h) (fun n hn => pre_mem hn) h0 hstart') fun e a w1 he => ?_))
  cases e with
  | ret => obtain ⟨_, k1, _⟩ := he; exact k1.elim
  | exit i => obtain ⟨_, k1, _⟩ := he; exact k1.elim
  | goto l => obtain ⟨_, k1, _⟩ := he; exact k1.elim
  | panic ch => obtain ⟨_, _, _, k1, _⟩ := he; exact k1.elim
  | outgrown => exact he.elim
  | normal =>
  obtain ⟨S, ⟨hSn, hW⟩, hI⟩ := he
  have hI := hI.weak (fun n hn => pre_mem hn) hW
  rw [hSn] at hI
  obtain ⟨ρ1, X1, hA1⟩ := hI
  have had : a.defers = [] := hA1.noMarks rfl
  have hsz : a.tmps.size = fn.ntmps := hA1.sim.n
  have hv4 : a.tmps[t4]? = some a.tmps[t4] := Array.getElem?_eq_getElem (by omega)
  have hr4 := hA1.sim.slots t4 _ hv4
  have hs4 : (mkSt fn.ntmps sl2 hp2).sl t4 = .ptr N [] := by show (match lkp sl2 t4 with | some x => x | none => .top : AV) = _; rw [hsl]
  rw [hs4] at hr4
  obtain ⟨b, hb0, hxv⟩ := repA_ptr hr4
  have hpo : pOff [] = 0 := rfl
  rw [hpo] at hxv
  let p : Addr := ⟨b, 0, none⟩
  let d : Deferred := { target := .fn (.func g) #[.pointer (some p)], args := #[] }
  let a2 : Act := { tmps := a.tmps.setIfInBounds t6 (.func (.func g) #[] #[.pointer (some p)]), defers := [d] }
  have hev4 : a.eval (.tmp t4) = .pointer (some p) := by simp only [Act.eval]; rw [Array.getD_eq_getD_getElem?, hv4]; exact hxv
  have hmk : (execOp a.eval o1).run P w1 = .ok (.value (.func (.func g) #[] #[.pointer (some p)])) w1 := by
    simp only [execOp, h1o]
    simp [hev4, Instr.makeFunc]
  have hA2 : InvAt ⟨fun o => lkp hp2 o, ρ1, X1, w1, [d], true⟩ (mkSt fn.ntmps sl2 hp2) ρ1 X1 a2 w1 := by
    have hs := hA1.sim
    refine ⟨⟨by simp [a2, hsz, mkSt], fun t v ht => ?_, hs.objs, hs.inj, hs.own, hs.closedS, hs.closedH⟩, .refl _ _, fun b _ => ⟨id, .inl⟩, fun o x b k1 k2 k3 => .inr ⟨o, x, k1, k2, k3⟩, fun n hn => ⟨hn, rfl⟩, ⟨[], rfl, fun _ => rfl, List.nodup_nil, fun _ h => by cases h⟩⟩
    by_cases ht6' : t6 = t
    · subst ht6'
      show RepA _ _ _ (match lkp sl2 t6 with | some x => x | none => .top : AV) v
      rw [hn6]; trivial
    · refine hs.slots t v ?_
      simpa [a2, Array.getElem?_setIfInBounds_ne ht6'] using ht
  have hinv : ∀ w' : World, (invoke d.target d.args).run P w' = .ok (.enter g #[.pointer (some p)]) w' := fun w' => by
    simp only [invoke, d]
    exact callable_run hcl _ w'
  refine wpIn_seq (wpIn_region ?_)
  show wpOpsIn (FR none) 0 P #[o1, o2] _ [0, 1] a w1
  have hop1 : Region.wanted o1 (yielded #[o1, o2] a.tmps) = true := by simp [Region.wanted, h1g]
  simp only [wpOpsIn]
  have e0 : (#[o1, o2] : Array Oper)[0]? = some o1 := rfl
  have e1 : (#[o1, o2] : Array Oper)[1]? = some o2 := rfl
  rw [e0]
  simp only [hop1, if_true]
  refine ⟨fun _ _ => trivial, ?_⟩
  rw [Oper.semAt_eq _ _ _ (by rw [h1o]; intro c h; cases h), hmk, Oper.uponIn_value]
  rw [e1]
  have hop2 : Region.wanted o2 (yielded #[o1, o2] (a.put o1.dst (.func (.func g) #[] #[.pointer (some p)])).tmps) = true := by simp [Region.wanted, h2g]
  simp only [hop2, if_true]
  refine ⟨fun _ _ => trivial, ?_⟩
  have hdf : (execOp (a.put o1.dst (.func (.func g) #[] #[.pointer (some p)])).eval o2).run P w1 = .ok (.defer d) w1 := by
    have : (a.put o1.dst (.func (.func g) #[] #[.pointer (some p)])).eval (.tmp t6) = .func (.func g) #[] #[.pointer (some p)] := by
      rw [h1d]
      simp only [Act.eval, Act.put]
      rw [Array.getD_eq_getD_getElem?, Array.getElem?_setIfInBounds_self_of_lt (by omega)]
      rfl
    simp only [execOp, h2o, resolve, h2c, this, Deferred.ofValue, h2a]
    rw [run_bind_ok (run_pure _ w1), run_pure]
    simp [d]
  show o2.uponIn (FR none) 0 P _ _ _ ((Oper.semAt none _ o2).run P w1)
  rw [Oper.semAt_none, hdf, Oper.uponIn_defer]
  have ha2 : ({ (a.put o1.dst (.func (.func g) #[] #[.pointer (some p)])) with defers := d :: (a.put o1.dst (.func (.func g) #[] #[.pointer (some p)])).defers } : Act).put o2.dst undef = a2 := by
    rw [h2d, h1d]
    simp only [Act.put, had, a2]
  rw [ha2]
  refine wpIn_mono (wpC_sound hm (E := ⟨fun o => lkp hp2 o, ρ1, X1, w1, [d], true⟩) rest (fun h => by cases h) (fun n hn => pre_mem hn) h2 ⟨ρ1, X1, hA2⟩) fun e a3 w3 he => ?_
  have back : ∀ {S3 : St} {ρ3 : Nat → Option Nat} {X3 : Nat → Prop}, InvAt ⟨fun o => lkp hp2 o, ρ1, X1, w1, [d], true⟩ S3 ρ3 X3 a3 w3 → InvAt ⟨fun o => lkp pre o, ρ, X, w, [], true⟩ S3 ρ3 X3 { a3 with defers := [] } w3 := fun {S3 ρ3 X3} hA3 => by
    have hR := hA1.round hA3
    have hs := hA3.sim
    exact ⟨⟨hs.n, hs.slots, hs.objs, hs.inj, hs.own, hs.closedS, hs.closedH⟩, hR.ext, hR.xs, hR.own, hR.same, ⟨[], rfl, fun _ => rfl, List.nodup_nil, fun _ h => by cases h⟩⟩
  have fin : ∀ S3, RetC P fn pre nw rs ws S3 → Inv ⟨fun o => lkp hp2 o, ρ1, X1, w1, [d], true⟩ S3 a3 w3 → LeavesInM (FR none) 0 P fn a3.tmps (fun e w' => ∃ v, e = .returned v ∧ ∃ ρ' X', HSim (wr hp ws) ρ' X' w' ∧ HEvo hp (wr hp ws) ρ ρ' X X' w w' ∧ RepA ρ' X' w' (one rs) v ∧ ∀ n, n ∈ (one rs).names → wr hp ws n ≠ none) a3.defers .returning w3 := by
    intro S3 hS hI
    obtain ⟨ρ3, X3, hA3⟩ := hI
    rw [hA3.noMarks rfl]
    refine ⟨by simp, .inr ⟨fun h => (by cases h), .func g, _, g, _, rfl, hinv w3, fun _ _ => trivial, (hidle p w3).mono ?_⟩⟩
    rintro e' u' w' ⟨rfl, rfl, rfl⟩
    obtain ⟨v, hv, hrest⟩ := ret_fin hh hpre hnw (back hA3) hS
    exact ⟨v, hv, v, rfl, hrest⟩
  cases e with
  | normal => obtain ⟨S, k1, k2⟩ := he; exact fin S k1 k2
  | ret => obtain ⟨S, k1, k2⟩ := he; exact fin S k1 k2
  | exit i => obtain ⟨_, k1, _⟩ := he; exact k1.elim
  | goto l => obtain ⟨_, k1, _⟩ := he; exact k1.elim
  | outgrown => exact he.elim
  | panic ch =>
    obtain ⟨v, S3, rfl, ⟨k1, k2⟩, ρ3, X3, hA3⟩ := he
    rw [Side_eq] at k1
    subst k1
    unfold CatG at k2
    split at k2
    · rename_i k x hN
      have hρ3 : ρ3 N = some b := by
        rw [(hA3.same N (by
          have := hA2.sim.closedS t4 N (by rw [hs4]; simp [AV.names])
          exact this)).2]
        exact hb0
      show LeavesInM _ _ _ _ _ _ a3.defers _ w3
      rw [hA3.noMarks rfl]
      have hB := (back hA3).alloc zo
      obtain ⟨b', cs, T, z, q0, q1, q2, q3⟩ := hB.sim.objs N _ hN
      rw [hρ3] at q0; cases q0
      have hcs : cs = [.int k x] := by
        cases q3 with
        | d q3 => cases q3; rfl
      subst hcs
      have hcell : (w3.alloc zo).cell? p = some (.int k x) := by
        simp only [World.cell?, p, q1]; rfl
      have hfr : (w3.alloc zo).frozen? p = false := frozen_row q1 q2 (by simp)
      refine ⟨by simp, .inr ⟨fun h => (by cases h), .func g, _, g, _, rfl, hinv w3, fun _ _ => trivial, (hcatch p w3 k x hcell hfr).mono ?_⟩⟩
      rintro e' u' w' ⟨rfl, rfl, rfl⟩
      have hlay : (w3.alloc zo).setCell p (.int .i64 3) = World.lay (w3.alloc zo) b [.int .i64 3] := by
        rw [setCell_eq_setRow _ _ _ _ _ _ _ q1]; rfl
      rw [hlay]
      obtain ⟨s1, s2⟩ := hB.sim.lay (dst := none) (r := .top) (v := undef) (cs' := [.int .i64 3]) (x' := .var (.d (.int .i64 3))) hN rfl hρ3 q1 rfl (fun Y g hh => ⟨b, _, T, z, hρ3, hh, q2, .d (.int _ _)⟩) (fun m hm => by cases hm) (fun _ _ => trivial) (fun m hm => by cases hm)
      have hfin := hB.evo s1 s2 (fun n hn => upd_dom hn) rfl
      obtain ⟨v, hv, hrest⟩ := ret_fin hh hpre hnw hfin k2
      exact ⟨v, hv, v, rfl, hrest⟩
    · exact k2.elim
end Go.Sym

namespace Go.Sym
mutual
theorem AV.ren_ren {m mi : List (Nat × Nat)} : ∀ (x : AV), (∀ n, n ∈ x.names → renN mi (renN m n) = n) → (x.ren m).ren mi = x
  | .d _, _ => rfl
  | .ptr o p, h => by simp only [AV.ren]; rw [h o (by simp [AV.names])]
  | .sl o p e off len, h => by simp only [AV.ren]; rw [h o (by simp [AV.names])]
  | .st fs, h => by simp only [AV.ren]; rw [AV.rens_rens fs (by simpa [AV.names] using h)]
  | .dptr _, _ => rfl
  | .fn f cs, h => by simp only [AV.ren]; rw [AV.rens_rens cs (by simpa [AV.names] using h)]
  | .cst _, _ => rfl
  | .tup vs, h => by simp only [AV.ren]; rw [AV.rens_rens vs (by simpa [AV.names] using h)]
  | .top, _ => rfl
theorem AV.rens_rens {m mi : List (Nat × Nat)} : ∀ (xs : List AV), (∀ n, n ∈ AV.namesL xs → renN mi (renN m n) = n) → AV.rens mi (AV.rens m xs) = xs
  | [], _ => rfl
  | x :: xs, h => by
    simp only [AV.rens]
    rw [AV.ren_ren x (fun n hn => h n (by simp [AV.namesL, hn])), AV.rens_rens xs (fun n hn => h n (by simp [AV.namesL, hn]))]
end
mutual
theorem AV.names_ren {m : List (Nat × Nat)} {n : Nat} : ∀ (x : AV), n ∈ (x.ren m).names → ∃ k, k ∈ x.names ∧ n = renN m k
  | .d _, h => by cases h
  | .ptr o p, h => ⟨o, by simp [AV.names], by simpa [AV.ren, AV.names] using h⟩
  | .sl o p e off len, h => ⟨o, by simp [AV.names], by simpa [AV.ren, AV.names] using h⟩
  | .st fs, h => by simp only [AV.ren, AV.names] at h ⊢; exact AV.names_rens fs h
  | .dptr _, h => by cases h
  | .fn f cs, h => by simp only [AV.ren, AV.names] at h ⊢; exact AV.names_rens cs h
  | .cst _, h => by cases h
  | .tup vs, h => by simp only [AV.ren, AV.names] at h ⊢; exact AV.names_rens vs h
  | .top, h => by cases h
theorem AV.names_rens {m : List (Nat × Nat)} {n : Nat} : ∀ (xs : List AV), n ∈ AV.namesL (AV.rens m xs) → ∃ k, k ∈ AV.namesL xs ∧ n = renN m k
  | [], h => by cases h
  | x :: xs, h => by
    simp only [AV.rens, AV.namesL, List.mem_append] at h ⊢
    rcases h with h | h
    · obtain ⟨k, h1, h2⟩ := AV.names_ren x h; exact ⟨k, .inl h1, h2⟩
    · obtain ⟨k, h1, h2⟩ := AV.names_rens xs h; exact ⟨k, .inr h1, h2⟩
end
theorem AObj.ren_ren {m mi : List (Nat × Nat)} (x : AObj) (h : ∀ n, n ∈ x.names → renN mi (renN m n) = n) : (x.ren m).ren mi = x := by
  cases x with
  | var x => simp only [AObj.ren]; rw [AV.ren_ren x h]
  | row e xs => rfl
  | dead => rfl
theorem AObj.names_ren {m : List (Nat × Nat)} {n : Nat} (x : AObj) (h : n ∈ (x.ren m).names) : ∃ k, k ∈ x.names ∧ n = renN m k := by
  cases x with
  | var x => exact AV.names_ren x h
  | row e xs => cases h
  | dead => cases h
def renP (m : List (Nat × Nat)) (p : Nat × AObj) : Nat × AObj := (renN m p.1, p.2.ren m)
def renOK (m mi : List (Nat × Nat)) (args : List AV) (pre : List (Nat × AObj)) (nw : List Nat) (r : AV) (ws : List (Nat × AObj)) : Bool :=
  (pre.map (·.1) ++ nw).all (fun n => (renN mi (renN m n)).beq n) && (AV.namesL args).all (fun n => (pre.map (·.1)).contains n) && pre.all (fun p => p.2.names.all fun n => (pre.map (·.1)).contains n) &&
  r.names.all (fun n => (pre.map (·.1) ++ nw).contains n) && ws.all (fun p => (pre.map (·.1) ++ nw).contains p.1 && p.2.names.all fun n => (pre.map (·.1) ++ nw).contains n)
theorem lkp_of_mem {α : Type} {k : Nat} : ∀ {l : List (Nat × α)}, k ∈ l.map (·.1) → lkp l k ≠ none
  | [], h => by cases h
  | p :: l, h => by
    simp only [lkp]
    cases hb : p.1.beq k with
    | true => simp
    | false =>
      simp only [cond_false]
      refine lkp_of_mem ?_
      rcases List.mem_cons.1 h with h | h
      · subst h; simp at hb
      · exact h
theorem lkp_ren {m mi : List (Nat × Nat)} {k : Nat} (hk : renN mi (renN m k) = k) : ∀ {ws : List (Nat × AObj)}, (∀ p, p ∈ ws → renN mi (renN m p.1) = p.1) → lkp (ws.map (renP m)) (renN m k) = (lkp ws k).map (AObj.ren m)
  | [], _ => rfl
  | p :: ws, h => by
    simp only [List.map_cons, renP, lkp]
    have hp := h p (by simp)
    by_cases he : p.1 = k
    · subst he; simp
    · have h1 : p.1.beq k = false := by
        cases hb : p.1.beq k with
        | true => exact absurd (Nat.eq_of_beq_eq_true hb) he
        | false => rfl
      have h2 : (renN m p.1).beq (renN m k) = false := by
        cases hb : (renN m p.1).beq (renN m k) with
        | true => exact absurd (by have := congrArg (renN mi) (Nat.eq_of_beq_eq_true hb); rw [hp, hk] at this; exact this) he
        | false => rfl
      rw [h1, h2, cond_false, cond_false]
      exact lkp_ren hk fun q hq => h q (by simp [hq])
open Classical in
theorem local_ren {P : Program} {f : FuncId} {args : List AV} {pre : List (Nat × AObj)} {nw : List Nat} {r : AV} {ws : List (Nat × AObj)} (m mi : List (Nat × Nat)) (h : LocalCall P f args pre nw r ws) (hok : renOK m mi args pre nw r ws = true) :
    LocalCall P f (AV.rens m args) (pre.map (renP m)) (nw.map (renN m)) (r.ren m) (ws.map (renP m)) := by
  simp only [renOK, Bool.and_eq_true, List.all_eq_true, List.contains_eq_mem, decide_eq_true_eq] at hok
  obtain ⟨⟨⟨⟨c1, c2⟩, c3⟩, c4⟩, c5⟩ := hok
  have hK : ∀ n, n ∈ pre.map (·.1) ++ nw → renN mi (renN m n) = n := fun n hn => Nat.eq_of_beq_eq_true (c1 n hn)
  have hKp : ∀ n, n ∈ pre.map (·.1) → n ∈ pre.map (·.1) ++ nw := fun n hn => List.mem_append_left _ hn
  intro hp h1 h2 ρ X w vs hs hr hn
  have pre0 : ∀ n x, lkp pre n = some x → hp (renN m n) = some (x.ren m) := fun n x hl => h1 (renP m (n, x)) (List.mem_map.2 ⟨_, lkp_mem hl, rfl⟩)
  have preK : ∀ {n : Nat} {x : AObj}, lkp pre n = some x → n ∈ pre.map (·.1) := fun hl => List.mem_map.2 ⟨_, lkp_mem hl, rfl⟩
  have inj : ∀ {a b : Nat}, a ∈ pre.map (·.1) ++ nw → b ∈ pre.map (·.1) ++ nw → renN m a = renN m b → a = b := fun ha hb he => by rw [← hK _ ha, ← hK _ hb, he]
  have hs0 : HSim (fun n => lkp pre n) (fun n => ρ (renN m n)) X w := by
    refine ⟨fun n x hl => ObjAt.ren (hs.objs _ _ (pre0 n x hl)), fun n n' x x' b k1 k2 k3 k4 k5 k6 => ?_, fun n x b k1 k2 k3 => hs.own _ _ b (pre0 n x k1) (by rw [AObj.ren_alive]; exact k2) k3, fun n x hl n' hn' => lkp_of_mem (c3 _ (lkp_mem hl) n' hn')⟩
    exact inj (hKp _ (preK k1)) (hKp _ (preK k3)) (hs.inj _ _ _ _ b (pre0 n x k1) (by rw [AObj.ren_alive]; exact k2) (pre0 n' x' k3) (by rw [AObj.ren_alive]; exact k4) k5 k6)
  have hpre0 : ∀ p, p ∈ pre → lkp pre p.1 = some p.2 := fun p hp' => by
    have hm : p.1 ∈ pre.map (·.1) := List.mem_map.2 ⟨p, hp', rfl⟩
    cases hl : lkp pre p.1 with
    | none => exact absurd hl (lkp_of_mem hm)
    | some y =>
      have e1 := pre0 _ _ hl
      have e2 := h1 (renP m p) (List.mem_map.2 ⟨p, hp', rfl⟩)
      simp only [renP] at e2
      rw [e1] at e2
      have := congrArg (AObj.ren mi) (Option.some.inj e2)
      rw [AObj.ren_ren y (fun n hn => hK n (hKp n (c3 _ (lkp_mem hl) n hn))), AObj.ren_ren p.2 (fun n hn => hK n (hKp n (c3 _ hp' n hn)))] at this
      rw [this]
  have hnw0 : ∀ n, n ∈ nw → lkp pre n = none := fun n hn' => by
    cases hl : lkp pre n with
    | none => rfl
    | some y =>
      have e1 := pre0 _ _ hl
      rw [h2 _ (List.mem_map.2 ⟨n, hn', rfl⟩)] at e1; cases e1
  refine (h (fun n => lkp pre n) hpre0 hnw0 (fun n => ρ (renN m n)) X w vs hs0 hr.ren (fun n hn' => lkp_of_mem (c2 n hn'))).mono fun e w' ⟨v, e1, ρ', X', k1, k2, k3, k4⟩ => ?_
  let ρf : Nat → Option Nat := fun n => if hp n ≠ none then ρ n else ρ' (renN mi n)
  have hρo : ∀ n, hp n ≠ none → ρf n = ρ n := fun n hn' => if_pos hn'
  have hρf : ∀ k, k ∈ pre.map (·.1) ++ nw → ρf (renN m k) = ρ' k := fun k hk => by
    by_cases hp' : k ∈ pre.map (·.1)
    · have hl := lkp_of_mem hp'
      obtain ⟨x, hx⟩ := Option.ne_none_iff_exists'.1 hl
      rw [hρo _ (by rw [pre0 k x hx]; simp)]
      exact (k2.same k hl).symm
    · have hkn : k ∈ nw := (List.mem_append.1 hk).resolve_left hp'
      have : hp (renN m k) = none := h2 _ (List.mem_map.2 ⟨k, hkn, rfl⟩)
      show (if hp (renN m k) ≠ none then _ else _) = _
      rw [if_neg (by rw [this]; simp), hK k hk]
  have hwsK : ∀ p, p ∈ ws → p.1 ∈ pre.map (·.1) ++ nw := fun p hp' => (c5 p hp').1
  have hlk : ∀ k, k ∈ pre.map (·.1) ++ nw → lkp (ws.map (renP m)) (renN m k) = (lkp ws k).map (AObj.ren m) := fun k hk => lkp_ren (hK k hk) fun p hp' => hK _ (hwsK p hp')
  have g0 : Goes (fun n => ρ' (renN mi n)) ρf X' X' (fun _ => False) w' w' := ⟨.refl _ _, fun _ _ _ h => h, fun _ _ h => h⟩
  have hag : ∀ k, k ∈ pre.map (·.1) ++ nw → ρf (renN m k) = ρ' (renN mi (renN m k)) := fun k hk => by rw [hρf k hk, hK k hk]
  have wrNames : ∀ k y, wr (fun n => lkp pre n) ws k = some y → k ∈ pre.map (·.1) ++ nw ∧ ∀ n, n ∈ y.names → n ∈ pre.map (·.1) ++ nw := fun k y hw => by
    unfold wr at hw
    cases hl : lkp ws k with
    | some z => simp only [hl, Option.some.injEq] at hw; subst hw; exact ⟨hwsK _ (lkp_mem hl), (c5 _ (lkp_mem hl)).2⟩
    | none => simp only [hl] at hw; exact ⟨hKp _ (preK hw), fun n hn' => hKp _ (c3 _ (lkp_mem hw) n hn')⟩
  have conv : ∀ k y, wr (fun n => lkp pre n) ws k = some y → ObjAt ρf X' w' (renN m k) (y.ren m) := fun k y hw => by
    obtain ⟨q1, q2⟩ := wrNames k y hw
    have o1 := k1.objs k y hw
    have o2 : ObjAt ρ' X' w' (renN mi (renN m k)) ((y.ren m).ren mi) := by rw [hK k q1, AObj.ren_ren y fun n hn' => hK n (q2 n hn')]; exact o1
    refine (ObjAt.ren o2).mono g0 (hag k q1) (fun _ _ => rfl) fun n hn' => ?_
    obtain ⟨k', q3, rfl⟩ := AObj.names_ren y hn'
    exact hag k' (q2 k' q3)
  have hwr : ∀ k, k ∈ pre.map (·.1) ++ nw → wr hp (ws.map (renP m)) (renN m k) = (wr (fun n => lkp pre n) ws k).map (AObj.ren m) := fun k hk => by
    unfold wr
    rw [hlk k hk]
    cases hl : lkp ws k with
    | some y => rfl
    | none =>
      simp only [Option.map_none]
      cases hl2 : lkp pre k with
      | some y => simp only [Option.map_some]; exact pre0 k y hl2
      | none =>
        have hkn : k ∈ nw := (List.mem_append.1 hk).resolve_left fun hp' => lkp_of_mem hp' hl2
        exact h2 _ (List.mem_map.2 ⟨k, hkn, rfl⟩)
  have char : ∀ n x, wr hp (ws.map (renP m)) n = some x → (∃ k y, wr (fun n => lkp pre n) ws k = some y ∧ n = renN m k ∧ x = y.ren m) ∨ (hp n = some x ∧ ∀ k, k ∈ pre.map (·.1) ++ nw → n ≠ renN m k) := fun n x hw => by
    by_cases he : ∃ k, k ∈ pre.map (·.1) ++ nw ∧ n = renN m k
    · obtain ⟨k, hk, rfl⟩ := he
      rw [hwr k hk] at hw
      obtain ⟨y, hy, rfl⟩ := Option.map_eq_some_iff.1 hw
      exact .inl ⟨k, y, hy, rfl, rfl⟩
    · refine .inr ⟨?_, fun k hk e => he ⟨k, hk, e⟩⟩
      unfold wr at hw
      split at hw
      · rename_i z hl
        obtain ⟨p, hp', he'⟩ := List.mem_map.1 (lkp_mem hl)
        exact absurd ⟨p.1, hwsK p hp', (congrArg Prod.fst he').symm⟩ he
      · exact hw
  have ownedC : ∀ b, (∃ o x, lkp pre o = some x ∧ x.alive = true ∧ ρ (renN m o) = some b) → ∃ o x, hp o = some x ∧ x.alive = true ∧ ρ o = some b := fun b ⟨o, x, q1, q2, q3⟩ => ⟨_, _, pre0 o x q1, by rw [AObj.ren_alive]; exact q2, q3⟩
  have notB : ∀ n x b, hp n = some x → x.alive = true → ρ n = some b → (∀ k, k ∈ pre.map (·.1) ++ nw → n ≠ renN m k) → ¬ ∃ o x, lkp pre o = some x ∧ x.alive = true ∧ ρ (renN m o) = some b := fun n x b q1 q2 q3 q4 ⟨o, y, q5, q6, q7⟩ =>
    q4 o (hKp _ (preK q5)) (hs.inj _ _ _ _ b q1 q2 (pre0 o y q5) (by rw [AObj.ren_alive]; exact q6) q3 q7)
  have g : Goes ρ ρf X X' (fun b => ∃ o x, lkp pre o = some x ∧ x.alive = true ∧ ρ (renN m o) = some b) w w' := ⟨k2.ext, fun b _ hx hy => by obtain ⟨o, x, q1, q2, q3⟩ := ownedC b hy; exact hx (hs.own o x b q1 q2 q3), fun b hb hx => (k2.xs b hb).1 hx⟩
  have AB : ∀ k y n x b, wr (fun n => lkp pre n) ws k = some y → y.alive = true → ρ' k = some b → hp n = some x → x.alive = true → ρ n = some b → (∀ k, k ∈ pre.map (·.1) ++ nw → n ≠ renN m k) → False := fun k y n x b q1 q2 q3 q4 q5 q6 q7 => by
    rcases k2.own k y b q1 q2 q3 with hb | hb
    · have := (hs.objs n x q4).lt q5 q6; omega
    · exact notB n x b q4 q5 q6 q7 hb
  refine ⟨v, e1, ρf, X', ⟨fun n x hw => ?_, fun n n' x x' b q1 q2 q3 q4 q5 q6 => ?_, fun n x b q1 q2 q3 => ?_, fun n x q1 n' hn' => ?_⟩, ⟨k2.ext.mono fun b _ hb => ownedC b hb, fun b hb => ⟨(k2.xs b hb).1, fun hx => ((k2.xs b hb).2 hx).imp id (ownedC b)⟩, fun n x b q1 q2 q3 => ?_, fun n hn' => hρo n hn'⟩, ?_, fun n hn' => ?_⟩
  · rcases char n x hw with ⟨k, y, q1, rfl, rfl⟩ | ⟨q1, q2⟩
    · exact conv k y q1
    · cases ha : x.alive with
      | false => cases x <;> first | trivial | cases ha
      | true => exact (hs.objs n x q1).mono g (hρo n (by rw [q1]; simp)) (fun b hb => k2.ext.keep b ((hs.objs n x q1).lt ha hb) (notB n x b q1 ha hb q2)) fun o ho => hρo o (hs.closed n x q1 o ho)
  · rcases char n x q1 with ⟨k, y, p1, rfl, rfl⟩ | ⟨p1, p2⟩
    · rw [hρf k (wrNames k y p1).1] at q5
      rw [AObj.ren_alive] at q2
      rcases char n' x' q3 with ⟨k', y', p3, rfl, rfl⟩ | ⟨p3, p4⟩
      · rw [hρf k' (wrNames k' y' p3).1] at q6
        rw [AObj.ren_alive] at q4
        rw [k1.inj k k' y y' b p1 q2 p3 q4 q5 q6]
      · rw [hρo n' (by rw [p3]; simp)] at q6
        exact (AB k y n' x' b p1 q2 q5 p3 q4 q6 p4).elim
    · rw [hρo n (by rw [p1]; simp)] at q5
      rcases char n' x' q3 with ⟨k', y', p3, rfl, rfl⟩ | ⟨p3, p4⟩
      · rw [hρf k' (wrNames k' y' p3).1] at q6
        rw [AObj.ren_alive] at q4
        exact (AB k' y' n x b p3 q4 q6 p1 q2 q5 p2).elim
      · rw [hρo n' (by rw [p3]; simp)] at q6
        exact hs.inj n n' x x' b p1 q2 p3 q4 q5 q6
  · rcases char n x q1 with ⟨k, y, p1, rfl, rfl⟩ | ⟨p1, p2⟩
    · rw [hρf k (wrNames k y p1).1] at q3
      exact k1.own k y b p1 (by rw [AObj.ren_alive] at q2; exact q2) q3
    · rw [hρo n (by rw [p1]; simp)] at q3
      exact ((k2.xs b ((hs.objs n x p1).lt q2 q3)).2 (hs.own n x b p1 q2 q3)).resolve_right (notB n x b p1 q2 q3 p2)
  · rcases char n x q1 with ⟨k, y, p1, rfl, rfl⟩ | ⟨p1, p2⟩
    · obtain ⟨k', p3, rfl⟩ := AObj.names_ren y hn'
      rw [hwr k' ((wrNames k y p1).2 k' p3)]
      have := k1.closed k y p1 k' p3
      cases hz : wr (fun n => lkp pre n) ws k' with
      | none => exact absurd hz this
      | some z => simp
    · exact wr_ne (hs.closed n x p1 n' hn')
  · rcases char n x q1 with ⟨k, y, p1, rfl, rfl⟩ | ⟨p1, p2⟩
    · rw [hρf k (wrNames k y p1).1] at q3
      exact (k2.own k y b p1 (by rw [AObj.ren_alive] at q2; exact q2) q3).imp id (ownedC b)
    · rw [hρo n (by rw [p1]; simp)] at q3
      exact .inr ⟨n, x, p1, q2, q3⟩
  · have o2 : RepA ρ' X' w' ((r.ren m).ren mi) v := by rw [AV.ren_ren r fun n hn' => hK n (c4 n hn')]; exact k3
    refine (RepA.ren o2).mono g0 fun n hn' => ?_
    obtain ⟨k', q3, rfl⟩ := AV.names_ren r hn'
    exact hag k' (c4 k' q3)
  · obtain ⟨k', q3, rfl⟩ := AV.names_ren r hn'
    rw [hwr k' (c4 k' q3)]
    have := k4 k' q3
    cases hz : wr (fun n => lkp pre n) ws k' with
    | none => exact absurd hz this
    | some z => simp
open Classical in
theorem localPan_ren {P : Program} {f : FuncId} {args : List AV} {pre : List (Nat × AObj)} {nw : List Nat} {pv : Value} {ws : List (Nat × AObj)} (m mi : List (Nat × Nat)) (h : LocalPan P f args pre nw pv ws) (hok : renOK m mi args pre nw .top ws = true) :
    LocalPan P f (AV.rens m args) (pre.map (renP m)) (nw.map (renN m)) pv (ws.map (renP m)) := by
  simp only [renOK, Bool.and_eq_true, List.all_eq_true, List.contains_eq_mem, decide_eq_true_eq] at hok
  obtain ⟨⟨⟨⟨c1, c2⟩, c3⟩, c4⟩, c5⟩ := hok
  have hK : ∀ n, n ∈ pre.map (·.1) ++ nw → renN mi (renN m n) = n := fun n hn => Nat.eq_of_beq_eq_true (c1 n hn)
  have hKp : ∀ n, n ∈ pre.map (·.1) → n ∈ pre.map (·.1) ++ nw := fun n hn => List.mem_append_left _ hn
  intro hp h1 h2 ρ X w vs hs hr hn
  have pre0 : ∀ n x, lkp pre n = some x → hp (renN m n) = some (x.ren m) := fun n x hl => h1 (renP m (n, x)) (List.mem_map.2 ⟨_, lkp_mem hl, rfl⟩)
  have preK : ∀ {n : Nat} {x : AObj}, lkp pre n = some x → n ∈ pre.map (·.1) := fun hl => List.mem_map.2 ⟨_, lkp_mem hl, rfl⟩
  have inj : ∀ {a b : Nat}, a ∈ pre.map (·.1) ++ nw → b ∈ pre.map (·.1) ++ nw → renN m a = renN m b → a = b := fun ha hb he => by rw [← hK _ ha, ← hK _ hb, he]
  have hs0 : HSim (fun n => lkp pre n) (fun n => ρ (renN m n)) X w := by
    refine ⟨fun n x hl => ObjAt.ren (hs.objs _ _ (pre0 n x hl)), fun n n' x x' b k1 k2 k3 k4 k5 k6 => ?_, fun n x b k1 k2 k3 => hs.own _ _ b (pre0 n x k1) (by rw [AObj.ren_alive]; exact k2) k3, fun n x hl n' hn' => lkp_of_mem (c3 _ (lkp_mem hl) n' hn')⟩
    exact inj (hKp _ (preK k1)) (hKp _ (preK k3)) (hs.inj _ _ _ _ b (pre0 n x k1) (by rw [AObj.ren_alive]; exact k2) (pre0 n' x' k3) (by rw [AObj.ren_alive]; exact k4) k5 k6)
  have hpre0 : ∀ p, p ∈ pre → lkp pre p.1 = some p.2 := fun p hp' => by
    have hm : p.1 ∈ pre.map (·.1) := List.mem_map.2 ⟨p, hp', rfl⟩
    cases hl : lkp pre p.1 with
    | none => exact absurd hl (lkp_of_mem hm)
    | some y =>
      have e1 := pre0 _ _ hl
      have e2 := h1 (renP m p) (List.mem_map.2 ⟨p, hp', rfl⟩)
      simp only [renP] at e2
      rw [e1] at e2
      have := congrArg (AObj.ren mi) (Option.some.inj e2)
      rw [AObj.ren_ren y (fun n hn => hK n (hKp n (c3 _ (lkp_mem hl) n hn))), AObj.ren_ren p.2 (fun n hn => hK n (hKp n (c3 _ hp' n hn)))] at this
      rw [this]
  have hnw0 : ∀ n, n ∈ nw → lkp pre n = none := fun n hn' => by
    cases hl : lkp pre n with
    | none => rfl
    | some y =>
      have e1 := pre0 _ _ hl
      rw [h2 _ (List.mem_map.2 ⟨n, hn', rfl⟩)] at e1; cases e1
  refine (h (fun n => lkp pre n) hpre0 hnw0 (fun n => ρ (renN m n)) X w vs hs0 hr.ren (fun n hn' => lkp_of_mem (c2 n hn'))).mono fun e w' ⟨e1, ρ', X', k1, k2⟩ => ?_
  let ρf : Nat → Option Nat := fun n => if hp n ≠ none then ρ n else ρ' (renN mi n)
  have hρo : ∀ n, hp n ≠ none → ρf n = ρ n := fun n hn' => if_pos hn'
  have hρf : ∀ k, k ∈ pre.map (·.1) ++ nw → ρf (renN m k) = ρ' k := fun k hk => by
    by_cases hp' : k ∈ pre.map (·.1)
    · have hl := lkp_of_mem hp'
      obtain ⟨x, hx⟩ := Option.ne_none_iff_exists'.1 hl
      rw [hρo _ (by rw [pre0 k x hx]; simp)]
      exact (k2.same k hl).symm
    · have hkn : k ∈ nw := (List.mem_append.1 hk).resolve_left hp'
      have : hp (renN m k) = none := h2 _ (List.mem_map.2 ⟨k, hkn, rfl⟩)
      show (if hp (renN m k) ≠ none then _ else _) = _
      rw [if_neg (by rw [this]; simp), hK k hk]
  have hwsK : ∀ p, p ∈ ws → p.1 ∈ pre.map (·.1) ++ nw := fun p hp' => (c5 p hp').1
  have hlk : ∀ k, k ∈ pre.map (·.1) ++ nw → lkp (ws.map (renP m)) (renN m k) = (lkp ws k).map (AObj.ren m) := fun k hk => lkp_ren (hK k hk) fun p hp' => hK _ (hwsK p hp')
  have g0 : Goes (fun n => ρ' (renN mi n)) ρf X' X' (fun _ => False) w' w' := ⟨.refl _ _, fun _ _ _ h => h, fun _ _ h => h⟩
  have hag : ∀ k, k ∈ pre.map (·.1) ++ nw → ρf (renN m k) = ρ' (renN mi (renN m k)) := fun k hk => by rw [hρf k hk, hK k hk]
  have wrNames : ∀ k y, wr (fun n => lkp pre n) ws k = some y → k ∈ pre.map (·.1) ++ nw ∧ ∀ n, n ∈ y.names → n ∈ pre.map (·.1) ++ nw := fun k y hw => by
    unfold wr at hw
    cases hl : lkp ws k with
    | some z => simp only [hl, Option.some.injEq] at hw; subst hw; exact ⟨hwsK _ (lkp_mem hl), (c5 _ (lkp_mem hl)).2⟩
    | none => simp only [hl] at hw; exact ⟨hKp _ (preK hw), fun n hn' => hKp _ (c3 _ (lkp_mem hw) n hn')⟩
  have conv : ∀ k y, wr (fun n => lkp pre n) ws k = some y → ObjAt ρf X' w' (renN m k) (y.ren m) := fun k y hw => by
    obtain ⟨q1, q2⟩ := wrNames k y hw
    have o1 := k1.objs k y hw
    have o2 : ObjAt ρ' X' w' (renN mi (renN m k)) ((y.ren m).ren mi) := by rw [hK k q1, AObj.ren_ren y fun n hn' => hK n (q2 n hn')]; exact o1
    refine (ObjAt.ren o2).mono g0 (hag k q1) (fun _ _ => rfl) fun n hn' => ?_
    obtain ⟨k', q3, rfl⟩ := AObj.names_ren y hn'
    exact hag k' (q2 k' q3)
  have hwr : ∀ k, k ∈ pre.map (·.1) ++ nw → wr hp (ws.map (renP m)) (renN m k) = (wr (fun n => lkp pre n) ws k).map (AObj.ren m) := fun k hk => by
    unfold wr
    rw [hlk k hk]
    cases hl : lkp ws k with
    | some y => rfl
    | none =>
      simp only [Option.map_none]
      cases hl2 : lkp pre k with
      | some y => simp only [Option.map_some]; exact pre0 k y hl2
      | none =>
        have hkn : k ∈ nw := (List.mem_append.1 hk).resolve_left fun hp' => lkp_of_mem hp' hl2
        exact h2 _ (List.mem_map.2 ⟨k, hkn, rfl⟩)
  have char : ∀ n x, wr hp (ws.map (renP m)) n = some x → (∃ k y, wr (fun n => lkp pre n) ws k = some y ∧ n = renN m k ∧ x = y.ren m) ∨ (hp n = some x ∧ ∀ k, k ∈ pre.map (·.1) ++ nw → n ≠ renN m k) := fun n x hw => by
    by_cases he : ∃ k, k ∈ pre.map (·.1) ++ nw ∧ n = renN m k
    · obtain ⟨k, hk, rfl⟩ := he
      rw [hwr k hk] at hw
      obtain ⟨y, hy, rfl⟩ := Option.map_eq_some_iff.1 hw
      exact .inl ⟨k, y, hy, rfl, rfl⟩
    · refine .inr ⟨?_, fun k hk e => he ⟨k, hk, e⟩⟩
      unfold wr at hw
      split at hw
      · rename_i z hl
        obtain ⟨p, hp', he'⟩ := List.mem_map.1 (lkp_mem hl)
        exact absurd ⟨p.1, hwsK p hp', (congrArg Prod.fst he').symm⟩ he
      · exact hw
  have ownedC : ∀ b, (∃ o x, lkp pre o = some x ∧ x.alive = true ∧ ρ (renN m o) = some b) → ∃ o x, hp o = some x ∧ x.alive = true ∧ ρ o = some b := fun b ⟨o, x, q1, q2, q3⟩ => ⟨_, _, pre0 o x q1, by rw [AObj.ren_alive]; exact q2, q3⟩
  have notB : ∀ n x b, hp n = some x → x.alive = true → ρ n = some b → (∀ k, k ∈ pre.map (·.1) ++ nw → n ≠ renN m k) → ¬ ∃ o x, lkp pre o = some x ∧ x.alive = true ∧ ρ (renN m o) = some b := fun n x b q1 q2 q3 q4 ⟨o, y, q5, q6, q7⟩ =>
    q4 o (hKp _ (preK q5)) (hs.inj _ _ _ _ b q1 q2 (pre0 o y q5) (by rw [AObj.ren_alive]; exact q6) q3 q7)
  have g : Goes ρ ρf X X' (fun b => ∃ o x, lkp pre o = some x ∧ x.alive = true ∧ ρ (renN m o) = some b) w w' := ⟨k2.ext, fun b _ hx hy => by obtain ⟨o, x, q1, q2, q3⟩ := ownedC b hy; exact hx (hs.own o x b q1 q2 q3), fun b hb hx => (k2.xs b hb).1 hx⟩
  have AB : ∀ k y n x b, wr (fun n => lkp pre n) ws k = some y → y.alive = true → ρ' k = some b → hp n = some x → x.alive = true → ρ n = some b → (∀ k, k ∈ pre.map (·.1) ++ nw → n ≠ renN m k) → False := fun k y n x b q1 q2 q3 q4 q5 q6 q7 => by
    rcases k2.own k y b q1 q2 q3 with hb | hb
    · have := (hs.objs n x q4).lt q5 q6; omega
    · exact notB n x b q4 q5 q6 q7 hb
  refine ⟨e1, ρf, X', ⟨fun n x hw => ?_, fun n n' x x' b q1 q2 q3 q4 q5 q6 => ?_, fun n x b q1 q2 q3 => ?_, fun n x q1 n' hn' => ?_⟩, ⟨k2.ext.mono fun b _ hb => ownedC b hb, fun b hb => ⟨(k2.xs b hb).1, fun hx => ((k2.xs b hb).2 hx).imp id (ownedC b)⟩, fun n x b q1 q2 q3 => ?_, fun n hn' => hρo n hn'⟩⟩
  · rcases char n x hw with ⟨k, y, q1, rfl, rfl⟩ | ⟨q1, q2⟩
    · exact conv k y q1
    · cases ha : x.alive with
      | false => cases x <;> first | trivial | cases ha
      | true => exact (hs.objs n x q1).mono g (hρo n (by rw [q1]; simp)) (fun b hb => k2.ext.keep b ((hs.objs n x q1).lt ha hb) (notB n x b q1 ha hb q2)) fun o ho => hρo o (hs.closed n x q1 o ho)
  · rcases char n x q1 with ⟨k, y, p1, rfl, rfl⟩ | ⟨p1, p2⟩
    · rw [hρf k (wrNames k y p1).1] at q5
      rw [AObj.ren_alive] at q2
      rcases char n' x' q3 with ⟨k', y', p3, rfl, rfl⟩ | ⟨p3, p4⟩
      · rw [hρf k' (wrNames k' y' p3).1] at q6
        rw [AObj.ren_alive] at q4
        rw [k1.inj k k' y y' b p1 q2 p3 q4 q5 q6]
      · rw [hρo n' (by rw [p3]; simp)] at q6
        exact (AB k y n' x' b p1 q2 q5 p3 q4 q6 p4).elim
    · rw [hρo n (by rw [p1]; simp)] at q5
      rcases char n' x' q3 with ⟨k', y', p3, rfl, rfl⟩ | ⟨p3, p4⟩
      · rw [hρf k' (wrNames k' y' p3).1] at q6
        rw [AObj.ren_alive] at q4
        exact (AB k' y' n x b p3 q4 q6 p1 q2 q5 p2).elim
      · rw [hρo n' (by rw [p3]; simp)] at q6
        exact hs.inj n n' x x' b p1 q2 p3 q4 q5 q6
  · rcases char n x q1 with ⟨k, y, p1, rfl, rfl⟩ | ⟨p1, p2⟩
    · rw [hρf k (wrNames k y p1).1] at q3
      exact k1.own k y b p1 (by rw [AObj.ren_alive] at q2; exact q2) q3
    · rw [hρo n (by rw [p1]; simp)] at q3
      exact ((k2.xs b ((hs.objs n x p1).lt q2 q3)).2 (hs.own n x b p1 q2 q3)).resolve_right (notB n x b p1 q2 q3 p2)
  · rcases char n x q1 with ⟨k, y, p1, rfl, rfl⟩ | ⟨p1, p2⟩
    · obtain ⟨k', p3, rfl⟩ := AObj.names_ren y hn'
      rw [hwr k' ((wrNames k y p1).2 k' p3)]
      have := k1.closed k y p1 k' p3
      cases hz : wr (fun n => lkp pre n) ws k' with
      | none => exact absurd hz this
      | some z => simp
    · exact wr_ne (hs.closed n x p1 n' hn')
  · rcases char n x q1 with ⟨k, y, p1, rfl, rfl⟩ | ⟨p1, p2⟩
    · rw [hρf k (wrNames k y p1).1] at q3
      exact (k2.own k y b p1 (by rw [AObj.ren_alive] at q2; exact q2) q3).imp id (ownedC b)
    · rw [hρo n (by rw [p1]; simp)] at q3
      exact .inr ⟨n, x, p1, q2, q3⟩
end Go.Sym

namespace Go.Sym
structure EK {α : Type} (O : Option α) (K : α → Prop) : Prop where
  h : ∃ a, O = some a ∧ K a
structure EP {α : Type} (O : Option α) (K : Prop) : Prop where
  h : O = none ∧ K
theorem EK_some {α : Type} (a : α) (K : α → Prop) : EK (some a) K = K a := propext ⟨fun ⟨b, h, k⟩ => by cases h; exact k, fun k => ⟨a, rfl, k⟩⟩
theorem EK_none {α : Type} (K : α → Prop) : EK none K = False := propext ⟨fun ⟨b, h, k⟩ => (by cases h), fun k => k.elim⟩
theorem EP_some {α : Type} (a : α) (K : Prop) : EP (some a) K = False := propext ⟨fun ⟨h, k⟩ => (by cases h), fun k => k.elim⟩
theorem EP_none {α : Type} (K : Prop) : EP (none : Option α) K = K := propext ⟨fun ⟨h, k⟩ => k, fun k => ⟨rfl, k⟩⟩
theorem vc_ek {α : Type} {O : Option α} {K : α → Prop} (a : α) (h : O = some a) (k : Vc (K a)) : Vc (EK O K) := ⟨⟨a, h, k.h⟩⟩
theorem vc_ep {α : Type} {O : Option α} {K : Prop} (h : O = none) (k : Vc K) : Vc (EP O K) := ⟨⟨h, k.h⟩⟩
def fnKE {α : Type} (O : Option α) (P : Program) (fn : Func) (pre : List (Nat × AObj)) (nw : List Nat) (rs : α → List AV) (ws : α → List (Nat × AObj)) : AExit → St → Prop
  | .normal, S' => EK O fun a => RetC P fn pre nw (rs a) (ws a) S'
  | .ret, S' => EK O fun a => RetC P fn pre nw (rs a) (ws a) S'
  | _, _ => False
def panKE {α : Type} (O : Option α) (pre : List (Nat × AObj)) (nw : List Nat) (pv : Value) (ws : List (Nat × AObj)) : Value → St → Prop := fun v S' => EP O (Side (v = pv) ∧ PanC pre nw ws S')
structure LocalE {α : Type} (O : Option α) (P : Program) (f : FuncId) (args : List AV) (pre : List (Nat × AObj)) (nw : List Nat) (rs : α → List AV) (ws : α → List (Nat × AObj)) (nwp : List Nat) (pv : Value) (wsp : List (Nat × AObj)) : Prop where
  ok : ∀ a, O = some a → LocalCall P f args pre nw (one (rs a)) (ws a)
  pan : O = none → LocalPan P f args pre nwp pv wsp
theorem vc_fnE {α : Type} {P : Program} (hm : P.follows .mixedOrders = true) {f : FuncId} {fn : Func} {c : Code} (hf : P.funcs[f]? = some fn) (hb : fn.body = some c) {n : Nat} (hn : fn.ntmps = n) (fr : List (Nat × List Nat)) {args : List AV} {pre : List (Nat × AObj)} {nw : List Nat}
    {rs : α → List AV} {ws : α → List (Nat × AObj)} {nwp : List Nat} {pv : Value} {wsp : List (Nat × AObj)} (O : Option α) (h1 : Vc (Chk (entOK n args pre)))
    (h2 : Vc (fNs (pre.map (·.1)) fun en => Later (wpC P fr false en c (mkSt n (enumA 0 args) pre) (fnKE O P fn pre nw rs ws) (panKE O pre nwp pv wsp)))) : LocalE O P f args pre nw rs ws nwp pv wsp := by
  refine ⟨fun a ha => ?_, fun ha => ?_⟩
  · subst ha
    refine vc_fn hm hf hb hn fr h1 ?_
    have e1 : fnKE (some a) P fn pre nw rs ws = fnK P fn pre nw (rs a) (ws a) := by
      funext e S
      cases e <;> simp only [fnKE, fnK, EK_some]
    have e2 : panKE (some a) pre nwp pv wsp = fun _ _ => False := by
      funext v S
      simp only [panKE, EP_some]
    rw [e1, e2] at h2
    exact h2
  · subst ha
    refine vc_fnPan hm hf hb hn fr h1 ?_
    have e1 : fnKE (none : Option α) P fn pre nw rs ws = fun _ _ => False := by
      funext e S
      cases e <;> simp only [fnKE, EK_none]
    have e2 : panKE (none : Option α) pre nwp pv wsp = panK pre nwp pv wsp := by
      funext v S
      simp only [panKE, panK, EP_none]
    rw [e1, e2] at h2
    exact h2
section
variable {P : Program} {f : FuncId} {args args' : List AV} {S : St} {pre : List (Nat × AObj)} {K : AV → List (Nat × AObj) → Foot → Prop} {Kp : Value → List (Nat × AObj) → Foot → Prop}
theorem vc_callAt {nw : List Nat} {r : AV} {ws : List (Nat × AObj)} (ms : List Bool) (o : Nat) {x : AObj} (hx : S.hp o = some x) (hc : LocalCall P f args' ((o, x) :: pre) nw r ws) (h : Vc (CallG P f args S ms args' ((o, x) :: pre) nw r ws K)) : Vc (vcCall P f args S K Kp) :=
  vc_call ms hc h
theorem vc_eAt {α : Type} {O : Option α} {nw nwp : List Nat} {rs : α → List AV} {ws : α → List (Nat × AObj)} {pv : Value} {wsp : List (Nat × AObj)} (ms : List Bool) (o : Nat) {x : AObj} (hx : S.hp o = some x) (hc : LocalE O P f args' ((o, x) :: pre) nw rs ws nwp pv wsp)
    (h1 : ∀ a, O = some a → Vc (CallG P f args S ms args' ((o, x) :: pre) nw (one (rs a)) (ws a) K)) (h2 : O = none → Vc (PanG P f args S ms args' ((o, x) :: pre) nwp pv wsp Kp)) : Vc (vcCall P f args S K Kp) := by
  cases O with
  | some a => exact vc_call ms (hc.ok a rfl) (h1 a rfl)
  | none => exact vc_pan ms (hc.pan rfl) (h2 rfl)
end
end Go.Sym

namespace Go.Sym
mutual
def D.dn : D → D
  | .nils => .sl []
  | .st fs => .st (D.dns fs)
  | x => x
def D.dns : List D → List D
  | [] => []
  | x :: xs => D.dn x :: D.dns xs
end
theorem D.dn_agg (x : D) : x.dn.isAgg = x.isAgg := by cases x <;> rfl
mutual
theorem RepD.dn {X : Nat → Prop} {w : World} : ∀ {x : D} {cs : List Value}, RepD X w x cs → RepD X w x.dn cs
  | _, _, .int k n => .int k n
  | _, _, .bool b => .bool b
  | _, _, .str s => .str s
  | _, _, .st h => .st (RepL.dn h)
  | _, _, .arr h1 h2 h3 => .arr h1 h2 h3
  | _, _, .slnil => .slnil
  | _, _, .sl h1 h2 h3 h4 h5 h6 => .sl h1 h2 h3 h4 h5 h6
  | _, _, .nils => .slnil
  | _, _, .nilp => .nilp
  | _, _, .nilf => .nilf
  | _, _, .nili => .nili
theorem RepL.dn {X : Nat → Prop} {w : World} : ∀ {xs : List D} {cs : List Value}, RepL X w xs cs → RepL X w (D.dns xs) cs
  | _, _, .nil => .nil
  | _, _, .cons h hs => .cons (RepD.dn h) (RepL.dn hs)
end
theorem RepA1.dn {ρ : Nat → Option Nat} {X : Nat → Prop} {w : World} {x : D} {v : Value} (h : RepA1 ρ X w (.d x) v) : RepA1 ρ X w (.d x.dn) v := by
  obtain ⟨cs, h1, h2⟩ := h
  cases h1 with
  | d h1 => exact ⟨cs, .d h1.dn, by rw [h2]; show wrapV x.isAgg cs = wrapV x.dn.isAgg cs; rw [D.dn_agg]⟩
theorem local_dn {P : Program} {f : FuncId} {args : List AV} {pre : List (Nat × AObj)} {nw : List Nat} {ws : List (Nat × AObj)} {x y : D} (h : LocalCall P f args pre nw (one [.d x, .d y]) ws) : LocalCall P f args pre nw (one [.d x.dn, .d y.dn]) ws := by
  intro hp h1 h2 ρ X w vs hs hr hn
  refine (h hp h1 h2 ρ X w vs hs hr hn).mono fun e w' ⟨v, e1, ρ', X', k1, k2, k3, k4⟩ => ⟨v, e1, ρ', X', k1, k2, ?_, fun n hn => by simp [one, AV.names, AV.namesL] at hn⟩
  obtain ⟨us, u1, u2⟩ := k3
  refine ⟨us, u1, ?_⟩
  match us, u2 with
  | [u, v], ⟨q1, q2, q3⟩ => exact ⟨q1.dn, q2.dn, q3⟩
theorem local_dn1 {P : Program} {f : FuncId} {args : List AV} {pre : List (Nat × AObj)} {nw : List Nat} {ws : List (Nat × AObj)} {x : D} (h : LocalCall P f args pre nw (one [.d x]) ws) : LocalCall P f args pre nw (one [.d x.dn]) ws := by
  intro hp h1 h2 ρ X w vs hs hr hn
  refine (h hp h1 h2 ρ X w vs hs hr hn).mono fun e w' ⟨v, e1, ρ', X', k1, k2, k3, k4⟩ => ⟨v, e1, ρ', X', k1, k2, ?_, fun n hn => by simp [one, AV.names] at hn⟩
  exact RepA1.dn k3
theorem local_empty {P : Program} {f : FuncId} {xs : List AV} {pre : List (Nat × AObj)} {nw : List Nat} {r : AV} {ws : List (Nat × AObj)}
    (h : ∀ (a : Option Addr) (cap : Nat), LocalCall P f (.cst (.slice a 0 cap) :: xs) pre nw r ws) : LocalCall P f (.d (.sl []) :: xs) pre nw r ws := by
  intro hp h1 h2 ρ X w vs hs hr hn
  cases vs with
  | nil => exact hr.elim
  | cons v vs =>
    obtain ⟨⟨cs, k1, k2⟩, k3⟩ := hr
    cases k1 with
    | d k1 =>
      have k : ∃ a cap, cs = [.slice a 0 cap] := by
        cases k1 with
        | slnil => exact ⟨_, _, rfl⟩
        | sl _ _ _ _ _ _ => exact ⟨_, _, rfl⟩
      obtain ⟨a, cap, rfl⟩ := k
      exact h a cap hp h1 h2 ρ X w (v :: vs) hs ⟨⟨_, .cst rfl, k2⟩, k3⟩ fun n hn' => hn n (by simpa [AV.namesL, AV.names] using hn')
end Go.Sym

namespace Go.Sym
set_option maxRecDepth 10000
abbrev W32 := BitVec 32
def wI (x : W32) : Int := (x.toNat : Int)
def wD (x : W32) : D := .int .u32 (wI x)
theorem u32_wrap (n : Int) : IntKind.u32.wrap n = n % 4294967296 := by simp [IntKind.wrap, IntKind.signed, IntKind.bits]
theorem u64_wrap (n : Int) : IntKind.u64.wrap n = n % 18446744073709551616 := by simp [IntKind.wrap, IntKind.signed, IntKind.bits]
theorem u8_wrap (n : Int) : IntKind.u8.wrap n = n % 256 := by simp [IntKind.wrap, IntKind.signed, IntKind.bits]
theorem w_bits (x : W32) : BitVec.ofInt 32 (wI x) = x := by
  unfold wI
  rw [BitVec.ofInt_natCast]; simp
theorem w_wrap (x : W32) : IntKind.u32.wrap (wI x) = wI x := by
  rw [u32_wrap]; unfold wI; have := x.isLt; omega
theorem w_add (x y : W32) : IntKind.u32.wrap (wI x + wI y) = wI (x + y) := by
  rw [u32_wrap]; unfold wI
  rw [BitVec.toNat_add]; omega
theorem w_mul (x y : W32) : IntKind.u32.wrap (wI x * wI y) = wI (x * y) := by
  rw [u32_wrap]; unfold wI
  rw [BitVec.toNat_mul]
  have : ((x.toNat * y.toNat : Nat) : Int) = (x.toNat : Int) * y.toNat := by simp
  rw [← this]; omega
theorem w_xor (x y : W32) : aBits .xor .u32 (wI x) (wI y) = wI (x ^^^ y) := by
  show IntKind.u32.wrap (((BitVec.ofInt 32 (wI x) ^^^ BitVec.ofInt 32 (wI y)).toNat : Nat) : Int) = _
  rw [w_bits, w_bits]; exact w_wrap _
theorem w_or (x y : W32) : aBits .or .u32 (wI x) (wI y) = wI (x ||| y) := by
  show IntKind.u32.wrap (((BitVec.ofInt 32 (wI x) ||| BitVec.ofInt 32 (wI y)).toNat : Nat) : Int) = _
  rw [w_bits, w_bits]; exact w_wrap _
theorem w_and (x y : W32) : aBits .and .u32 (wI x) (wI y) = wI (x &&& y) := by
  show IntKind.u32.wrap (((BitVec.ofInt 32 (wI x) &&& BitVec.ofInt 32 (wI y)).toNat : Nat) : Int) = _
  rw [w_bits, w_bits]; exact w_wrap _
theorem w_not (x : W32) : aBits .xor .u32 (if IntKind.u32.signed then -1 else IntKind.u32.max) (wI x) = wI (~~~ x) := by
  have h : (if IntKind.u32.signed then (-1 : Int) else IntKind.u32.max) = wI (BitVec.allOnes 32) := by decide
  rw [h, w_xor, BitVec.allOnes_xor]
theorem w_not2 (x : W32) : aBits .xor .u32 (wI x) 4294967295 = wI (~~~ x) := by
  have h : (4294967295 : Int) = wI (BitVec.allOnes 32) := by decide
  rw [h, w_xor, BitVec.xor_allOnes]
theorem w_shr (x : W32) {k : Nat} (h : k ≤ 32) : shrI .u32 (wI x) (k : Int) = wI (x >>> k) := by
  have hm : min ((k : Nat) : Int).toNat IntKind.u32.bits = k := by
    show min k 32 = _
    omega
  unfold shrI wI
  rw [hm, BitVec.toNat_ushiftRight, Nat.shiftRight_eq_div_pow]
  have : (2 : Int) ^ k = ((2 ^ k : Nat) : Int) := by simp
  rw [this, Int.fdiv_eq_ediv_of_nonneg _ (Int.natCast_nonneg _)]; simp
theorem w_shl (x : W32) {k : Nat} (h : k ≤ 32) : shlI .u32 (wI x) (k : Int) = wI (x <<< k) := by
  have hm : min ((k : Nat) : Int).toNat IntKind.u32.bits = k := by
    show min k 32 = _
    omega
  unfold shlI wI
  rw [hm, u32_wrap, BitVec.toNat_shiftLeft, Nat.shiftLeft_eq]
  have : (x.toNat : Int) * 2 ^ k = ((x.toNat * 2 ^ k : Nat) : Int) := by simp
  rw [this]; omega
def rotr (x : W32) (n : Nat) : W32 := x >>> n ||| x <<< (32 - n)
def bW (c : UInt8) : W32 := BitVec.ofNat 32 c.toNat
theorem bW_wrap (c : UInt8) : IntKind.u32.wrap (c.toNat : Int) = wI (bW c) := by
  rw [u32_wrap]; unfold wI bW
  rw [BitVec.toNat_ofNat]; have := c.toNat_lt; omega
def c256 : W32 := BitVec.ofNat 32 256
def word4 (a b c d : UInt8) : W32 := ((((BitVec.ofNat 32 0 * c256 + bW a) * c256 + bW b) * c256 + bW c) * c256 + bW d)
theorem bW_toNat (c : UInt8) : (bW c).toNat = c.toNat := by
  unfold bW
  rw [BitVec.toNat_ofNat]
  have := c.toNat_lt
  exact Nat.mod_eq_of_lt (by omega)
theorem step256 (x : W32) (c : UInt8) (h : x.toNat < 16777216) : (x * c256 + bW c).toNat = x.toNat * 256 + c.toNat := by
  have hc := c.toNat_lt
  have e : c256.toNat = 256 := by decide
  rw [BitVec.toNat_add, BitVec.toNat_mul, bW_toNat, e]
  simp only [Nat.reducePow]
  omega
theorem word4_toNat (a b c d : UInt8) : (word4 a b c d).toNat = a.toNat * 16777216 + b.toNat * 65536 + c.toNat * 256 + d.toNat := by
  have ha := a.toNat_lt
  have hb := b.toNat_lt
  have hc := c.toNat_lt
  have hd := d.toNat_lt
  have e0 : (BitVec.ofNat 32 0).toNat = 0 := by decide
  unfold word4
  have s1 := step256 (BitVec.ofNat 32 0) a (by omega)
  have s2 := step256 (BitVec.ofNat 32 0 * c256 + bW a) b (by omega)
  have s3 := step256 ((BitVec.ofNat 32 0 * c256 + bW a) * c256 + bW b) c (by omega)
  have s4 := step256 (((BitVec.ofNat 32 0 * c256 + bW a) * c256 + bW b) * c256 + bW c) d (by omega)
  omega
theorem or_add {a b k p : Nat} (hp : p = 2 ^ k) (h : b < p) : a * p ||| b = a * p + b := by
  subst hp
  rw [Nat.mul_comm, Nat.two_pow_add_eq_or_of_lt h]
theorem shl_toNat (c : UInt8) {k p : Nat} (hp : 2 ^ k = p) (h : 255 * p < 4294967296) : (bW c <<< k).toNat = c.toNat * p := by
  have hc := c.toNat_lt
  rw [BitVec.toNat_shiftLeft, bW_toNat, Nat.shiftLeft_eq, hp]
  have : c.toNat * p ≤ 255 * p := Nat.mul_le_mul_right _ (by omega)
  exact Nat.mod_eq_of_lt (Nat.lt_of_le_of_lt this h)
theorem e6_lem (x y : Nat) : x * 65536 + y * 256 = (x * 256 + y) * 256 := by omega
theorem word4_or (a b c d : UInt8) : bW a <<< 24 ||| bW b <<< 16 ||| bW c <<< 8 ||| bW d = word4 a b c d := by
  have ha := a.toNat_lt
  have hb := b.toNat_lt
  have hc := c.toNat_lt
  have hd := d.toNat_lt
  apply BitVec.eq_of_toNat_eq
  rw [word4_toNat, BitVec.toNat_or, BitVec.toNat_or, BitVec.toNat_or, shl_toNat a (k := 24) (p := 16777216) (by omega) (by omega), shl_toNat b (k := 16) (p := 65536) (by omega) (by omega), shl_toNat c (k := 8) (p := 256) (by omega) (by omega), bW_toNat]
  rw [or_add (k := 24) (p := 16777216) (by omega) (by omega)]
  have e5 : a.toNat * 16777216 + b.toNat * 65536 = (a.toNat * 256 + b.toNat) * 65536 := by omega
  rw [e5, or_add (k := 16) (p := 65536) (by omega) (by omega)]
  have e6 : (a.toNat * 256 + b.toNat) * 65536 + c.toNat * 256 = ((a.toNat * 256 + b.toNat) * 256 + c.toNat) * 256 := e6_lem _ _
  rw [e6, or_add (k := 8) (p := 256) (by omega) (by omega), ← e6, ← e5]
end Go.Sym

namespace Go.Sym
set_option maxRecDepth 10000
def wordAt (bl : List UInt8) (t : Nat) : W32 := word4 (bl.getD (4 * t) 0) (bl.getD (4 * t + 1) 0) (bl.getD (4 * t + 2) 0) (bl.getD (4 * t + 3) 0)
def low3 (a : W32) : W32 := rotr a 7 ^^^ rotr a 18 ^^^ a >>> 3
def high3 (b : W32) : W32 := rotr b 17 ^^^ rotr b 19 ^^^ b >>> 10
def sched (bl : List UInt8) : Nat → List W32
  | 0 => (List.range 16).map (wordAt bl)
  | n + 1 => let w := sched bl n; w ++ [w.getD n 0 + low3 (w.getD (n + 1) 0) + w.getD (n + 9) 0 + high3 (w.getD (n + 14) 0)]
theorem sched_length (bl : List UInt8) : ∀ n, (sched bl n).length = 16 + n
  | 0 => by simp [sched]
  | n + 1 => by simp only [sched, List.length_append, List.length_singleton, sched_length bl n]; omega
def sround (v : List W32) (k w : W32) : List W32 :=
  let a := v.getD 0 0
  let e := v.getD 4 0
  let x := v.getD 7 0 + (rotr e 6 ^^^ rotr e 11 ^^^ rotr e 25) + (e &&& v.getD 5 0 ^^^ ~~~ e &&& v.getD 6 0) + k + w
  let y := (rotr a 2 ^^^ rotr a 13 ^^^ rotr a 22) + (a &&& v.getD 1 0 ^^^ a &&& v.getD 2 0 ^^^ v.getD 1 0 &&& v.getD 2 0)
  [x + y, v.getD 0 0, v.getD 1 0, v.getD 2 0, v.getD 3 0 + x, v.getD 4 0, v.getD 5 0, v.getD 6 0]
theorem sround_length (v : List W32) (k w : W32) : (sround v k w).length = 8 := rfl
def srounds (ks ws : List W32) (v : List W32) : Nat → List W32
  | 0 => v
  | n + 1 => sround (srounds ks ws v n) (ks.getD n 0) (ws.getD n 0)
theorem srounds_length (ks ws : List W32) {v : List W32} (h : v.length = 8) : ∀ n, (srounds ks ws v n).length = 8
  | 0 => h
  | _ + 1 => sround_length _ _ _
def sK : List W32 := [0x428a2f98, 0x71374491, 0xb5c0fbcf, 0xe9b5dba5, 0x3956c25b, 0x59f111f1, 0x923f82a4, 0xab1c5ed5,
  0xd807aa98, 0x12835b01, 0x243185be, 0x550c7dc3, 0x72be5d74, 0x80deb1fe, 0x9bdc06a7, 0xc19bf174,
  0xe49b69c1, 0xefbe4786, 0x0fc19dc6, 0x240ca1cc, 0x2de92c6f, 0x4a7484aa, 0x5cb0a9dc, 0x76f988da,
  0x983e5152, 0xa831c66d, 0xb00327c8, 0xbf597fc7, 0xc6e00bf3, 0xd5a79147, 0x06ca6351, 0x14292967,
  0x27b70a85, 0x2e1b2138, 0x4d2c6dfc, 0x53380d13, 0x650a7354, 0x766a0abb, 0x81c2c92e, 0x92722c85,
  0xa2bfe8a1, 0xa81a664b, 0xc24b8b70, 0xc76c51a3, 0xd192e819, 0xd6990624, 0xf40e3585, 0x106aa070,
  0x19a4c116, 0x1e376c08, 0x2748774c, 0x34b0bcb5, 0x391c0cb3, 0x4ed8aa4a, 0x5b9cca4f, 0x682e6ff3,
  0x748f82ee, 0x78a5636f, 0x84c87814, 0x8cc70208, 0x90befffa, 0xa4506ceb, 0xbef9a3f7, 0xc67178f2]
def sFirst : List W32 := [0x6a09e667, 0xbb67ae85, 0x3c6ef372, 0xa54ff53a, 0x510e527f, 0x9b05688c, 0x1f83d9ab, 0x5be0cd19]
def addW (h v : List W32) (n : Nat) : List W32 := (List.range 8).map fun i => bif decide (i < n) then h.getD i 0 + v.getD i 0 else h.getD i 0
def sblock (h : List W32) (bl : List UInt8) : List W32 := addW h (srounds sK (sched bl 48) h 64) 8
theorem sblock_length (h : List W32) (bl : List UInt8) : (sblock h bl).length = 8 := by simp [sblock, addW]
def sblocks (h : List W32) (m : List UInt8) : List W32 :=
  if m.length < 64 then h else sblocks (sblock h (m.take 64)) (m.drop 64)
termination_by m.length
decreasing_by simp; omega
theorem sblocks_small {h : List W32} {m : List UInt8} (hm : m.length < 64) : sblocks h m = h := by rw [sblocks, if_pos hm]
theorem sblocks_big {h : List W32} {m : List UInt8} (hm : ¬ m.length < 64) : sblocks h m = sblocks (sblock h (m.take 64)) (m.drop 64) := by rw [sblocks, if_neg hm]
theorem sblocks_length {m : List UInt8} {h : List W32} (hh : h.length = 8) : (sblocks h m).length = 8 := by
  induction h, m using sblocks.induct with
  | case1 h m hm => rw [sblocks_small hm]; exact hh
  | case2 h m hm ih => rw [sblocks_big hm]; exact ih (sblock_length _ _)
def srest (m : List UInt8) : List UInt8 := m.drop (m.length / 64 * 64)
theorem srest_length (m : List UInt8) : (srest m).length = m.length % 64 := by
  unfold srest; rw [List.length_drop]; omega
theorem sblocks_append (h : List W32) (m l : List UInt8) (hm : m.length % 64 = 0) : sblocks h (m ++ l) = sblocks (sblocks h m) l := by
  induction h, m using sblocks.induct with
  | case1 h m hlt =>
    have : m = [] := List.eq_nil_of_length_eq_zero (by omega)
    subst this
    rw [sblocks_small (m := []) (by simp)]; rfl
  | case2 h m hge ih =>
    rw [sblocks_big (m := m ++ l) (by simp; omega), sblocks_big hge, List.take_append_of_le_length (by omega), List.drop_append_of_le_length (by omega)]
    exact ih (by rw [List.length_drop]; omega)
theorem sblocks_rest (h : List W32) (m : List UInt8) : sblocks h m = sblocks h (m.take (m.length / 64 * 64)) := by
  have e : m = m.take (m.length / 64 * 64) ++ srest m := (List.take_append_drop _ _).symm
  have hl : (m.take (m.length / 64 * 64)).length = m.length / 64 * 64 := by rw [List.length_take]; omega
  conv => lhs; rw [e]
  rw [sblocks_append _ _ _ (by rw [hl]; omega), sblocks_small (m := srest m)]
  rw [srest_length]; omega
def sstate (m : List UInt8) : List W32 := sblocks sFirst m
theorem sstate_length (m : List UInt8) : (sstate m).length = 8 := sblocks_length rfl
def spad (n : Nat) : List UInt8 := 128 :: List.replicate ((119 - n % 64) % 64) 0 ++ (List.range 8).map fun i => UInt8.ofNat (n * 8 / 2 ^ (56 - 8 * i) % 256)
theorem spad_length (n : Nat) : (spad n).length = 9 + (119 - n % 64) % 64 := by simp [spad]; omega
def wBytes (h : List W32) : List UInt8 := (List.range 32).map fun i => UInt8.ofNat ((h.getD (i / 4) 0).toNat / 2 ^ (24 - 8 * (i % 4)) % 256)
def shaB (m : List UInt8) : List UInt8 := wBytes (sblocks sFirst (m ++ spad (m.length % 2 ^ 64)))
theorem wBytes_length (h : List W32) : (wBytes h).length = 32 := by simp [wBytes]
theorem shaB_length (m : List UInt8) : (shaB m).length = 32 := wBytes_length _
end Go.Sym

namespace Go.Proofs.Ytjgkngjeniameaa
open Go.Sym
set_option maxRecDepth 10000
def rounds (f : Nat → List UInt8) (n : Nat) : List UInt8 := (List.range n).flatMap f
theorem rounds_succ (f : Nat → List UInt8) (n : Nat) : rounds f (n + 1) = rounds f n ++ f n := by simp [rounds, List.range_succ]
theorem rounds_length {f : Nat → List UInt8} {k : Nat} : ∀ n, (∀ i, i < n → (f i).length = k) → (rounds f n).length = k * n
  | 0, _ => by simp [rounds]
  | n + 1, h => by
    rw [rounds_succ, List.length_append, rounds_length n fun i hi => h i (by omega), h n (by omega), Nat.mul_succ]
theorem rounds_congr {f g : Nat → List UInt8} : ∀ n, (∀ i, i < n → f i = g i) → rounds f n = rounds g n
  | 0, _ => rfl
  | n + 1, h => by rw [rounds_succ, rounds_succ, rounds_congr n fun i hi => h i (by omega), h n (by omega)]
theorem rounds_cut {f : Nat → List UInt8} {k : Nat} : ∀ n, (∀ i, i < n → (f i).length = k) → ∀ i, i < n → ((rounds f n).drop (k * i)).take k = f i
  | n + 1, h, i, hi => by
    have hl := rounds_length n fun i hi => h i (by omega : i < n + 1)
    rw [rounds_succ]
    by_cases he : i = n
    · subst he
      rw [List.drop_append_of_le_length (by omega), List.drop_eq_nil_of_le (by omega), List.nil_append, List.take_of_length_le (by rw [h i hi]; omega)]
    · have hm : k * i + k ≤ k * n := by rw [← Nat.mul_succ]; exact Nat.mul_le_mul_left k (by omega)
      rw [List.drop_append_of_le_length (by omega), List.take_append_of_le_length (by rw [List.length_drop]; omega), rounds_cut n (fun i hi => h i (by omega)) i (by omega)]
def textF (P : Nat → Bool → List UInt8) (i : Nat) : List UInt8 := shaB (P i false) ++ shaB (P i true)
def textP (P : Nat → Bool → List UInt8) : List UInt8 := 80 :: rounds (textF P) 256
def signF (P : Nat → Bool → List UInt8) (d : List UInt8) (i : Nat) : List UInt8 := P i (bitB d i) ++ shaB (P i (!bitB d i))
def signP (P : Nat → Bool → List UInt8) (d : List UInt8) : List UInt8 := rounds (signF P d) 256
def sigX (s : List UInt8) (i : Nat) : List UInt8 := (s.drop (64 * i)).take 32
def sigY (s : List UInt8) (i : Nat) : List UInt8 := (s.drop (64 * i + 32)).take 32
def openF (d s : List UInt8) (i : Nat) : List UInt8 := bif bitB d i then sigY s i ++ shaB (sigX s i) else shaB (sigX s i) ++ sigY s i
def openP (d s : List UInt8) : List UInt8 := 80 :: rounds (openF d s) 256
section
variable {P : Nat → Bool → List UInt8} (hP : ∀ i on, (P i on).length = 32) {d s t : List UInt8}
theorem textF_length (P : Nat → Bool → List UInt8) (i : Nat) : (textF P i).length = 64 := by simp [textF, shaB_length]
theorem textP_length (P : Nat → Bool → List UInt8) : (textP P).length = 16385 := by
  unfold textP
  rw [List.length_cons, rounds_length 256 fun i _ => textF_length P i]
include hP in
theorem signF_length (d : List UInt8) (i : Nat) : (signF P d i).length = 64 := by simp [signF, shaB_length, hP]
include hP in
theorem signP_length (d : List UInt8) : (signP P d).length = 16384 := rounds_length 256 fun i _ => signF_length hP d i
theorem sigX_length (hs : s.length = 16384) {i : Nat} (hi : i < 256) : (sigX s i).length = 32 := by
  unfold sigX; rw [List.length_take, List.length_drop]; omega
theorem sigY_length (hs : s.length = 16384) {i : Nat} (hi : i < 256) : (sigY s i).length = 32 := by
  unfold sigY; rw [List.length_take, List.length_drop]; omega
theorem openF_length (d : List UInt8) (hs : s.length = 16384) {i : Nat} (hi : i < 256) : (openF d s i).length = 64 := by
  unfold openF
  cases bitB d i <;> simp [shaB_length, sigY_length hs hi]
theorem openP_length (d : List UInt8) (hs : s.length = 16384) : (openP d s).length = 16385 := by
  unfold openP
  rw [List.length_cons, rounds_length 256 fun i hi => openF_length d hs hi]
include hP in
theorem sign_x (d : List UInt8) {i : Nat} (hi : i < 256) : sigX (signP P d) i = P i (bitB d i) := by
  have h := rounds_cut 256 (fun i _ => signF_length hP d i) i hi
  have h2 := congrArg (List.take 32) h
  rw [List.take_take, show min 32 64 = 32 from rfl] at h2
  unfold sigX signP
  have l : (P i (bitB d i)).length = 32 := hP _ _
  rw [h2, signF, List.take_append_of_le_length (by omega), List.take_of_length_le (by omega)]
include hP in
theorem sign_y (d : List UInt8) {i : Nat} (hi : i < 256) : sigY (signP P d) i = shaB (P i (!bitB d i)) := by
  have h := rounds_cut 256 (fun i _ => signF_length hP d i) i hi
  have h2 := congrArg (List.drop 32) h
  rw [List.drop_take, List.drop_drop, show 64 - 32 = 32 from rfl] at h2
  unfold sigY signP
  have l : (P i (bitB d i)).length = 32 := hP _ _
  rw [h2, signF, List.drop_append_of_le_length (by omega), List.drop_eq_nil_of_le (by omega), List.nil_append]
include hP in
theorem open_sign (d : List UInt8) : openP d (signP P d) = textP P := by
  unfold openP textP
  refine congrArg _ (rounds_congr 256 fun i hi => ?_)
  unfold openF textF
  rw [sign_x hP d hi, sign_y hP d hi]
  cases bitB d i <;> rfl
end
end Go.Proofs.Ytjgkngjeniameaa

namespace Go.Sym
theorem vc_nextAt {en : List Nat} {X : Type} {sl : X → List (Nat × AV)} {hp : X → List (Nat × AObj)} {μ : X → Nat} {I : X → Prop} {n : Nat} {x : X} {S' : St} (x' : X) (m : List (Nat × Nat)) (o : Nat) {e : Nat} {xs : List D} (_ : S'.hp o = some (.row e xs)) (hI : I x') (hμ : μ x' < μ x)
    (hn : Vc (Chk (S'.n.beq n))) (h1 : Vc (Chk (wkOK en m (sl x') (hp x')))) (h2 : Vc (wkSl S' m (sl x'))) (h3 : Vc (wkHp S' m (hp x'))) : Vc (∃ x', I x' ∧ μ x' < μ x ∧ S'.n = n ∧ Weak en S' (sl x') (hp x')) :=
  vc_nextI x' m hI hμ hn h1 h2 h3
theorem vc_endAt {en : List Nat} {n : Nat} {sl : List (Nat × AV)} {hp : List (Nat × AObj)} {I : Prop} {S' : St} (m : List (Nat × Nat)) (o : Nat) {e : Nat} {xs : List D} (_ : S'.hp o = some (.row e xs)) (hI : I) (h1 : Vc (Chk (wkOK en m sl hp))) (h2 : Vc (wkSl (wsl n sl S') m sl)) (h3 : Vc (wkHp (wsl n sl S') m hp)) : Vc (EndC en n sl hp I S') :=
  vc_endc m hI h1 h2 h3
end Go.Sym

namespace Go.Sym
def AV.dn : AV → AV
  | .d x => .d x.dn
  | x => x
theorem AV.dn_names (x : AV) : x.dn.names = x.names := by cases x <;> rfl
theorem AV.dn_namesL : ∀ l : List AV, AV.namesL (l.map AV.dn) = AV.namesL l
  | [] => rfl
  | x :: l => by simp only [List.map_cons, AV.namesL, AV.dn_names, AV.dn_namesL l]
theorem RepA1.dnA {ρ : Nat → Option Nat} {X : Nat → Prop} {w : World} {x : AV} {v : Value} (h : RepA1 ρ X w x v) : RepA1 ρ X w x.dn v := by
  cases x <;> first | exact h.dn | exact h
theorem RepT.dn {ρ : Nat → Option Nat} {X : Nat → Prop} {w : World} : ∀ {xs : List AV} {vs : List Value}, RepT ρ X w xs vs → RepT ρ X w (xs.map AV.dn) vs
  | [], [], _ => trivial
  | _ :: _, _ :: _, ⟨h1, h2⟩ => ⟨h1.dnA, h2.dn⟩
theorem local_dna {P : Program} {f : FuncId} {args : List AV} {pre : List (Nat × AObj)} {nw : List Nat} {r : AV} {ws : List (Nat × AObj)} (h : LocalCall P f (args.map AV.dn) pre nw r ws) : LocalCall P f args pre nw r ws := by
  intro hp h1 h2 ρ X w vs hs hr hn
  exact h hp h1 h2 ρ X w vs hs hr.dn (by rw [AV.dn_namesL]; exact hn)
end Go.Sym
