/-
Iterators: frames that hold nothing but data, and the calls of yield that they make.
-/
import Derived.Test.YthedcaopedbpdaaSymx
namespace Go.Sym

def nobody : Nat → Prop := fun _ => False
/-- An entry of which nothing is told but the world. -/
def E0 (w : World) : Ent := ⟨fun _ => none, fun _ => none, nobody, w, [], true⟩

def FlatA (x : AV) : Prop := ∀ (ρ ρ' : Nat → Option Nat) (X X' : Nat → Prop) (w w' : World) (v : Value), RepA ρ X w x v → RepA ρ' X' w' x v

theorem flat_scal {X X' : Nat → Prop} {w w' : World} {x : D} {cs : List Value} (hs : x.scal = true) (h : RepD X w x cs) : RepD X' w' x cs := by
  cases h <;> first | cases hs | skip
  · exact .int _ _
  · exact .bool _
  · exact .str _

theorem flat_scals {X X' : Nat → Prop} {w w' : World} : ∀ {xs : List D} {cs : List Value}, (∀ x, x ∈ xs → x.scal = true) → RepL X w xs cs → RepL X' w' xs cs
  | _, _, _, .nil => .nil
  | _, _, hs, .cons h ht => .cons (flat_scal (hs _ (by simp)) h) (flat_scals (fun x hx => hs x (by simp [hx])) ht)

theorem flatA_d {x : D} (hs : x.scal = true) : FlatA (.d x) := fun ρ ρ' X X' w w' v h => by
  obtain ⟨cs, h1, h2⟩ := h
  cases h1 with
  | d h1 => exact ⟨cs, .d (flat_scal hs h1), h2⟩
theorem flatA_arr {n e : Nat} {xs : List D} (hs : ∀ x, x ∈ xs → x.scal = true) : FlatA (.d (.arr n e xs)) := fun ρ ρ' X X' w w' v h => by
  obtain ⟨cs, h1, h2⟩ := h
  cases h1 with
  | d h1 =>
    cases h1 with
    | arr k1 k2 k3 => exact ⟨cs, .d (.arr k1 k2 (flat_scals hs k3)), h2⟩
theorem flatA_fn {f : Fn} : FlatA (.fn f []) := fun ρ ρ' X X' w w' v h => by
  obtain ⟨cs, h1, h2⟩ := h
  cases h1 with
  | fn h1 => cases h1; exact ⟨_, .fn .nil, h2⟩
theorem flatA_top : FlatA .top := fun _ _ _ _ _ _ _ _ => trivial

/-- A frame of data alone, over whatever world. -/
def Fl (n : Nat) (sl : List (Nat × AV)) (a : Act) (w : World) : Prop := Inv (E0 w) (mkSt n sl []) a w

theorem fl_any {n : Nat} {sl : List (Nat × AV)} {w0 w w' : World} {a : Act} (hI : Inv (E0 w0) (mkSt n sl []) a w) (hf : ∀ p, p ∈ sl → FlatA p.2) : Fl n sl a w' := by
  obtain ⟨ρ, X, hA⟩ := hI
  have hs := hA.sim
  refine ⟨fun _ => none, nobody, ⟨⟨hs.n, fun t v h => ?_, nofun, nofun, nofun, fun t o ho => hs.closedS t o ho, nofun⟩, .refl _ _, fun b _ => ⟨id, .inl⟩, nofun, fun n hn => absurd rfl hn, ?_⟩⟩
  · have h1 := hs.slots t v h
    show RepA _ _ _ (match lkp sl t with | some x => x | none => .top) v
    have h1 : RepA ρ X w (match lkp sl t with | some x => x | none => .top) v := h1
    cases hl : lkp sl t with
    | none => trivial
    | some x =>
      rw [hl] at h1
      exact hf _ (lkp_mem hl) _ _ _ _ _ _ _ h1
  · obtain ⟨ms, m1, m2, _⟩ := hA.marks
    have := m2 rfl
    subst this
    exact ⟨[], m1, fun _ => rfl, .nil, fun D hD => by cases hD⟩

structure WeakF (n : Nat) (sl : List (Nat × AV)) (S : St) : Prop where
  h : S.n = n ∧ Weak [] S sl []

theorem fl_weak {n : Nat} {sl : List (Nat × AV)} {S : St} {w0 w w' : World} {a : Act} (hI : Inv (E0 w0) S a w) (h : WeakF n sl S) (hf : ∀ p, p ∈ sl → FlatA p.2) : Fl n sl a w' := by
  obtain ⟨h1, h2⟩ := h.h
  subst h1
  exact fl_any (hI.weak (fun n hn => absurd rfl hn) h2) hf

theorem fl_put {n : Nat} {sl : List (Nat × AV)} {a : Act} {w : World} (h : Fl n sl a w) (t : Nat) (x : AV) (v : Value) (hr : RepA (fun _ => none) nobody w x v) (hn : x.names = []) : Fl n ((t, x) :: sl) (a.put (some t) v) w := by
  obtain ⟨ρ, X, hA⟩ := h
  have hs := hA.sim
  have hsl : (mkSt n ((t, x) :: sl) []) = (mkSt n sl []).put (some t) x := by
    simp only [mkSt, St.put]
    congr 1
    funext u
    simp only [lkp]
    cases t.beq u <;> rfl
  have hr' : RepA ρ X w x v := hr.mono (Y := fun _ => False) (ρ' := ρ) (X' := X) ⟨.refl _ _, fun _ _ h => h, fun b hb h => ((hA.xs b hb).1 h).elim⟩ (fun o ho => by rw [hn] at ho; cases ho)
  obtain ⟨k1, k2⟩ := hs.put (dst := some t) (r := x) (v := v) hr' (fun o ho => by rw [hn] at ho; cases ho)
  refine ⟨ρ, X, ?_⟩
  rw [hsl]
  exact hA.evo k1 k2 (fun n hn => by rw [St.hp_put]; exact hn) rfl

theorem inv0_ext {S : St} {a : Act} {w w' : World} (h : Inv (E0 w) S a w') : Ext (fun _ => False) w w' := by
  obtain ⟨ρ, X, hA⟩ := h
  exact hA.ext.mono fun b _ hb => by obtain ⟨_, _, h, _⟩ := hb; cases h

section
variable {P : Program} {ops : Array Oper} {Q : Exit → Act → World → Prop}

theorem wpOpsIn_append {F : Fence} {n : Nat} : ∀ (L1 : List Nat) {L2 : List Nat} {a : Act} {w : World}, wpOpsIn F n P ops (Exit.then (wpOpsIn F n P ops Q L2) Q) L1 a w → wpOpsIn F n P ops Q (L1 ++ L2) a w
  | [], _, _, _, h => h
  | i :: L1, L2, a, w, h => by
    rw [List.cons_append]
    rw [wpOpsIn_cons] at h ⊢
    refine wpOpIn_mono (K := wpOpsIn F n P ops (Exit.then (wpOpsIn F n P ops Q L2) Q) L1) (fun a w h => wpOpsIn_append L1 h) ?_
    unfold wpOpIn at h ⊢
    cases ho : ops[i]? with
    | none => rw [ho] at h; exact h
    | some o =>
      rw [ho] at h
      simp only at h ⊢
      split
      · rename_i hw
        rw [if_pos hw] at h
        unfold Oper.wpIn at h ⊢
        refine ⟨h.1, ?_⟩
        have h := h.2
        generalize (o.semAt F.round a.eval).run P w = r at h
        cases r with
        | ok x w' => cases x <;> exact h
        | halt x w' => cases x <;> exact h
      · rename_i hw
        rw [if_neg hw] at h
        exact h

/-- What yield is said to do, seen from the iterator. -/
def YieldOK (P : Program) (l n : Nat) (ys : Nat → List D) (J : Nat → World → Prop) (Jd : World → Prop) : Prop :=
  ∀ i, i < n → ∀ w, J i w → ∃ g tmps assign body, (Instr.yield l ((ys i).map D.sval).toArray).run P w = .ok (.round l g tmps assign body) w ∧
      RoundIn (FR none) 0 P l g tmps assign body w fun e w' => ∃ t, e = .returned (.bool t) ∧ (t = true → J (i + 1) w') ∧ (t = false → Jd w')

theorem scal_val {ρ : Nat → Option Nat} {X : Nat → Prop} {w : World} {x : D} {v : Value} (hs : x.scal = true) (h : RepA ρ X w (.d x) v) : v = x.sval := by
  obtain ⟨cs, h1, h2⟩ := h
  cases h1 with
  | d h1 =>
    rw [h2]
    cases h1 <;> first | rfl | cases hs

theorem yield_op {l n i k : Nat} {ys : Nat → List D} {J : Nat → World → Prop} {Jd : World → Prop} (hy : YieldOK P l n ys J Jd) {o : Oper} {c : Call} {x : Operand} {S : St} {w0 w : World} {a : Act} {K : Act → World → Prop} (ho : ops[k]? = some o) (hg : o.guard = none)
    (hop : o.op = .call c) (hc : c.callee = .value x) (hI : Inv (E0 w0) S a w) (hx : S.ev x = .fn (.yield l) []) (hargs : c.args.toList.map S.ev = (ys i).map AV.d) (hsc : (ys i).all D.scal = true) (hi : i < n) (hJ : J i w)
    (hK : ∀ t w', (t = true → J (i + 1) w') → (t = false → Jd w') → K (a.put o.dst (.bool t)) w') : wpOpIn (FR none) 0 P ops Q k K a w := by
  obtain ⟨ρ, X, hA⟩ := hI
  have he := hA.sim.ev x
  rw [hx] at he
  obtain ⟨cs, c1, c2⟩ := he
  cases c1 with
  | fn c1 =>
  cases c1
  have hev : a.eval x = .func (.yield l) #[] #[] := c2
  have hav : (c.args.map a.eval) = ((ys i).map D.sval).toArray := by
    have key : ∀ (l : List Operand) (ds : List D), l.map S.ev = ds.map AV.d → ds.all D.scal = true → l.map a.eval = ds.map D.sval := by
      intro l
      induction l with
      | nil => intro ds h _; cases ds with
        | nil => rfl
        | cons _ _ => cases h
      | cons p l ih =>
        intro ds h hs
        cases ds with
        | nil => cases h
        | cons d ds =>
          simp only [List.map_cons, List.cons.injEq] at h ⊢
          simp only [List.all_cons, Bool.and_eq_true] at hs
          have hp := hA.sim.ev p
          rw [h.1] at hp
          exact ⟨scal_val hs.1 hp, ih ds h.2 hs.2⟩
    apply Array.ext'
    rw [Array.toList_map]
    exact key _ _ hargs hsc
  obtain ⟨g, tmps, assign, body, h1, h2⟩ := hy i hi w hJ
  unfold wpOpIn
  rw [ho]
  simp only
  rw [if_pos (by simp [Region.wanted, hg])]
  refine ⟨fun _ _ => trivial, ?_⟩
  have hrun : (execOp a.eval o).run P w = .ok (.round l g tmps assign body) w := by
    simp only [execOp, hop, resolve, hc, hev, Deferred.ofValue]
    rw [run_bind_ok (run_pure _ w)]
    simp only [invoke, hav]
    simpa using h1
  show o.uponIn (FR none) 0 P a K Q ((o.semAt none a.eval).run P w)
  rw [Oper.semAt_none, hrun]
  refine ⟨(fun h => by cases h), ?_⟩
  refine RoundIn.mono h2 fun e w' he => ?_
  obtain ⟨t, rfl, k1, k2⟩ := he
  exact hK t w' k1 k2

/-- A part of a region that calls no yield. -/
theorem flat_part {id k m : Nat} {n : Nat} {sl sl' : List (Nat × AV)} {l : List Oper} (hf : ∀ p, p ∈ sl' → FlatA p.2) (pend : List Oper) (hp : ∀ j o, pend[j]? = some o → l[k + j]? = some o) (hm : pend.length = m)
    (h : Vc (vcOps P l id (fun _ => True) pend false k 0 (mkSt n sl []) [] (WeakF n sl') (fun _ _ => False))) {K : Act → World → Prop} {a : Act} {w : World} (hI : Fl n sl a w) (hK : ∀ a w', Fl n sl' a w' → Ext (fun _ => False) w w' → K a w') : wpOpsIn (FR none) 0 P l.toArray (Exit.then (fun a w' => K a w') Q) (List.range' k m) a w := by
  obtain ⟨pi, fs, out, t, _, _, ho⟩ := vc_tr _ _ _ _ _ _ _ _ hp h.h
  have : ((List.range' k pend.length).filter fun j => !(0 : Nat).testBit j) = List.range' k m := by
    rw [List.filter_eq_self.2 fun j _ => by simp, hm]
  rw [this] at t
  refine tr_text t hI ?_ ?_
  · intro S' a' w' he hI'
    subst he
    exact hK _ _ (fl_weak hI' ho hf) (inv0_ext hI')
  · intro pv S' a' w' he hI'
    subst he
    exact ho.elim

/-- A piece of a body that calls no yield. -/
theorem flat_code (hm : P.follows .mixedOrders = true) {c : Code} {n : Nat} {sl : List (Nat × AV)} {K : AExit → St → Prop} (h : Vc (wpC P [] true [] c (mkSt n sl []) K (fun _ _ => False))) {a : Act} {w : World} (hI : Fl n sl a w)
    (hK : ∀ e a' w' S, K e S → Inv (E0 w) S a' w' → Q (match e with
      | .normal => .normal
      | .ret => .ret
      | .exit i => .exit i
      | .goto t => .goto t) a' w') : c.wpIn (FR none) 0 P Q a w := by
  refine wpIn_mono (wpC_sound hm c (ro := none) (k := 0) (fun h => by cases h) (fun n hn => absurd rfl hn) h.h hI) fun e a' w' he => ?_
  cases e with
  | normal => obtain ⟨S, h1, h2⟩ := he; exact hK .normal a' w' S h1 h2
  | ret => obtain ⟨S, h1, h2⟩ := he; exact hK .ret a' w' S h1 h2
  | exit i => obtain ⟨S, h1, h2⟩ := he; exact hK (.exit i) a' w' S h1 h2
  | goto t => obtain ⟨S, h1, h2⟩ := he; exact hK (.goto t) a' w' S h1 h2
  | panic ch => obtain ⟨_, _, _, h1, _⟩ := he; exact h1.elim
  | outgrown => exact he.elim

theorem fl_cond {n : Nat} {sl : List (Nat × AV)} {c : Operand} {x y : Code} {b : Bool} {a : Act} {w : World} (hI : Fl n sl a w) (hc : (mkSt n sl []).ev c = .d (.bool b)) (ht : b = true → x.wpIn (FR none) 0 P Q a w) (hf : b = false → y.wpIn (FR none) 0 P Q a w) :
    (Code.cond c x y).wpIn (FR none) 0 P Q a w := by
  obtain ⟨ρ, X, hA⟩ := hI
  have he := hA.sim.ev c
  rw [hc] at he
  exact wpIn_cond_split (repA_bool he) ht hf

theorem fl_defers {n : Nat} {sl : List (Nat × AV)} {a : Act} {w : World} (hI : Fl n sl a w) : a.defers = [] := by
  obtain ⟨ρ, X, hA⟩ := hI
  obtain ⟨ms, m1, m2, _⟩ := hA.marks
  have := m2 rfl
  subst this
  exact m1

end

def weakK (n : Nat) (sl : List (Nat × AV)) : AExit → St → Prop
  | .normal, S => WeakF n sl S
  | _, _ => False

theorem vc_weakf {n : Nat} {sl : List (Nat × AV)} {S : St} (m : List (Nat × Nat)) (hn : Vc (Chk (S.n.beq n))) (h1 : Vc (Chk (wkOK [] m sl []))) (h2 : Vc (wkSl S m sl)) : Vc (WeakF n sl S) :=
  ⟨Nat.eq_of_beq_eq_true hn.h.h, ⟨m, h1.h, h2.h, trivial⟩⟩

/-- A piece of a body that calls no yield and goes on behind itself. -/
theorem flat_norm {P : Program} {Q : Exit → Act → World → Prop} {K : Act → World → Prop} (hm : P.follows .mixedOrders = true) {c : Code} {n : Nat} {sl sl' : List (Nat × AV)} (hf : ∀ p, p ∈ sl' → FlatA p.2) {a : Act} {w : World} (hI : Fl n sl a w)
    (h : Vc (wpC P [] true [] c (mkSt n sl []) (weakK n sl') (fun _ _ => False))) (hK : ∀ a' w', Fl n sl' a' w' → Ext (fun _ => False) w w' → K a' w') : c.wpIn (FR none) 0 P (Exit.then K Q) a w := by
  refine flat_code hm h hI fun e a' w' S hS hI' => ?_
  cases e with
  | normal => exact hK a' w' (fl_weak hI' hS hf) (inv0_ext hI')
  | ret => exact hS.elim
  | exit i => exact hS.elim
  | goto t => exact hS.elim

theorem fl_start {n l b : Nat} {x : D} {cs : List Value} {X : Nat → Prop} {w : World} (hn : 2 ≤ n) (hrep : RepD X w x cs) (hrow : RowAt w b 0 cs) (hb : b < w.heap.size) :
    Fl n [(0, .fn (.yield l) []), (1, .dptr x)] { tmps := #[.func (.yield l) #[] #[], .pointer (some ⟨b, 0, none⟩)] ++ Array.replicate (n - 2) undef, defers := [] } w := by
  refine ⟨fun _ => none, nobody, ⟨⟨?_, fun t v ht => ?_, nofun, nofun, nofun, fun t o ho => ?_, nofun⟩, .refl _ _, fun b _ => ⟨id, .inl⟩, nofun, fun n hn => absurd rfl hn, ⟨[], rfl, fun _ => rfl, .nil, fun D hD => by cases hD⟩⟩⟩
  · simp [mkSt]; omega
  · rcases t with _ | _ | t
    · have : v = .func (.yield l) #[] #[] := by
        have ht : (#[Value.func (.yield l) #[] #[], .pointer (some ⟨b, 0, none⟩)] ++ Array.replicate (n - 2) undef)[0]? = some v := ht
        rw [Array.getElem?_append_left (by simp)] at ht
        simpa using ht.symm
      rw [this]; exact ⟨_, .fn .nil, rfl⟩
    · have : v = .pointer (some ⟨b, 0, none⟩) := by
        have ht : (#[Value.func (.yield l) #[] #[], .pointer (some ⟨b, 0, none⟩)] ++ Array.replicate (n - 2) undef)[1]? = some v := ht
        rw [Array.getElem?_append_left (by simp)] at ht
        simpa using ht.symm
      rw [this]; exact ⟨_, .dptr (fun h => h) hb hrow (hrep.mono (Y := fun _ => False) (.refl _ w) (fun _ _ _ h => h) (fun _ _ h => h.elim)), rfl⟩
    · exact trivial
  · exfalso
    rcases t with _ | _ | t
    · have : o ∈ (AV.fn (.yield l) []).names := ho
      cases this
    · have : o ∈ (AV.dptr x).names := ho
      cases this
    · have : o ∈ AV.top.names := ho
      cases this

theorem row_lt {w : World} {b : Nat} {cs : List Value} (h : RowAt w b 0 cs) (hl : 0 < cs.length) : b < w.heap.size := by
  have h0 := h 0 cs[0] (List.getElem?_eq_getElem hl)
  unfold World.cell? at h0
  split at h0
  · rename_i h; exact (Array.getElem?_eq_some_iff.1 h).1
  · cases h0

theorem flat_pre {P : Program} {Q : Exit → Act → World → Prop} {id m : Nat} {n : Nat} {sl sl' : List (Nat × AV)} {l : List Oper} (hf : ∀ p, p ∈ sl' → FlatA p.2) (hm : (l.take m).length = m) {K : Act → World → Prop} {a : Act} {w : World} (hI : Fl n sl a w)
    (h : Vc (vcOps P l id (fun _ => True) (l.take m) false 0 0 (mkSt n sl []) [] (WeakF n sl') (fun _ _ => False))) (hK : ∀ a w', Fl n sl' a w' → Ext (fun _ => False) w w' → K a w') :
    wpOpsIn (FR none) 0 P l.toArray (Exit.then (fun a w' => K a w') Q) (List.range' 0 m) a w :=
  flat_part hf (l.take m) (fun j o h => by
    rw [Nat.zero_add]
    rw [List.getElem?_take] at h
    split at h
    · exact h
    · cases h) hm h hI hK

theorem flat_suf {P : Program} {Q : Exit → Act → World → Prop} {id k m : Nat} {n : Nat} {sl sl' : List (Nat × AV)} {l : List Oper} (hf : ∀ p, p ∈ sl' → FlatA p.2) (hm : (l.drop k).length = m) {K : Act → World → Prop} {a : Act} {w : World} (hI : Fl n sl a w)
    (h : Vc (vcOps P l id (fun _ => True) (l.drop k) false k 0 (mkSt n sl []) [] (WeakF n sl') (fun _ _ => False))) (hK : ∀ a w', Fl n sl' a w' → Ext (fun _ => False) w w' → K a w') :
    wpOpsIn (FR none) 0 P l.toArray (Exit.then (fun a w' => K a w') Q) (List.range' k m) a w :=
  flat_part hf (l.drop k) (fun j o h => by rw [List.getElem?_drop] at h; exact h) hm h hI hK

theorem fl_yield {P : Program} {ops : Array Oper} {Q : Exit → Act → World → Prop} {l n i k d : Nat} {ys : Nat → List D} {J : Nat → World → Prop} {Jd : World → Prop} (hy : YieldOK P l n ys J Jd) {o : Oper} {c : Call} {x : Operand} {N : Nat} {sl : List (Nat × AV)} {w : World} {a : Act} {K : Act → World → Prop}
    (ho : ops[k]? = some o) (hg : o.guard = none) (hop : o.op = .call c) (hc : c.callee = .value x) (hd : o.dst = some d) (hI : Fl N sl a w) (hx : (mkSt N sl []).ev x = .fn (.yield l) []) (hargs : c.args.toList.map (mkSt N sl []).ev = (ys i).map AV.d) (hsc : (ys i).all D.scal = true)
    (hi : i < n) (hJ : J i w) (hf : ∀ p, p ∈ sl → FlatA p.2) (hK : ∀ t a' w', Fl N ((d, .d (.bool t)) :: sl) a' w' → (t = true → J (i + 1) w') → (t = false → Jd w') → K a' w') : wpOpIn (FR none) 0 P ops Q k K a w :=
  yield_op hy ho hg hop hc hI hx hargs hsc hi hJ fun t w' h1 h2 => by
    rw [hd]
    exact hK t _ w' (fl_put (fl_any hI hf) d (.d (.bool t)) (.bool t) ⟨_, .d (.bool t), rfl⟩ rfl) h1 h2

end Go.Sym
