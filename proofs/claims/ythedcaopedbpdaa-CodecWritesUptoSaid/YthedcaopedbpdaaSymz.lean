/-
A law by what is said of its call.
-/
import Derived.Test.YthedcaopedbpdaaSymy
import Derived.WideKeyArgs
import Derived.Below
import Derived.RowKit
import Derived.ChangeOld
namespace Go.Sym
open Go.ChangeShapes Go.RowKit

section
variable {H : Type} {enc : TypeId × Value → H} {P : Program} {w : World}

theorem arg_rep {n : Nat} {t : TypeId} {v : Value} {d : DataW H} {ps : List MemPlace} {sp : Nat → Bool} {held : Bool} {r : Reach} {b : Nat} (hp : plainT P n t = true) (hval : Value.okWide P w r b t v) (h : DataW.Trod enc P w 0 sp held t v d ps) :
    ∃ x, RepA1 (fun _ => none) noX w (.d x) v ∧ okD P n t x ∧ RelD x d := by
  obtain ⟨x, k1, k2, _, k4⟩ := trod_rep n t v.cells.toList (d, ps) hp h
  refine ⟨x, ⟨v.cells.toList, .d k1, ?_⟩, k2, k4⟩
  show v = wrapV x.isAgg v.cells.toList
  cases n with
  | zero => simp [plainT] at hp
  | succ n =>
    simp only [okD] at k2
    simp only [Value.okWide] at hval
    split at k2
    · rename_i hu
      obtain ⟨q, rfl⟩ := k2
      simp only [hu, Cell.okWide, Cell.ok] at hval
      cases v <;> first | exact hval.elim | rfl
    · rename_i k hu
      obtain ⟨q, rfl, _⟩ := k2
      simp only [hu, Cell.okWide, Cell.ok] at hval
      cases v <;> first | exact hval.elim | rfl
    · rename_i hu
      obtain ⟨q, rfl, _⟩ := k2
      simp only [hu, Cell.okWide, Cell.ok] at hval
      cases v <;> first | exact hval.elim | rfl
    · rename_i fs hu
      obtain ⟨q, rfl, _⟩ := k2
      simp only [hu] at hval
      obtain ⟨cs, rfl, _⟩ := hval
      simp [wrapV, D.isAgg, Value.cells]
    · rename_i m e hu
      obtain ⟨q, rfl, _⟩ := k2
      simp only [hu] at hval
      obtain ⟨cs, rfl, _⟩ := hval
      simp [wrapV, D.isAgg, Value.cells]
    · rename_i e hu
      obtain ⟨q, rfl, _⟩ := k2
      simp only [hu, Cell.okWide, Cell.ok] at hval
      cases v <;> first | exact hval.elim | rfl
    · exact k2.elim

theorem args_rep {n : Nat} {sp : Nat → Bool} {held : Bool} {r : Reach} {b : Nat} : ∀ {ts : List TypeId} {vs : List Value} {ds : List (DataW H)} {ps : List MemPlace}, ts.all (plainT P n) = true →
    (∀ (j : Nat) t v, ts[j]? = some t → vs[j]? = some v → Value.okWide P w r b t v) → DataW.TrodAll enc P w 0 sp held ts vs ds ps →
    ∃ xs, RepT (fun _ => none) noX w (xs.map AV.d) vs ∧ okAll (okD P n) ts xs ∧ RelL xs ds
  | [], [], [], _, _, _, _ => ⟨[], trivial, trivial, .nil⟩
  | t :: ts, v :: vs, d :: ds, _, hp, hv, ⟨p, q, h1, h2, _⟩ => by
    simp only [List.all_cons, Bool.and_eq_true] at hp
    obtain ⟨x, k1, k2, k3⟩ := arg_rep hp.1 (hv 0 t v rfl rfl) h1
    obtain ⟨xs, m1, m2, m3⟩ := args_rep hp.2 (fun j t v ht hv' => hv (j + 1) t v (by simpa using ht) (by simpa using hv')) h2
    exact ⟨x :: xs, ⟨k1, m1⟩, ⟨k2, m2⟩, .cons k3 m3⟩
  | [], [], _ :: _, _, _, _, h => h.elim
  | [], _ :: _, _, _, _, _, h => h.elim
  | _ :: _, [], _, _, _, _, h => h.elim
  | _ :: _, _ :: _, [], _, _, _, h => h.elim

theorem trodAll_stays (hl : laidOutB P = true) {W W' : World} (he : Ext noX W W') : ∀ {ts : List TypeId} {vs : List Value} {ds : List (DataW H)} {ps : List MemPlace}, (ts.all fun t => P.readableRec t && decide (t < P.types.size)) = true → (∀ p ∈ ps, p.block < W.heap.size) →
    DataW.TrodAll enc P W 0 (fun _ => true) true ts vs ds ps → DataW.TrodAll enc P W' 0 (fun b => decide (b < W.heap.size)) true ts vs ds ps
  | [], [], [], _, _, _, h => h
  | t :: ts, v :: vs, d :: ds, _, ht, hp, ⟨p, q, h1, h2, e⟩ => by
    simp only [List.all_cons, Bool.and_eq_true, decide_eq_true_eq] at ht
    subst e
    have hsame : ∀ x ∈ p, W.sameAt W' x := fun x hx => by
      have hb := hp x (List.mem_append_left _ hx)
      have := he.keep x.block hb (fun h => h)
      cases x with
      | cell b o => exact World.cell?_of_block (w := W) this
      | map b => exact this
    exact ⟨p, q, WideElems.Trod_stays hl ht.1.1 ht.1.2 h1 hsame (fun x hx => by simpa using hp x (List.mem_append_left _ hx)), trodAll_stays hl he ht.2 (fun x hx => hp x (List.mem_append_right _ hx)) h2, rfl⟩
  | [], [], _ :: _, _, _, _, h => h.elim
  | [], _ :: _, _, _, _, _, h => h.elim
  | _ :: _, [], _, _, _, _, h => h.elim
  | _ :: _, _ :: _, [], _, _, _, h => h.elim

theorem Ext.kept {W W' : World} (he : Ext noX W W') (may : MemPlace → Prop) : W.keptBut W' may := by
  refine ⟨he.os, he.output, fun i hi => ?_⟩
  have := he.keep i hi (fun h => h)
  rw [this]
  cases W.heap[i]? with
  | none => rfl
  | some o => cases o <;> simp

theorem law_post {f : Func} {s : ChangeSpec} {W W' : World} {args : Array Value} {ds gs : List (DataW H)} {before : List MemPlace} {tb : TypeId} (hW : DataW.Whole enc P f.params.toList s.vars false W args.toList ds gs before) (hv : s.vars = [])
    (hfn : (s.fn H ds).results = [.lit (.bool true)] ∧ (s.fn H ds).args = ds ∧ (s.fn H ds).vars = []) (hb : P.underlying tb = some .bool) (hrt : f.resultTypes = #[tb]) (hl : laidOutB P = true)
    (ht : (f.params.toList.all fun t => P.readableRec t && decide (t < P.types.size)) = true) (he : Ext noX W W') : s.post enc P f false true false false W args (.bool true) W' := by
  have hlt := hW.lt
  have hW2 := hW
  obtain ⟨p, q, hA, hV, e, _, _⟩ := hW2
  rw [hv] at hV
  obtain ⟨rfl, rfl⟩ := trodVars_none hV
  refine ⟨ds, [], before, [], p, [], hW, ?_, ?_, ?_, he.kept _, fun h => by cases h⟩
  · rw [List.append_nil, hfn.1, hrt]
    exact trodAll_mk1 (shut_bool hb true)
  · rw [List.append_nil, hfn.2.1]
    exact trodAll_stays hl he ht (fun x hx => hlt x (by rw [e]; exact List.mem_append_left _ hx)) hA
  · rw [List.append_nil, hfn.2.2, hv]; rfl

theorem hsim0 (w : World) : HSim (fun _ => none) (fun _ => none) noX w :=
  ⟨nofun, nofun, nofun, nofun⟩

/-- **A law**: what is said of its call for all data of its parameters' types is what its row asks of the run. -/
theorem law_calls {fid : FuncId} {f : Func} {s : ChangeSpec} {W : World} {base : Nat} {args : Array Value} {ds gs : List (DataW H)} {before : List MemPlace} {tb : TypeId} (n : Nat)
    (hval : ∀ (j : Nat) t v, f.params[j]? = some t → args[j]? = some v → Value.okWide P W .any base t v) (hW : DataW.Whole enc P f.params.toList s.vars false W args.toList ds gs before) (hv : s.vars = [])
    (hfn : ds.length = f.params.size → (s.fn H ds).results = [.lit (.bool true)] ∧ (s.fn H ds).args = ds ∧ (s.fn H ds).vars = []) (hb : P.underlying tb = some .bool) (hrt : f.resultTypes = #[tb]) (hl : laidOutB P = true)
    (ht : (f.params.toList.all fun t => P.readableRec t && decide (t < P.types.size)) = true) (hp : f.params.toList.all (plainT P n) = true)
    (hmain : ∀ xs, okAll (okD P n) f.params.toList xs → RelL xs ds → LocalCall P fid (xs.map AV.d) [] [] (.d (.bool true)) []) :
    Calls P fid args W fun e W' => ∃ v, e = .returned v ∧ s.post enc P f false true false false W args v W' := by
  have hW2 := hW
  obtain ⟨p, q, hA, hV, _, _, _⟩ := hW2
  have hlen : ∀ {ts : List TypeId} {vs : List Value} {ds : List (DataW H)} {ps : List MemPlace}, DataW.TrodAll enc P W 0 (fun _ => true) true ts vs ds ps → ds.length = ts.length := by
    intro ts
    induction ts with
    | nil => intro vs ds ps h; cases vs <;> cases ds <;> first | rfl | exact h.elim
    | cons t ts ih =>
      intro vs ds ps h
      cases vs <;> cases ds <;> try exact h.elim
      obtain ⟨_, _, _, h2, _⟩ := h
      simp [ih h2]
  obtain ⟨xs, h1, h2, h3⟩ := args_rep hp (fun j t v h1 h2 => hval j t v (by simpa using h1) (by simpa using h2)) hA
  have hc := hmain xs h2 h3 (fun _ => none) (fun _ h => by cases h) (fun _ h => by cases h) (fun _ => none) noX W args.toList (hsim0 W) h1 (fun n hn => by
    exfalso
    have : ∀ l : List D, n ∉ AV.namesL (l.map AV.d) := fun l => by
      induction l with
      | nil => intro h; cases h
      | cons x l ih => simpa [AV.namesL, AV.names] using ih
    exact this xs hn)
  rw [Array.toArray_toList] at hc
  refine hc.mono fun e W' he => ?_
  obtain ⟨v, rfl, ρ', X', _, q2, q3, _⟩ := he
  have := repA_bool q3
  subst this
  exact ⟨_, rfl, law_post hW hv (hfn (by rw [hlen hA]; simp)) hb hrt hl ht (q2.ext.mono fun b _ hb => by obtain ⟨_, _, h, _⟩ := hb; cases h)⟩

end
end Go.Sym
