/-
What an operation that calls nothing does to what a frame holds, tenth part: literals, make, copy.
-/
import Derived.Test.YthedcaopedbpdaaSyml
import Derived.Laws.MakeOwn
namespace Go.Sym

/-! ### Literals -/

/-- Parts laid at their places, one behind the other. -/
def layParts (pl : Nat → Option (Stp × Nat)) : AV → List (Nat × AV) → Option (Prop × AV)
  | x, [] => some (True, x)
  | x, (i, v) :: l => match pl i with
    | some (st, sz) => bif v.size.beq sz && v.plain then match AV.set x [st] v with
        | some (s, y) => match layParts pl y l with
          | some (s', z) => some (s ∧ s', z)
          | none => none
        | none => none
      else none
    | none => none

theorem foldl_splice (pre old post : List Value) : ∀ (v mid : List Value) (cells : Array Value) (k : Nat), old.length = v.length → cells.toList = pre ++ mid ++ old ++ post → mid.length = k →
    ((v.zipIdx k).foldl (fun cs (c, j) => cs.setIfInBounds (pre.length + j) c) cells).toList = pre ++ mid ++ v ++ post := by
  intro v
  induction v generalizing old with
  | nil =>
    intro mid cells k hl hc _
    have : old = [] := by simpa using hl
    subst this
    simpa using hc
  | cons x v ih =>
    intro mid cells k hl hc hk
    match old, hl with
    | u :: old, hl =>
      simp only [List.length_cons, Nat.add_right_cancel_iff] at hl
      simp only [List.zipIdx_cons, List.foldl_cons]
      have := ih old (mid ++ [x]) (cells.setIfInBounds (pre.length + k) x) (k + 1) hl (by
        rw [Array.toList_setIfInBounds, hc]
        rw [List.append_assoc, List.append_assoc, List.set_append_right _ _ (by omega)]
        have : pre.length + k - pre.length = k := by omega
        rw [this, List.set_append_right _ _ (by omega)]
        have : k - mid.length = 0 := by omega
        rw [this]; simp) (by simp [hk])
      rw [this]; simp

theorem layParts_rep {ρ : Nat → Option Nat} {X : Nat → Prop} {w : World} {pl : Nat → Option (Stp × Nat)} {place : Nat → Option (Nat × Nat)} (hpl : ∀ i st sz, pl i = some (st, sz) → place i = some (st.off, sz)) :
    ∀ {parts : List (Nat × AV)} {vs : List (Nat × Value)} {x y : AV} {s : Prop} {cells : Array Value}, layParts pl x parts = some (s, y) → s →
      parts.length = vs.length → (∀ (k : Nat) (i j : Nat) (a : AV) (v : Value), parts[k]? = some (i, a) → vs[k]? = some (j, v) → i = j ∧ RepA ρ X w a v) →
      RepC ρ X w x cells.toList → ∃ cells', Instr.fill place cells vs = some cells' ∧ RepC ρ X w y cells'.toList := by
  intro parts
  induction parts with
  | nil =>
    intro vs x y s cells h _ hl _ hr
    have : vs = [] := by simpa using hl.symm
    subst this
    simp only [layParts, Option.some.injEq, Prod.mk.injEq] at h
    obtain ⟨_, rfl⟩ := h
    exact ⟨cells, rfl, hr⟩
  | cons pt parts ih =>
    intro vs x y s cells h hs hl hv hr
    match vs, hl with
    | (j, v) :: vs, hl =>
      obtain ⟨i, a⟩ := pt
      simp only [layParts] at h
      split at h <;> try (cases h; done)
      rename_i st sz hpi
      cases hb : a.size.beq sz && a.plain <;> simp only [hb, cond_true, cond_false] at h <;> try (cases h; done)
      simp only [Bool.and_eq_true] at hb
      have hsz := Nat.eq_of_beq_eq_true hb.1
      split at h <;> try (cases h; done)
      rename_i s1 z hset
      split at h <;> cases h
      rename_i s2 hrest
      obtain ⟨hij, hra⟩ := hv 0 i j a v rfl rfl
      subst hij
      obtain ⟨cs, c1, _, c3⟩ := repA_cells hb.2 hra
      obtain ⟨pre, old, post, e1, e2, e3, e4⟩ := AV.set_rep hset hs.1 hr
      have hvs : v.cells.size = sz := by rw [← Array.length_toList, c3, c1.length, hsz]
      have hpre : pre.length = st.off := by rw [e2]; rfl
      have hold : old.length = v.cells.toList.length := by rw [c3, e3, c1.length]
      have hspl := foldl_splice pre old post v.cells.toList [] cells 0 hold (by simpa using e1) rfl
      simp only [List.append_nil] at hspl
      obtain ⟨cells', f1, f2⟩ := ih (vs := vs) (cells := (v.cells.zipIdx).foldl (fun cs (c, j) => cs.setIfInBounds (st.off + j) c) cells) hrest hs.2 (by simpa using hl)
        (fun k i j a v h1 h2 => hv (k + 1) i j a v (by simpa using h1) (by simpa using h2)) (by
          have : ((v.cells.zipIdx).foldl (fun cs (c, j) => cs.setIfInBounds (st.off + j) c) cells).toList = pre ++ cs ++ post := by
            rw [← c3, ← hspl, hpre, ← Array.foldl_toList, Array.toList_zipIdx]
          rw [this]; exact e4 cs c1)
      refine ⟨cells', ?_, f2⟩
      simp only [Instr.fill, hpl i st sz hpi]
      have h1 : (v.cells.size ≠ sz || decide (st.off + v.cells.size > cells.size)) = false := by
        have : cells.size = (pre ++ old ++ post).length := by rw [← e1]; simp
        simp only [Bool.or_eq_false_iff, decide_eq_false_iff_not, ne_eq, Decidable.not_not]
        refine ⟨hvs, ?_⟩
        rw [this, hvs]
        have : old.length = sz := by rw [hold, Array.length_toList, hvs]
        simp; omega
      rw [if_neg (by rw [h1]; simp)]
      exact f1

def plOf (P : Program) (T : TypeId) (i : Nat) : Option (Stp × Nat) :=
  match P.underlying T with
  | some (.struct fields) => match fields[i]? with
    | some fd => match P.info? fd.type with
      | some j => some (.fld i fd.offset, j.size)
      | none => none
    | none => none
  | some (.array _ e) => match P.info? e with
    | some j => some (.ix i j.size, j.size)
    | none => none
  | _ => none

def aBuild (P : Program) (T : TypeId) (parts : List (Nat × AV)) : Option Res :=
  match zeroD P T, P.info? T with
  | some x, some it => match it.zero with
    | some z => bif zeqs z.cells.toList x.flat && x.isAgg && (match P.underlying T with
        | some (.struct fields) => fields.toList.all fun f => (P.info? f.type).isSome
        | some (.array _ e) => (P.info? e).isSome
        | _ => false) then match layParts (plOf P T) (.d x) parts with
        | some (s, y) => bif y.isAgg then some ⟨s, y, []⟩ else none
        | none => none
      else none
    | none => none
  | _, _ => none

theorem mapM_places {P : Program} : ∀ (fs : List Field), (fs.all fun f => (P.info? f.type).isSome) = true → ∃ places, fs.mapM (fun f => (P.info? f.type).map fun i => (f.offset, i.size)) = some places ∧
    ∀ (i : Nat) (fd : Field) (j : TypeInfo), fs[i]? = some fd → P.info? fd.type = some j → places[i]? = some (fd.offset, j.size)
  | [], _ => ⟨[], rfl, fun i fd j h => by simp at h⟩
  | f :: fs, h => by
    simp only [List.all_cons, Bool.and_eq_true] at h
    obtain ⟨places, h1, h2⟩ := mapM_places fs h.2
    obtain ⟨j, hj⟩ := Option.isSome_iff_exists.1 h.1
    refine ⟨(f.offset, j.size) :: places, ?_, fun i fd j' hi hj' => ?_⟩
    · simp [List.mapM_cons, hj, h1]
    · cases i with
      | zero => simp only [List.getElem?_cons_zero, Option.some.injEq] at hi; subst hi; rw [hj] at hj'; cases hj'; rfl
      | succ i => simp only [List.getElem?_cons_succ] at hi ⊢; exact h2 i fd j' hi hj'

theorem aBuild_sound {P : Program} {T : TypeId} {o : Oper} {parts : Array (Nat × Operand)} {S : St} {res : Res} (ho : o.op = .build T parts) (h : aBuild P T (parts.toList.map fun p => (p.1, S.ev p.2)) = some res) (hside : res.side) :
    StepsTo P o S (S.upd o.dst res.r res.ws) := by
  unfold aBuild at h
  split at h <;> try (cases h; done)
  rename_i x it hx hit
  split at h <;> try (cases h; done)
  rename_i z hz
  generalize hok : (match P.underlying T with
        | some (.struct fields) => fields.toList.all fun f => (P.info? f.type).isSome
        | some (.array _ e) => (P.info? e).isSome
        | _ => false) = ok at h
  cases hb : zeqs z.cells.toList x.flat && x.isAgg && ok <;> simp only [hb, cond_true, cond_false] at h <;> try (cases h; done)
  simp only [Bool.and_eq_true] at hb
  obtain ⟨⟨hb1, hb2⟩, rfl⟩ := hb
  split at h <;> try (cases h; done)
  rename_i s y hlay
  cases hy : y.isAgg <;> simp only [hy, cond_true, cond_false] at h <;> cases h
  have hzx := zeqs_eq hb1
  have hnosl : x.noSl = true := by
    unfold zeroD at hx
    split at hx <;> try (cases hx; done)
    rename_i v hv
    cases hc : zeqs v.cells.toList (D.zero P 8 T).flat && (D.zero P 8 T).noSl <;> simp only [hc, cond_true, cond_false] at hx <;> cases hx
    simp only [Bool.and_eq_true] at hc
    exact hc.2
  refine steps_value fun ρ X a w hs => ?_
  let vs : List (Nat × Value) := (parts.map fun (i, x) => (i, a.eval x)).toList
  have hvs : vs = parts.toList.map fun p => (p.1, a.eval p.2) := by simp [vs]
  have hlen : (parts.toList.map fun p => (p.1, S.ev p.2)).length = vs.length := by rw [hvs]; simp
  have hrel : ∀ (k : Nat) (i j : Nat) (u : AV) (v : Value), (parts.toList.map fun p => (p.1, S.ev p.2))[k]? = some (i, u) → vs[k]? = some (j, v) → i = j ∧ RepA ρ X w u v := by
    intro k i j u v h1 h2
    rw [hvs] at h2
    rw [List.getElem?_map] at h1 h2
    cases hp : parts.toList[k]? with
    | none => rw [hp] at h1; cases h1
    | some p =>
      rw [hp] at h1 h2
      simp only [Option.map_some, Option.some.injEq, Prod.mk.injEq] at h1 h2
      obtain ⟨rfl, rfl⟩ := h1
      obtain ⟨rfl, rfl⟩ := h2
      exact ⟨rfl, hs.ev p.2⟩
  have hrx : RepC ρ X w (.d x) z.cells.toList := by rw [hzx]; exact .d (D.flat_rep x hnosl)
  have hnames : ∀ n, n ∈ y.names → S.hp n ≠ none := by
    have : ∀ (l : List (Nat × Operand)) (u : AV) (s : Prop), (∀ n, n ∈ u.names → S.hp n ≠ none) → layParts (plOf P T) u (l.map fun p => (p.1, S.ev p.2)) = some (s, y) → ∀ n, n ∈ y.names → S.hp n ≠ none := by
      intro l
      induction l with
      | nil => intro u s hu h; simp only [List.map_nil, layParts, Option.some.injEq, Prod.mk.injEq] at h; rw [← h.2]; exact hu
      | cons p l ih =>
        intro u s hu h
        simp only [List.map_cons, layParts] at h
        split at h <;> try (cases h; done)
        rename_i st sz _
        cases hb : (S.ev p.2).size.beq sz && (S.ev p.2).plain <;> simp only [hb, cond_true, cond_false] at h <;> try (cases h; done)
        split at h <;> try (cases h; done)
        rename_i s1 u' hset
        split at h <;> cases h
        rename_i s2 hrest
        refine ih u' s2 (fun n hn => ?_) hrest
        rcases AV.set_names hset n hn with h | h
        · exact hu n h
        · exact hs.evNames p.2 n h
    exact this parts.toList (.d x) _ (fun n hn => by cases hn) hlay
  have run : ∀ cells, P.built T vs = some cells → (execOp a.eval o).run P w = .ok (.value (.agg cells)) w := fun cells hc => by
    simp only [execOp, ho]
    exact run_map (run_build w T _ cells hc)
  cases hu : P.underlying T with
  | none => rw [hu] at hok; cases hok
  | some d =>
    rw [hu] at hok
    cases d <;> try (cases hok; done)
    case array n e =>
      obtain ⟨ie, hie⟩ := Option.isSome_iff_exists.1 hok
      obtain ⟨cells, c1, c2⟩ := layParts_rep (ρ := ρ) (X := X) (w := w) (pl := plOf P T) (place := fun i => some (i * ie.size, ie.size)) (fun i st sz h => by
        simp only [plOf, hu, hie, Option.some.injEq, Prod.mk.injEq] at h
        obtain ⟨rfl, rfl⟩ := h; rfl) hlay hside hlen hrel hrx
      refine ⟨.agg cells, run cells ?_, ?_, hnames⟩
      · simp only [Program.built, hit, hu, hz, hie]; exact c1
      · have := repA_of_c c2; rw [hy] at this; exact this
    case struct fields =>
      obtain ⟨places, p1, p2⟩ := mapM_places fields.toList hok
      obtain ⟨cells, c1, c2⟩ := layParts_rep (ρ := ρ) (X := X) (w := w) (pl := plOf P T) (place := (places.toArray[·]?)) (fun i st sz h => by
        simp only [plOf, hu] at h
        split at h <;> try (cases h; done)
        rename_i fd hfd
        split at h <;> cases h
        rename_i j hj
        have := p2 i fd j (by simpa using hfd) hj
        simpa [Stp.off] using this) hlay hside hlen hrel hrx
      refine ⟨.agg cells, run cells ?_, ?_, hnames⟩
      · simp only [Program.built, hit, hu, hz, p1]; exact c1
      · have := repA_of_c c2; rw [hy] at this; exact this

/-! ### A slice written out -/

def dsOf : List AV → Option (List D)
  | [] => some []
  | .d x :: l => match dsOf l with
    | some xs => some (x :: xs)
    | none => none
  | _ :: _ => none

def aBuildSlice (P : Program) (nm : Nat) (T : TypeId) (len : Nat) (parts : List (Nat × AV)) : Option Res :=
  match elTy P T with
  | some el => match P.info? el, dsOf (parts.map (·.2)) with
    | some i, some xs => bif (parts.map (·.1) == List.range len) && xs.all (fun x => x.size.beq i.size) && i.zero.isSome && Nat.ble (len * i.size) 16777216 && !i.size.beq 0 && Nat.beq xs.length len then
        some ⟨True, .sl nm [] i.size 0 xs.length, [(nm, .row i.size xs)]⟩ else none
    | _, _ => none
  | none => none

theorem fill_row {ρ : Nat → Option Nat} {X : Nat → Prop} {w : World} {e : Nat} : ∀ (xs : List D) (vs : List (Nat × Value)) (k : Nat) (done rest : List Value), vs.map (·.1) = (List.range xs.length).map (· + k) → done.length = k * e →
    rest.length = xs.length * e → (∀ (j : Nat) (x : D) (p : Nat × Value), xs[j]? = some x → vs[j]? = some p → RepA ρ X w (.d x) p.2) → (∀ x, x ∈ xs → x.size = e) →
    ∃ cs, Instr.fill (fun i => some (i * e, e)) (done ++ rest).toArray vs = some (done ++ cs).toArray ∧ RepL X w xs cs := by
  intro xs
  induction xs with
  | nil =>
    intro vs k done rest hvs hd hr _ _
    have : vs = [] := by simpa using hvs
    subst this
    have : rest = [] := List.eq_nil_of_length_eq_zero (by simpa using hr)
    subst this
    exact ⟨[], rfl, .nil⟩
  | cons x xs ih =>
    intro vs k done rest hvs hd hr hrel hsz
    cases vs with
    | nil => simp at hvs
    | cons p vs =>
      obtain ⟨i, v⟩ := p
      have hi : i = k ∧ vs.map (·.1) = (List.range xs.length).map (· + (k + 1)) := by
        simp only [List.map_cons, List.length_cons, List.range_succ_eq_map, List.map_map, List.cons.injEq, Nat.zero_add] at hvs
        refine ⟨hvs.1, hvs.2.trans ?_⟩
        apply List.map_congr_left
        intro a _; simp; omega
      obtain ⟨rfl, hvs'⟩ := hi
      have hrx := hrel 0 x (i, v) rfl rfl
      obtain ⟨c, hc1, _, hc3⟩ := repA_cells rfl hrx
      have hxe : x.size = e := hsz x (by simp)
      have hcl : c.length = e := by rw [hc1.length]; exact hxe
      have hvc : v.cells.size = e := by rw [← Array.length_toList, hc3, hcl]
      have hre : e ≤ rest.length := by rw [hr]; simp [Nat.succ_mul]
      have hspl := foldl_splice done (rest.take e) (rest.drop e) v.cells.toList [] (done ++ rest).toArray 0 (by rw [hc3]; simp; omega) (by simp) rfl
      simp only [List.append_nil] at hspl
      have hnew : ((v.cells.zipIdx).foldl (fun cs (c, j) => cs.setIfInBounds (i * e + j) c) (done ++ rest).toArray) = ((done ++ c) ++ rest.drop e).toArray := by
        apply Array.ext'
        rw [← hd, ← Array.foldl_toList, Array.toList_zipIdx, hspl, hc3]
      obtain ⟨cs, f1, f2⟩ := ih vs (i + 1) (done ++ c) (rest.drop e) hvs' (by simp [hd, hcl, Nat.succ_mul]) (by simp [hr, Nat.succ_mul])
        (fun j y q h1 h2 => hrel (j + 1) y q (by simpa using h1) (by simpa using h2)) (fun y hy => hsz y (by simp [hy]))
      refine ⟨c ++ cs, ?_, ?_⟩
      · simp only [Instr.fill]
        have h1 : (v.cells.size ≠ e || decide (i * e + v.cells.size > (done ++ rest).toArray.size)) = false := by
          simp only [Bool.or_eq_false_iff, decide_eq_false_iff_not, ne_eq, Decidable.not_not]
          refine ⟨hvc, ?_⟩
          simp [hvc, hd]; omega
        rw [if_neg (by rw [h1]; simp), hnew, f1]
        simp
      · cases hc1 with
        | d hc1 => exact .cons hc1 f2

theorem dsOf_spec : ∀ {l : List AV} {xs : List D}, dsOf l = some xs → l = xs.map AV.d
  | [], xs, h => by cases h; rfl
  | .d x :: l, xs, h => by
    simp only [dsOf] at h
    split at h <;> cases h
    rename_i hl
    rw [List.map_cons, ← dsOf_spec hl]
  | .ptr _ _ :: _, _, h | .sl _ _ _ _ _ :: _, _, h | .st _ :: _, _, h | .dptr _ :: _, _, h | .fn _ _ :: _, _, h | .cst _ :: _, _, h | .tup _ :: _, _, h | .top :: _, _, h => by cases h

theorem aBuildSlice_sound {P : Program} {T : TypeId} {len : Nat} {o : Oper} {parts : Array (Nat × Operand)} {S : St} {res : Res} {nm : Nat} (ho : o.op = .buildSlice T len parts)
    (h : aBuildSlice P nm T len (parts.toList.map fun p => (p.1, S.ev p.2)) = some res) (hf : S.hp nm = none) : StepsTo P o S (S.upd o.dst res.r res.ws) := by
  unfold aBuildSlice at h
  split at h <;> try (cases h; done)
  rename_i el hel
  have hu := elTy_spec hel
  split at h <;> try (cases h; done)
  rename_i i xs hi hds
  generalize hb : (((parts.toList.map fun p => (p.1, S.ev p.2)).map (·.1) == List.range len) && xs.all (fun x => x.size.beq i.size) && i.zero.isSome && Nat.ble (len * i.size) 16777216 && !i.size.beq 0 && Nat.beq xs.length len) = b at h
  cases b <;> simp only [cond_true, cond_false] at h <;> cases h
  simp only [Bool.and_eq_true, beq_iff_eq, Bool.not_eq_true', List.all_eq_true, List.map_map] at hb
  obtain ⟨⟨⟨⟨⟨hb1, hb2⟩, hb3⟩, hb4⟩, hb5⟩, hb6⟩ := hb
  obtain ⟨z, hz⟩ := Option.isSome_iff_exists.1 hb3
  have hxl : xs.length = len := Nat.eq_of_beq_eq_true hb6
  have hsz : ∀ x, x ∈ xs → x.size = i.size := fun x hx => Nat.eq_of_beq_eq_true (hb2 x hx)
  have hle : len * i.size ≤ 16777216 := Nat.le_of_ble_eq_true hb4
  have hds' := dsOf_spec hds
  refine steps_own fun ρ X a w hs => ?_
  let vs : List (Nat × Value) := (parts.map fun (i, x) => (i, a.eval x)).toList
  have hvs : vs = parts.toList.map fun p => (p.1, a.eval p.2) := by simp [vs]
  have hzv : ∀ w : World, (do pure (← zeroValue el).cells : Sem (Array Value)).run P w = .ok z.cells w := fun w => by
    simp only [zeroValue, typeInfo, program]
    simp [Sem.run, Sem.run_bind, hi, hz]
  have hzv' : ∀ w : World, (zeroValue el).run P w = .ok z w := fun w => by
    simp only [zeroValue, typeInfo, program]
    simp [Sem.run, Sem.run_bind, hi, hz]
  have hsv : ∀ w : World, (sizeOf el).run P w = .ok i.size w := fun w => by
    simp only [sizeOf, typeInfo, program]
    simp [Sem.run, Sem.run_bind, hi]
  have hrel : ∀ (j : Nat) (x : D) (p : Nat × Value), xs[j]? = some x → vs[j]? = some p → RepA ρ X w (.d x) p.2 := by
    intro j x p h1 h2
    rw [hvs, List.getElem?_map] at h2
    cases hp : parts.toList[j]? with
    | none => rw [hp] at h2; cases h2
    | some q =>
      rw [hp] at h2
      simp only [Option.map_some, Option.some.injEq] at h2
      subst h2
      have h3 : ((parts.toList.map fun p => (p.1, S.ev p.2)).map (·.2))[j]? = (xs.map AV.d)[j]? := by rw [hds']
      rw [List.map_map, List.getElem?_map, List.getElem?_map, hp, h1] at h3
      simp only [Option.map_some, Option.some.injEq, Function.comp] at h3
      rw [← h3]
      exact hs.ev q.2
  have fin : ∀ (c0 : Array Value), c0.size = len * i.size → (∀ w : World, ((if len * i.size = 0 then pure #[] else do pure (← zeroValue el).cells : Sem (Array Value)) >>= fun zero =>
      pure ((Array.range (len * i.size)).map (zero[· % zero.size]!))).run P w = .ok c0 w) →
      ∃ v w', (execOp a.eval o).run P w = .ok (.value v) w' ∧ ∃ ρ' X', Sim (S.upd o.dst (.sl nm [] i.size 0 xs.length) [(nm, .row i.size xs)]) ρ' X' (a.put o.dst v) w' ∧ Evo S (S.upd o.dst (.sl nm [] i.size 0 xs.length) [(nm, .row i.size xs)]) ρ ρ' X X' w w' := by
    intro c0 hc0 hrun0
    obtain ⟨cs, f1, f2⟩ := fill_row (ρ := ρ) (X := X) (w := w) (e := i.size) xs vs 0 [] c0.toList (by
      rw [hvs, List.map_map, hxl]
      have : (fun x => x + 0) = (id : Nat → Nat) := by funext n; rfl
      rw [this, List.map_id]
      exact hb1) (by simp) (by simp [hc0, hxl]) hrel hsz
    simp only [List.nil_append] at f1
    have hcl : cs.length = len * i.size := by rw [f2.length, D.sizes_const xs hsz, hxl]
    have hrun : (Instr.buildSlice T len (parts.map fun (i, x) => (i, a.eval x))).run P w = .ok (.slice (some ⟨w.heap.size, 0, none⟩) len len) (w.alloc (.cells cs.toArray el)) := by
      simp only [Instr.buildSlice]
      rw [run_bind_ok (run_underlying hu w)]
      dsimp only
      rw [run_bind_ok (hsv w), if_neg (by omega)]
      have h0 := hrun0 w
      by_cases hz0 : len * i.size = 0
      · rw [if_pos hz0] at h0 ⊢
        rw [run_bind_ok (run_pure _ w)] at h0 ⊢
        cases h0
        have : Instr.fill (fun j => some (j * i.size, i.size)) ((Array.range (len * i.size)).map fun x => (#[] : Array Value)[x % (#[] : Array Value).size]!) (parts.map fun (i, x) => (i, a.eval x)).toList = some cs.toArray := f1
        rw [this]
        rfl
      · rw [if_neg hz0] at h0 ⊢
        rw [run_bind_ok (hzv w)] at h0
        rw [run_bind_ok (hzv' w), run_bind_ok (run_pure _ w)]
        cases h0
        have : Instr.fill (fun j => some (j * i.size, i.size)) ((Array.range (len * i.size)).map fun x => z.cells[x % z.cells.size]!) (parts.map fun (i, x) => (i, a.eval x)).toList = some cs.toArray := f1
        rw [this]
        rfl
    refine ⟨.slice (some ⟨w.heap.size, 0, none⟩) len len, w.alloc (.cells cs.toArray el), ?_, ?_⟩
    · simp only [execOp, ho]
      exact run_map hrun
    · obtain ⟨hext, hnew⟩ := alloc_new w cs.toArray el (0, 0)
      refine hs.new hf ⟨hext, hnew⟩ (fun ρ' X' g hρ hρn => .inr ⟨w.heap.size, cs, [], el, (0, 0), hρn, ?_, .inl (Nat.le_refl _), f2.mono g.ext g.off g.own, hsz⟩) (fun n hn => by cases hn) (fun ρ' X' g hρ hρn => ?_) (fun n hn => by simp [AV.names] at hn; exact .inr hn)
      · simpa using hnew
      · rw [hxl]
        refine repA_of_c (.sl hρn hnew ?_ (Nat.le_refl _) (.inr (by simp [pOff])))
        simp [pOff, hcl]
  by_cases hz0 : len * i.size = 0
  · refine fin ((Array.range (len * i.size)).map fun x => (#[] : Array Value)[x % (#[] : Array Value).size]!) (by simp) (fun w => ?_)
    rw [if_pos hz0, run_bind_ok (run_pure _ w)]; rfl
  · refine fin ((Array.range (len * i.size)).map fun x => z.cells[x % z.cells.size]!) (by simp) (fun w => ?_)
    rw [if_neg hz0, run_bind_ok (hzv w)]; rfl

/-! ### make -/

def aMakeSlice (P : Program) (nm : Nat) (T : TypeId) (l c : AV) : Option Res :=
  match elTy P T, l, c with
  | some el, .d (.int _ l), .d (.int _ c) => match P.info? el, zeroD P el with
    | some i, some z => match i.zero with
      | some zv => bif zeqs zv.cells.toList z.flat && z.size.beq i.size && !i.size.beq 0 then
          some ⟨0 ≤ l ∧ l ≤ c ∧ (i.bytes : Int) * c ≤ 281474976710656 ∧ c ≤ 281474976710656, .sl nm [] i.size 0 (List.replicate l.toNat z).length, [(nm, .row i.size (List.replicate l.toNat z))]⟩ else none
      | none => none
    | _, _ => none
  | _, _, _ => none

theorem made_split {z : List Value} (hz : z ≠ []) : ∀ (k n : Nat), ((List.range (k * z.length + n)).map fun i => z.toArray[i % z.toArray.size]!) = (List.replicate k z).flatten ++ (List.range n).map fun i => z.toArray[i % z.toArray.size]! := by
  intro k
  have hpos : 0 < z.length := by cases z with | nil => exact absurd rfl hz | cons _ _ => simp
  induction k with
  | zero => intro n; simp
  | succ k ih =>
    intro n
    have e : (k + 1) * z.length + n = z.length + (k * z.length + n) := by rw [Nat.succ_mul]; omega
    rw [e, List.range_add, List.map_append, List.map_map]
    have h1 : (List.range z.length).map (fun i => z.toArray[i % z.toArray.size]!) = z := by
      apply List.ext_getElem
      · simp
      · intro i h1 h2
        have hi : i < z.length := by simpa using h2
        simp only [List.getElem_map, List.getElem_range, List.size_toArray]
        rw [Nat.mod_eq_of_lt hi]
        simp [hi]
    have h2 : ((fun i => z.toArray[i % z.toArray.size]!) ∘ fun x => z.length + x) = fun i => z.toArray[i % z.toArray.size]! := by
      funext i
      simp only [Function.comp, List.size_toArray, Nat.add_mod_left]
    rw [h1, h2, ih n]
    simp [List.replicate_succ]

theorem RepL.replicate {X : Nat → Prop} {w : World} {x : D} {cs : List Value} (h : RepD X w x cs) : ∀ (n : Nat), RepL X w (List.replicate n x) (List.replicate n cs).flatten
  | 0 => .nil
  | n + 1 => by
    rw [List.replicate_succ, List.replicate_succ, List.flatten_cons]
    exact .cons h (RepL.replicate h n)

theorem aMakeSlice_sound {P : Program} {T : TypeId} {o : Oper} {l c : Operand} {S : St} {res : Res} {nm : Nat} (ho : o.op = .makeSlice T l c) (h : aMakeSlice P nm T (S.ev l) (S.ev c) = some res) (hside : res.side)
    (hf : S.hp nm = none) : StepsTo P o S (S.upd o.dst res.r res.ws) := by
  unfold aMakeSlice at h
  split at h <;> try (cases h; done)
  rename_i el k ln k' cn hel hl hc
  have hu := elTy_spec hel
  split at h <;> try (cases h; done)
  rename_i i z hi hz
  split at h <;> try (cases h; done)
  rename_i zv hzv
  cases hb : zeqs zv.cells.toList z.flat && z.size.beq i.size && !i.size.beq 0 <;> simp only [hb, cond_true, cond_false] at h <;> cases h
  simp only [Bool.and_eq_true, Bool.not_eq_true'] at hb
  obtain ⟨⟨hb1, hb2⟩, hb3⟩ := hb
  have hzf := zeqs_eq hb1
  have hzs := Nat.eq_of_beq_eq_true hb2
  have hne : i.size ≠ 0 := fun e => by rw [e] at hb3; cases hb3
  obtain ⟨h0, h1, h2, h3⟩ := hside
  refine steps_own fun ρ X a w hs => ?_
  obtain ⟨_, _, _, hnosl⟩ := zeroD_run hz w
  have hel1 := hs.ev l
  have hec := hs.ev c
  rw [hl] at hel1; rw [hc] at hec
  have hrun := run_make w T el i zv hu hi hzv k k' ln cn h0 h1 h2 (by omega)
  have hflen : z.flat.length = i.size := by rw [← hzs]; exact (D.flat_rep (X := X) (w := w) z hnosl).length
  have hcells : (madeCells zv.cells (cn.toNat * i.size)) = ((List.replicate ln.toNat z.flat).flatten ++ (List.range ((cn.toNat - ln.toNat) * i.size)).map fun i => z.flat.toArray[i % z.flat.toArray.size]!).toArray := by
    have hzc : zv.cells = z.flat.toArray := by rw [← hzf]
    unfold madeCells
    rw [hzc]
    apply Array.ext'
    rw [← made_split (by intro e; rw [e] at hflen; simp at hflen; omega)]
    have : ln.toNat * z.flat.length + (cn.toNat - ln.toNat) * i.size = cn.toNat * i.size := by
      rw [hflen, ← Nat.add_mul]; congr 1; omega
    rw [this]
    simp
  refine ⟨.slice (some ⟨w.heap.size, 0, none⟩) ln.toNat cn.toNat, w.alloc (.cells (madeCells zv.cells (cn.toNat * i.size)) el), ?_, ?_⟩
  · simp only [execOp, ho, repA_int hel1, repA_int hec]
    exact run_map hrun
  · obtain ⟨hext, hnew⟩ := alloc_new w (madeCells zv.cells (cn.toNat * i.size)) el (0, 0)
    refine hs.new hf ⟨hext, hnew⟩ (fun ρ' X' g hρ hρn => .inr ⟨w.heap.size, (List.replicate ln.toNat z.flat).flatten, (List.range ((cn.toNat - ln.toNat) * i.size)).map (fun i => z.flat.toArray[i % z.flat.toArray.size]!), el, (0, 0), hρn, ?_, .inl (Nat.le_refl _), RepL.replicate (D.flat_rep z hnosl) _, fun y hy => ?_⟩) (fun n hn => by cases hn) (fun ρ' X' g hρ hρn => ?_)
      (fun n hn => by simp [AV.names] at hn; exact .inr hn)
    · rw [← hcells]; exact hnew
    · rw [List.eq_of_mem_replicate hy]; exact hzs
    · rw [List.length_replicate]
      refine repA_of_c (.sl hρn hnew ?_ (by omega) (.inr (by simp [pOff])))
      rw [size_madeCells]
      simp [pOff]

end Go.Sym
