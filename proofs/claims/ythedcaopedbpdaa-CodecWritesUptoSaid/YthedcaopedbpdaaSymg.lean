/-
What an operation that calls nothing does to what a frame holds, fourth part: stores, new variables, addresses, parts.
-/
import Derived.Test.YthedcaopedbpdaaSymf
namespace Go.Sym

theorem AV.namesL_set {i : Nat} {y : AV} {n : Nat} : ∀ {fs : List AV}, n ∈ AV.namesL (fs.set i y) → n ∈ AV.namesL fs ∨ n ∈ y.names := by
  intro fs
  induction fs generalizing i with
  | nil => intro h; simp at h; exact .inl h
  | cons a l ih =>
    intro h
    cases i with
    | zero =>
      simp only [List.set_cons_zero, AV.namesL, List.mem_append] at h ⊢
      rcases h with h | h
      · exact .inr h
      · exact .inl (.inr h)
    | succ i =>
      simp only [List.set_cons_succ, AV.namesL, List.mem_append] at h ⊢
      rcases h with h | h
      · exact .inl (.inl h)
      · rcases ih h with h | h
        · exact .inl (.inr h)
        · exact .inr h

theorem AV.namesL_mem {z : AV} {n : Nat} : ∀ {fs : List AV} {i : Nat}, fs[i]? = some z → n ∈ z.names → n ∈ AV.namesL fs := by
  intro fs
  induction fs with
  | nil => intro i h; simp at h
  | cons a l ih =>
    intro i h hn
    simp only [AV.namesL, List.mem_append]
    cases i with
    | zero => simp only [List.getElem?_cons_zero, Option.some.injEq] at h; subst h; exact .inl hn
    | succ i => simp only [List.getElem?_cons_succ] at h; exact .inr (ih h hn)

theorem AV.namesL_d : ∀ (fs : List D), AV.namesL (fs.map AV.d) = []
  | [] => rfl
  | _ :: fs => by show [] ++ AV.namesL (fs.map AV.d) = []; rw [AV.namesL_d fs]; rfl

theorem AV.set_names : ∀ {p : List Stp} {x y z : AV} {s : Prop}, AV.set x p y = some (s, z) → ∀ n, n ∈ z.names → n ∈ x.names ∨ n ∈ y.names := by
  intro p
  induction p with
  | nil =>
    intro x y z s h n hn
    rw [AV.set_nil] at h
    cases hb : x.size.beq y.size && (x.isAgg == y.isAgg) <;> simp only [hb, cond_true, cond_false] at h <;> cases h
    exact .inr hn
  | cons st p ih =>
    intro x y z s h n hn
    cases x with
    | d x =>
      by_cases hy : ∃ y', y = .d y'
      · obtain ⟨y, rfl⟩ := hy
        simp only [AV.set] at h
        split at h <;> cases h
        cases hn
      · have hy : ∀ y', y ≠ .d y' := fun y' e => hy ⟨y', e⟩
        cases x with
        | st fs =>
          cases st with
          | fld i off =>
            cases p with
            | nil =>
              rw [AV.set_fld hy] at h
              cases hb : (D.sizes (fs.take i)).beq off <;> simp only [hb, cond_true, cond_false] at h <;> try (cases h; done)
              split at h <;> try (cases h; done)
              rename_i u hu
              cases hb2 : u.size.beq y.size && (u.isAgg == y.isAgg) <;> simp only [hb2, cond_true, cond_false] at h <;> cases h
              rcases AV.namesL_set hn with h1 | h1
              · rw [AV.namesL_d] at h1; cases h1
              · exact .inr h1
            | cons _ _ => cases y <;> first | exact absurd rfl (hy _) | (simp only [AV.set] at h; cases h)
          | ix _ _ => cases y <;> first | exact absurd rfl (hy _) | (simp only [AV.set] at h; cases h)
        | _ => cases y <;> first | exact absurd rfl (hy _) | (simp only [AV.set] at h; cases h)
    | st fs =>
      cases st <;> simp only [AV.set] at h <;> try (cases h)
      rename_i i off
      cases hb : (AV.sizes (fs.take i)).beq off <;> simp only [hb, cond_true, cond_false] at h <;> try (cases h)
      split at h <;> try (cases h)
      rename_i u hu
      split at h <;> try (cases h)
      rename_i hset
      rcases AV.namesL_set hn with h1 | h1
      · exact .inl h1
      · rcases ih hset n h1 with h2 | h2
        · exact .inl (AV.namesL_mem hu h2)
        · exact .inr h2
    | _ => simp only [AV.set] at h; cases h

theorem run_storeVar {P : Program} {w : World} {b : Nat} {T T' : TypeId} {z : Nat × Nat} {pre old post : List Value} {v : Value} {agg : Bool}
    (h : w.heap[b]? = some (.cells (pre ++ old ++ post).toArray T' z)) (hz : unfrozen z (pre ++ old ++ post).length) (ht : tyOK P T v.cells.size agg = true) (hl : old.length = v.cells.size)
    (hc : ∀ u, u ∈ v.cells.toList → isCell u = true) :
    (storeVar T ⟨b, pre.length, none⟩ v).run P w = .ok () (World.lay w b (pre ++ v.cells.toList ++ post)) := by
  simp only [storeVar]
  rw [run_bind_ok (tyOK_size ht w)]
  rw [if_neg (by simp)]
  have := run_storeCells (P := P) (b := b) (T := T') (z := z) pre pre.length v.cells.toList old post [] w (by simpa using h) (by simpa using hz) rfl (by simpa using hl) hc
  simpa using this

theorem steps_skip {P : Program} {o : Oper} {S : St} {ws : List (Nat × AObj)}
    (h : ∀ (ρ : Nat → Option Nat) (X : Nat → Prop) (a : Act) (w : World), Sim S ρ X a w → ∃ w', (execOp a.eval o).run P w = .ok .skip w' ∧ ∃ ρ' X', Sim (S.upd o.dst .top ws) ρ' X' (a.put o.dst undef) w' ∧ Evo S (S.upd o.dst .top ws) ρ ρ' X X' w w') :
    StepsTo P o S (S.upd o.dst .top ws) := by
  intro ρ X a w hs
  obtain ⟨w', hv, hr⟩ := h ρ X a w hs
  unfold Does
  rw [hv]
  exact hr

theorem run_skip {P : Program} {s : Sem Unit} {w w' : World} (h : s.run P w = .ok () w') : (do s; pure Next.skip : Sem Next).run P w = .ok .skip w' := by
  rw [run_bind_ok h]; rfl

theorem aStore_sound {P : Program} {T : TypeId} {o : Oper} {x y : Operand} {S : St} {res : Res} {hp : Nat → Option AObj} (hle : ∀ n x, hp n = some x → S.hp n = some x) (ho : o.op = .store T x y) (h : aStore P T hp (S.ev x) (S.ev y) = some res) (hside : res.side) :
    StepsTo P o S (S.upd o.dst res.r res.ws) := by
  cases hx : S.ev x <;> rw [hx] at h <;> simp only [aStore] at h <;> try (cases h; done)
  rename_i n p
  generalize hv : S.ev y = v at h
  cases ht : tyOK P T v.size v.isAgg && v.plain <;> simp only [ht, cond_true, cond_false] at h <;> try (cases h; done)
  simp only [Bool.and_eq_true] at ht
  obtain ⟨ht, hpl⟩ := ht
  split at h
  · rename_i u hu
    have hu := hle _ _ hu
    split at h <;> cases h
    rename_i s z hset
    refine steps_skip fun ρ X a w hs => ?_
    have he := hs.ev x
    rw [hx] at he
    obtain ⟨b, hb0, hxv⟩ := repA_ptr he
    have hyv := hs.ev y
    rw [hv] at hyv
    obtain ⟨cs, hc1, hc2, hc3⟩ := repA_cells hpl hyv
    obtain ⟨b', os, T', z', h0, h1, h2, h3⟩ := hs.objs n _ hu
    rw [hb0] at h0; cases h0
    obtain ⟨pre, old, post, e1, e2, e3, e4⟩ := AV.set_rep hset hside h3
    have hcl : (a.eval y).cells.size = v.size := by rw [← Array.length_toList, hc3, hc1.length]
    have hrun := run_storeVar (P := P) (T := T) (agg := v.isAgg) (v := a.eval y) (by rw [← e1]; exact h1) (by rw [← e1]; exact h2) (by rw [hcl]; exact ht) (by rw [hcl]; exact e3)
      (by rw [hc3]; exact hc1.cell)
    rw [hc3] at hrun
    refine ⟨_, ?_, ρ, X, hs.lay hu rfl hb0 h1 (cs' := pre ++ cs ++ post) ?_ (fun Y g hh => ⟨b, _, T', z', hb0, hh, ?_, ?_⟩) (fun m hm => ?_) (fun _ _ => trivial) (fun m hm => by cases hm)⟩
    · simp only [execOp, ho]
      refine run_skip ?_
      simp only [Instr.storeAt, hxv, Instr.sureAddr]
      rw [← e2]
      exact hrun
    · rw [e1]; simp [e3, hc1.length]
    · have : (pre ++ cs ++ post).length = os.length := by rw [e1]; simp [e3, hc1.length]
      rw [this]; exact h2
    · exact (e4 cs hc1).mono g (fun _ _ => rfl)
    · rcases AV.set_names hset m hm with h | h
      · exact hs.closedH n _ hu m h
      · have := hs.evNames y m (by rw [hv]; exact h); exact this
  · rename_i e xs hu
    have hu := hle _ _ hu
    split at h <;> try (cases h; done)
    rename_i i e' d
    cases hb : e.beq e' && d.size.beq e <;> simp only [hb, cond_true, cond_false] at h <;> cases h
    simp only [Bool.and_eq_true] at hb
    have he' := Nat.eq_of_beq_eq_true hb.1
    have hde := Nat.eq_of_beq_eq_true hb.2
    subst he'
    refine steps_skip fun ρ X a w hs => ?_
    have he := hs.ev x
    rw [hx] at he
    obtain ⟨b, hb0, hxv⟩ := repA_ptr he
    have hyv := hs.ev y
    rw [hv] at hyv
    obtain ⟨cs, hc1, hc2, hc3⟩ := repA_cells hpl hyv
    have hcd : RepD X w d cs := by cases hc1 with | d h => exact h
    have hi : i < xs.length := hside
    rcases hs.objs n _ hu with ⟨_, h0⟩ | ⟨b', os, rest, T', z', h0, h1, h2, h3, h4⟩
    · rw [h0] at hi; cases hi
    rw [hb0] at h0; cases h0
    have hxi : xs[i]? = some (xs.getD i .nilp) := by
      rw [List.getD_eq_getElem?_getD, List.getElem?_eq_getElem hi]; rfl
    obtain ⟨pre, old, post, e1, e2, e3, e4⟩ := RepL.get h3 hxi
    have hol : old.length = e := by rw [e3.length]; exact h4 _ (List.mem_of_getElem? hxi)
    have hcl : (a.eval y).cells.size = (AV.d d).size := by rw [← Array.length_toList, hc3, hc1.length]
    have h1' : w.heap[b]? = some (.cells (pre ++ old ++ (post ++ rest)).toArray T' z') := by rw [h1, e1]; simp
    have h2' : unfrozen z' (pre ++ old ++ (post ++ rest)).length := by
      have : (pre ++ old ++ (post ++ rest)).length = (os ++ rest).length := by rw [e1]; simp
      rw [this]; exact h2
    have hrun := run_storeVar (P := P) (T := T) (agg := (AV.d d).isAgg) (v := a.eval y) h1' h2' (by rw [hcl]; exact ht) (by rw [hcl]; show old.length = d.size; omega) (by rw [hc3]; exact hc1.cell)
    have hcsl : cs.length = e := by rw [hcd.length]; exact hde
    rw [hc3] at hrun
    refine ⟨_, ?_, ρ, X, hs.lay hu rfl hb0 h1' (cs' := pre ++ cs ++ (post ++ rest)) ?_ (fun Y g hh => .inr ⟨b, pre ++ cs ++ post, rest, T', z', hb0, ?_, ?_, ?_, ?_⟩) (fun m hm => by cases hm) (fun _ _ => trivial) (fun m hm => by cases hm)⟩
    · simp only [execOp, ho]
      refine run_skip ?_
      simp only [Instr.storeAt, hxv, Instr.sureAddr]
      have : pOff [.ix i e] = pre.length := by
        rw [e2, D.sizes_const _ (fun y hy => h4 y (List.mem_of_mem_take hy)), List.length_take, Nat.min_eq_left (by omega)]; rfl
      rw [this]
      exact hrun
    · simp [hcsl, hol]
    · rw [hh]; simp
    · have : (pre ++ cs ++ post ++ rest).length = (os ++ rest).length := by rw [e1]; simp [hcsl, hol]
      rw [this]; exact h2
    · exact (e4 d cs hcd).mono g.ext g.off g.own
    · exact D.sizes_set h4 hde
  · cases h

/-! ### New variables -/

def aBox (nm : Nat) (v : AV) : Option Res := bif v.plain then some ⟨True, .ptr nm [], [(nm, .var v)]⟩ else none

theorem new_var {S : St} {ρ : Nat → Option Nat} {X : Nat → Prop} {a : Act} {w : World} (hs : Sim S ρ X a w) {nm : Nat} {x : AV} {cs : List Value} {T : TypeId} {dst : Option Tmp} (hf : S.hp nm = none)
    (hx : RepC ρ X w x cs) (hn : ∀ n, n ∈ x.names → S.hp n ≠ none) :
    ∃ ρ' X', Sim (S.upd dst (.ptr nm []) [(nm, .var x)]) ρ' X' (a.put dst (.pointer (some ⟨w.heap.size, 0, none⟩))) (w.alloc (.cells cs.toArray T)) ∧
      Evo S (S.upd dst (.ptr nm []) [(nm, .var x)]) ρ ρ' X X' w (w.alloc (.cells cs.toArray T)) := by
  refine hs.new hf (alloc_new w cs.toArray T (0, 0)) (fun ρ' X' g hρ hρn => ⟨w.heap.size, cs, T, (0, 0), hρn, ?_, .inl (Nat.le_refl _), hx.mono g (fun n h => hρ n (hn n h))⟩) hn (fun ρ' X' g hρ hρn => ?_) (fun n h => ?_)
  · exact (alloc_new w cs.toArray T (0, 0)).2
  · exact ⟨_, .ptr [] hρn, rfl⟩
  · simp [AV.names] at h; exact .inr h

theorem steps_new {P : Program} {o : Oper} {S : St} {nm : Nat} {x : AV}
    (h : ∀ (ρ : Nat → Option Nat) (X : Nat → Prop) (a : Act) (w : World), Sim S ρ X a w → ∃ cs T, RepC ρ X w x cs ∧ (∀ n, n ∈ x.names → S.hp n ≠ none) ∧
      (execOp a.eval o).run P w = .ok (.value (.pointer (some ⟨w.heap.size, 0, none⟩))) (w.alloc (.cells cs.toArray T))) (hf : S.hp nm = none) :
    StepsTo P o S (S.upd o.dst (.ptr nm []) [(nm, .var x)]) := by
  intro ρ X a w hs
  obtain ⟨cs, T, h1, h2, h3⟩ := h ρ X a w hs
  unfold Does
  rw [h3]
  exact new_var hs hf h1 h2

theorem aBox_sound {P : Program} {T : TypeId} {o : Oper} {x : Operand} {S : St} {res : Res} {nm : Nat} (ho : o.op = .box T x) (h : aBox nm (S.ev x) = some res) (hf : S.hp nm = none) :
    StepsTo P o S (S.upd o.dst res.r res.ws) := by
  unfold aBox at h
  cases hp : (S.ev x).plain <;> simp only [hp, cond_true, cond_false] at h <;> cases h
  refine steps_new (fun ρ X a w hs => ?_) hf
  obtain ⟨cs, h1, h2, h3⟩ := repA_cells hp (hs.ev x)
  refine ⟨cs, T, h1, hs.evNames x, ?_⟩
  simp only [execOp, ho]
  refine run_map ?_
  have : (a.eval x).cells = cs.toArray := by rw [← h3]
  simp only [Instr.box, newVar, newRow, this]
  rfl

/-- The zero of a type. -/
def D.zero (P : Program) : Nat → TypeId → D
  | 0, _ => .nilp
  | f + 1, T => match P.underlying T with
    | some (.int k) => .int k 0
    | some .bool => .bool false
    | some .string => .str .empty
    | some (.array n e) => .arr n (szOf P e) (List.replicate n (D.zero P f e))
    | some (.struct fields) => .st (fields.toList.map fun fd => D.zero P f fd.type)
    | some (.slice _) => .nils
    | some (.func _ _ _) => .nilf
    | some (.interface _) => .nili
    | _ => .nilp

mutual
def D.flat : D → List Value
  | .int k n => [.int k n]
  | .bool b => [.bool b]
  | .str s => [.string s]
  | .st fs => D.flats fs
  | .arr _ _ xs => D.flats xs
  | .sl _ => []
  | .nils => [.slice none 0 0]
  | .nilp => [.pointer none]
  | .nilf => [.nilFunc]
  | .nili => [.nilIface]
def D.flats : List D → List Value
  | [] => []
  | x :: xs => D.flat x ++ D.flats xs
end

mutual
def D.noSl : D → Bool
  | .sl _ => false
  | .st fs => D.noSls fs
  | .arr n e xs => xs.length.beq n && D.noSls xs && D.evens e xs
  | _ => true
def D.noSls : List D → Bool
  | [] => true
  | x :: xs => D.noSl x && D.noSls xs
def D.evens (e : Nat) : List D → Bool
  | [] => true
  | x :: xs => (D.size x).beq e && D.evens e xs
end

theorem D.evens_spec {e : Nat} : ∀ {xs : List D}, D.evens e xs = true → ∀ x, x ∈ xs → x.size = e
  | [], _, x, hx => by cases hx
  | y :: ys, h, x, hx => by
    simp only [D.evens, Bool.and_eq_true] at h
    rcases List.mem_cons.1 hx with rfl | hx
    · exact Nat.eq_of_beq_eq_true h.1
    · exact D.evens_spec h.2 x hx

mutual
theorem D.flat_rep {X : Nat → Prop} {w : World} : ∀ (x : D), x.noSl = true → RepD X w x x.flat
  | .int k n, _ => .int k n
  | .bool b, _ => .bool b
  | .str s, _ => .str s
  | .nils, _ => .nils
  | .nilp, _ => .nilp
  | .nilf, _ => .nilf
  | .nili, _ => .nili
  | .sl _, h => by cases h
  | .st fs, h => .st (D.flats_rep fs h)
  | .arr n e xs, h => by
    simp only [D.noSl, Bool.and_eq_true] at h
    exact .arr (Nat.eq_of_beq_eq_true h.1.1) (D.evens_spec h.2) (D.flats_rep xs h.1.2)
theorem D.flats_rep {X : Nat → Prop} {w : World} : ∀ (xs : List D), D.noSls xs = true → RepL X w xs (D.flats xs)
  | [], _ => .nil
  | x :: xs, h => by
    simp only [D.noSls, Bool.and_eq_true] at h
    exact .cons (D.flat_rep x h.1) (D.flats_rep xs h.2)
end

def zeq : Value → Value → Bool
  | .int k a, .int k' b => decide (k = k') && decide (a = b)
  | .bool a, .bool b => a == b
  | .string a, .string b => a.size.beq 0 && b.size.beq 0
  | .slice none 0 0, .slice none 0 0 => true
  | .pointer none, .pointer none => true
  | .nilFunc, .nilFunc => true
  | .nilIface, .nilIface => true
  | _, _ => false
def zeqs : List Value → List Value → Bool
  | [], [] => true
  | x :: xs, y :: ys => zeq x y && zeqs xs ys
  | _, _ => false

theorem zeq_eq {x y : Value} (h : zeq x y = true) : x = y := by
  unfold zeq at h
  split at h
  · simp at h; rw [h.1, h.2]
  · simp at h; rw [h]
  · rename_i a b
    simp only [Bool.and_eq_true] at h
    have h1 := Nat.eq_of_beq_eq_true h.1
    have h2 := Nat.eq_of_beq_eq_true h.2
    congr 1
    apply ByteArray.ext
    apply Array.ext
    · show a.size = b.size; omega
    · intro i hi; have : i < a.size := hi; omega
  · rfl
  · rfl
  · rfl
  · rfl
  · cases h

theorem zeqs_eq : ∀ {xs ys : List Value}, zeqs xs ys = true → xs = ys
  | [], [], _ => rfl
  | x :: xs, y :: ys, h => by
    simp only [zeqs, Bool.and_eq_true] at h
    rw [zeq_eq h.1, zeqs_eq h.2]
  | [], _ :: _, h => by cases h
  | _ :: _, [], h => by cases h

/-- The zero, held against the program's own. -/
def zeroD (P : Program) (T : TypeId) : Option D :=
  match (P.info? T).bind (·.zero) with
  | some v => bif zeqs v.cells.toList (D.zero P 8 T).flat && (D.zero P 8 T).noSl then some (D.zero P 8 T) else none
  | none => none

theorem zeroD_run {P : Program} {T : TypeId} {x : D} (h : zeroD P T = some x) (w : World) : ∃ v, (zeroValue T).run P w = .ok v w ∧ v.cells.toList = x.flat ∧ x.noSl = true := by
  unfold zeroD at h
  split at h <;> try (cases h; done)
  rename_i v hv
  cases hb : zeqs v.cells.toList (D.zero P 8 T).flat && (D.zero P 8 T).noSl <;> simp only [hb, cond_true, cond_false] at h <;> cases h
  simp only [Bool.and_eq_true] at hb
  refine ⟨v, ?_, zeqs_eq hb.1, hb.2⟩
  cases hi : P.info? T with
  | none => rw [hi] at hv; cases hv
  | some i =>
    rw [hi] at hv
    have hz : i.zero = some v := hv
    simp only [zeroValue, typeInfo, program]
    simp [Sem.run, Sem.run_bind, hi, hz]

def aAlloc (P : Program) (nm : Nat) (T : TypeId) : Option Res :=
  match zeroD P T with
  | some x => some ⟨True, .ptr nm [], [(nm, .var (.d x))]⟩
  | none => none

theorem aAlloc_sound {P : Program} {T : TypeId} {o : Oper} {S : St} {res : Res} {nm : Nat} (ho : o.op = .alloc T) (h : aAlloc P nm T = some res) (hf : S.hp nm = none) :
    StepsTo P o S (S.upd o.dst res.r res.ws) := by
  unfold aAlloc at h
  split at h <;> cases h
  rename_i x hx
  refine steps_new (fun ρ X a w hs => ?_) hf
  obtain ⟨v, h1, h2, h3⟩ := zeroD_run hx w
  refine ⟨x.flat, T, .d (D.flat_rep x h3), (fun n hn => by cases hn), ?_⟩
  simp only [execOp, ho]
  refine run_map ?_
  simp only [Instr.alloc]
  rw [run_bind_ok h1]
  have : v.cells = x.flat.toArray := by rw [← h2]
  simp only [newVar, newRow, this]
  rfl

end Go.Sym
