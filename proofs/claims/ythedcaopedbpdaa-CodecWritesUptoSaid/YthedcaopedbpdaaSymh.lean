/-
What an operation that calls nothing does to what a frame holds, fifth part: addresses, parts, cuts of slices, small things.
-/
import Derived.Test.YthedcaopedbpdaaSymg
namespace Go.Sym

def fldOf (P : Program) (T : TypeId) (f : Nat) : Option (Nat × TypeId) :=
  match P.underlying T with
  | some (.struct fields) => match fields[f]? with
    | some fd => some (fd.offset, fd.type)
    | none => none
  | _ => none

theorem szOf_run {P : Program} {T : TypeId} (h : szOf P T ≠ 0) (w : World) : (sizeOf T).run P w = .ok (szOf P T) w := by
  unfold szOf at *
  cases hi : P.info? T with
  | none => rw [hi] at h; exact absurd rfl h
  | some i =>
    simp only [sizeOf, typeInfo, program]
    simp [Sem.run, Sem.run_bind, hi]

theorem fldOf_spec {P : Program} {T : TypeId} {f off : Nat} {ft : TypeId} (h : fldOf P T f = some (off, ft)) :
    ∃ fields fd, P.underlying T = some (.struct fields) ∧ fields[f]? = some fd ∧ fd.offset = off ∧ fd.type = ft := by
  unfold fldOf at h
  split at h <;> try (cases h; done)
  rename_i fields hu
  split at h <;> cases h
  rename_i fd hf
  exact ⟨fields, fd, hu, hf, rfl, rfl⟩

def aFieldAddr (P : Program) (T : TypeId) (f : Nat) (x : AV) : Option Res :=
  match fldOf P T f with
  | some (off, ft) => bif (szOf P ft).beq 0 then none else match x with
    | .ptr o p => some ⟨True, .ptr o (p ++ [.fld f off]), []⟩
    | .dptr x => match D.nav x [.fld f off] with
      | some (s, y) => some ⟨s, .dptr y, []⟩
      | none => none
    | _ => none
  | none => none

theorem RowAt.part {w : World} {b q : Nat} {pre c post : List Value} (h : RowAt w b q (pre ++ c ++ post)) : RowAt w b (q + pre.length) c := by
  intro i v hv
  have hi : i < c.length := (List.getElem?_eq_some_iff.1 hv).1
  have := h (pre.length + i) v (by
    rw [List.append_assoc, List.getElem?_append_right (by omega), List.getElem?_append_left (by omega)]
    have : pre.length + i - pre.length = i := by omega
    rw [this, hv])
  rw [← this]; congr 2; omega

theorem aFieldAddr_sound {P : Program} {T : TypeId} {f : Nat} {o : Oper} {x : Operand} {S : St} {res : Res} (ho : o.op = .fieldAddr T x f) (h : aFieldAddr P T f (S.ev x) = some res) (hside : res.side) :
    StepsTo P o S (S.upd o.dst res.r res.ws) := by
  unfold aFieldAddr at h
  split at h <;> try (cases h; done)
  rename_i off ft hfo
  obtain ⟨fields, fd, hu, hf, rfl, rfl⟩ := fldOf_spec hfo
  cases hz : (szOf P fd.type).beq 0 <;> simp only [hz, cond_true, cond_false] at h <;> try (cases h; done)
  have hne : szOf P fd.type ≠ 0 := fun e => by rw [e] at hz; cases hz
  have run : ∀ (w : World) (b q : Nat) (ev : Operand → Value), ev x = .pointer (some ⟨b, q, none⟩) → (execOp ev o).run P w = .ok (.value (.pointer (some ⟨b, q + fd.offset, none⟩))) w := fun w b q ev hev => by
    simp only [execOp, ho]
    refine run_map ?_
    simp only [Instr.fieldAt]
    rw [run_bind_ok (run_underlying hu w)]
    simp only [hf, hev, Instr.sureAddr]
    rw [run_bind_ok (run_pure _ w)]
    simp only [fieldPlace, bind_assoc]
    rw [run_bind_ok (szOf_run hne w), if_neg hne, addr_add]
    rfl
  split at h
  · rename_i n p hx
    cases h
    refine steps_value fun ρ X a w hs => ?_
    have he := hs.ev x
    have hnm := hs.evNames x
    rw [hx] at he hnm
    obtain ⟨b, hb0, hv⟩ := repA_ptr he
    refine ⟨_, run w b (pOff p) a.eval hv, ?_, fun m hm => hnm m hm⟩
    have := RepC.ptr (ρ := ρ) (X := X) (w := w) (p ++ [.fld f fd.offset]) hb0
    rw [pOff_append] at this
    exact repA_of_c this
  · rename_i y hx
    split at h <;> cases h
    rename_i s z hn
    refine steps_value fun ρ X a w hs => ?_
    have he := hs.ev x
    rw [hx] at he
    obtain ⟨b, q, cs, hv, h1, h2, h3, h4⟩ := repA_dptr he
    obtain ⟨pre, c, post, e1, e2, e3⟩ := D.nav_rep hn hside h4
    refine ⟨_, run w b q a.eval hv, ?_, fun m hm => by cases hm⟩
    rw [e1] at h3
    have h5 := h3.part
    rw [e2] at h5
    exact repA_of_c (.dptr h1 h2 h5 e3)
  · cases h

theorem run_part {P : Program} {T : TypeId} {w : World} {pre c post : List Value} {agg : Bool} {off : Nat} (h : tyOK P T c.length agg = true) (hp : pre.length = off) (h1 : agg = false → c.length = 1) :
    (part T (pre ++ c ++ post).toArray off).run P w = .ok (wrapV agg c) w := by
  simp only [part]
  rw [run_bind_ok (tyOK_agg h w)]
  cases agg with
  | true =>
    simp only [if_true]
    rw [run_bind_ok (tyOK_size h w)]
    simp only [run_pure, wrapV, if_true]
    congr 2
    apply Array.ext'
    rw [Array.toList_extract]
    simp only [List.extract_eq_take_drop]
    rw [← hp, List.append_assoc, List.drop_append_of_le_length (by omega), List.drop_length, List.nil_append]
    have : pre.length + c.length - pre.length = c.length := by omega
    rw [this, List.take_append_of_le_length (by omega), List.take_length]
  | false =>
    obtain ⟨v, rfl⟩ := List.length_eq_one_iff.1 (h1 rfl)
    simp only [Bool.false_eq_true, if_false, List.getElem?_toArray]
    rw [List.append_assoc, List.getElem?_append_right (by omega)]
    have : off - pre.length = 0 := by omega
    rw [this]
    simp [wrapV]

def aField (P : Program) (T : TypeId) (f : Nat) (x : AV) : Option Res :=
  match fldOf P T f with
  | some (off, ft) => match x.isAgg, AV.nav x [.fld f off] with
    | true, some (s, y) => bif tyOK P ft y.size y.isAgg then some ⟨s, y, []⟩ else none
    | _, _ => none
  | none => none

theorem repA_agg {ρ : Nat → Option Nat} {X : Nat → Prop} {w : World} {x : AV} {v : Value} (h : RepA ρ X w x v) (ha : x.isAgg = true) : ∃ cs, RepC ρ X w x cs ∧ v = .agg cs.toArray := by
  have key : RepA1 ρ X w x v := by cases x <;> first | exact h | cases ha
  obtain ⟨cs, h1, h2⟩ := key
  exact ⟨cs, h1, by rw [h2, ha]; rfl⟩

theorem aField_sound {P : Program} {T : TypeId} {f : Nat} {o : Oper} {x : Operand} {S : St} {res : Res} (ho : o.op = .field T x f) (h : aField P T f (S.ev x) = some res) (hside : res.side) :
    StepsTo P o S (S.upd o.dst res.r res.ws) := by
  unfold aField at h
  split at h <;> try (cases h; done)
  rename_i off ft hfo
  obtain ⟨fields, fd, hu, hf, rfl, rfl⟩ := fldOf_spec hfo
  split at h <;> try (cases h; done)
  rename_i s y ha hn
  cases ht : tyOK P fd.type y.size y.isAgg <;> simp only [ht, cond_true, cond_false] at h <;> cases h
  refine steps_value fun ρ X a w hs => ?_
  obtain ⟨cs, h1, h2⟩ := repA_agg (hs.ev x) ha
  obtain ⟨pre, c, post, e1, e2, e3⟩ := AV.nav_rep hn hside h1
  refine ⟨wrapV y.isAgg c, ?_, repA_of_c e3, fun m hm => hs.evNames x m (AV.nav_names hn m hm)⟩
  simp only [execOp, ho]
  refine run_map ?_
  simp only [Instr.field]
  rw [run_bind_ok (run_underlying hu w)]
  simp only [hf, h2, asAgg]
  rw [run_bind_ok (run_pure _ w), e1]
  refine run_part (by rw [e3.length]; exact ht) ?_ (fun hag => notAgg_size e3 hag)
  rw [e2]; rfl

/-! ### Elements -/

def aIndexAddr (P : Program) (T : TypeId) (x : AV) (i : AV) : Option Res :=
  match i with
  | .d (.int _ i) => match P.underlying T with
    | some (.slice el) => match x with
      | .d (.sl xs) => let y := xs.getD i.toNat .nilp
        bif (szOf P el).beq (D.ty P 8 el y).size && !(szOf P el).beq 0 then some ⟨((0 ≤ i ∧ i < xs.length) ∧ y = D.ty P 8 el y), .dptr (D.ty P 8 el y), []⟩ else none
      | .sl o p e off len => bif (szOf P el).beq e && !e.beq 0 then some ⟨0 ≤ i ∧ i < len, .ptr o (p ++ [.ix (off + i.toNat) e]), []⟩ else none
      | _ => none
    | some (.array n el) => match x with
      | .ptr o p => bif (szOf P el).beq 0 then none else some ⟨0 ≤ i ∧ i < n, .ptr o (p ++ [.ix i.toNat (szOf P el)]), []⟩
      | .dptr (.arr m e xs) => let y := xs.getD i.toNat .nilp
        bif (szOf P el).beq (D.ty P 8 el y).size && !(szOf P el).beq 0 && (szOf P el).beq e && m.beq n then some ⟨((0 ≤ i ∧ i < n) ∧ y = D.ty P 8 el y), .dptr (D.ty P 8 el y), []⟩ else none
      | _ => none
    | _ => none
  | _ => none

theorem repA_sl {ρ : Nat → Option Nat} {X : Nat → Prop} {w : World} {o e off len : Nat} {p : List Stp} {v : Value} (h : RepA ρ X w (.sl o p e off len) v) :
    (ρ o = none ∧ len = 0 ∧ v = .slice none 0 0) ∨
    ∃ b cap q c T z, ρ o = some b ∧ v = .slice (some ⟨b, q, none⟩) len cap ∧ w.heap[b]? = some (.cells c T z) ∧ pOff p + (off + cap) * e ≤ c.size ∧ len ≤ cap ∧ (cap = 0 ∨ q = pOff p + off * e) := by
  obtain ⟨cs, h1, h2⟩ := h
  cases h1 with
  | slnil h => exact .inl ⟨h, rfl, h2⟩
  | sl h a b c d => exact .inr ⟨_, _, _, _, _, _, h, h2, a, b, c, d⟩

theorem aIndexAddr_sound {P : Program} {T : TypeId} {o : Oper} {x ix : Operand} {S : St} {res : Res} (ho : o.op = .indexAddr T x ix) (h : aIndexAddr P T (S.ev x) (S.ev ix) = some res) (hside : res.side) :
    StepsTo P o S (S.upd o.dst res.r res.ws) := by
  unfold aIndexAddr at h
  split at h <;> try (cases h; done)
  rename_i k i hi
  have inb : ∀ {l : List D}, 0 ≤ i → i < l.length → l[i.toNat]? = some (l.getD i.toNat .nilp) := fun h0 h1 => by
    rw [List.getD_eq_getElem?_getD, List.getElem?_eq_getElem (by omega)]; rfl
  split at h <;> try (cases h; done)
  · rename_i el hu
    have run : ∀ (w : World) (b q len cap : Nat) (ev : Operand → Value), szOf P el ≠ 0 → 0 ≤ i → i < len → ev ix = .int k i → ev x = .slice (some ⟨b, q, none⟩) len cap →
        (execOp ev o).run P w = .ok (.value (.pointer (some ⟨b, q + i.toNat * szOf P el, none⟩))) w := fun w b q len cap ev hz h0 h1 hev hex => by
      simp only [execOp, ho]
      refine run_map ?_
      simp only [Instr.indexAt, hev, hex, asIntOf]
      rw [run_bind_ok (run_pure _ w)]
      dsimp only
      rw [run_bind_ok (run_underlying hu w)]
      simp only []
      rw [run_bind_ok (run_pure _ w)]
      dsimp only
      rw [run_bind_ok (run_underlying hu w)]
      dsimp only
      rw [if_pos ⟨h0, h1⟩, run_bind_ok (szOf_run hz w), addr_add]
      rfl
    split at h <;> try (cases h; done)
    · rename_i xs hx
      generalize hy : xs.getD i.toNat .nilp = y at h
      simp only at h
      cases hb : (szOf P el).beq (D.ty P 8 el y).size && !(szOf P el).beq 0 <;> simp only [hb, cond_true, cond_false] at h <;> cases h
      simp only [Bool.and_eq_true, Bool.not_eq_true'] at hb
      obtain ⟨⟨h0, h1⟩, hty⟩ := hside
      have hsz := Nat.eq_of_beq_eq_true hb.1
      have hne : szOf P el ≠ 0 := fun e => by rw [e] at hb; cases hb.2
      refine steps_value fun ρ X a w hs => ?_
      have he := hs.ev x
      rw [hx] at he
      have hei := hs.ev ix
      rw [hi] at hei
      obtain ⟨cs, hc1, hc2⟩ := repA_d he
      rw [← hty] at hsz ⊢
      have hel : xs[i.toNat]? = some y := by rw [← hy]; exact inb h0 h1
      cases hc1 with
      | slnil => simp at hel
      | sl a1 a2 a3 a4 a5 a6 =>
        rename_i b q cap e cs
        have hes : e = szOf P el := by rw [hsz]; exact (a3 y (List.mem_of_getElem? hel)).symm
        subst hes
        obtain ⟨pre, c, post, e1, e2, e3, _⟩ := RepL.get a6 hel
        refine ⟨_, run w b q xs.length cap a.eval hne h0 (by simpa using h1) (repA_int hei) hc2, ?_, fun m hm => by cases hm⟩
        rw [e1] at a5
        have h5 := a5.part
        rw [e2, D.sizes_const _ (fun y hy => a3 y (List.mem_of_mem_take hy)), List.length_take, Nat.min_eq_left (by have := (List.getElem?_eq_some_iff.1 hel).1; omega)] at h5
        exact repA_of_c (.dptr a1 a2 h5 e3)
    · rename_i n p e off len hx
      cases hb : (szOf P el).beq e && !e.beq 0 <;> simp only [hb, cond_true, cond_false] at h <;> cases h
      simp only [Bool.and_eq_true, Bool.not_eq_true'] at hb
      have hsz := Nat.eq_of_beq_eq_true hb.1
      have hne : e ≠ 0 := fun e' => by rw [e'] at hb; cases hb.2
      obtain ⟨h0, h1⟩ := hside
      refine steps_value fun ρ X a w hs => ?_
      have he := hs.ev x
      have hnm := hs.evNames x
      rw [hx] at he hnm
      have hei := hs.ev ix
      rw [hi] at hei
      rcases repA_sl he with ⟨_, g0, _⟩ | ⟨b, cap, q, c, T', z, g0, g1, g2, g3, g4, g5⟩
      · omega
      have hq : q = pOff p + off * e := by
        rcases g5 with g5 | g5
        · omega
        · exact g5
      refine ⟨_, run w b q len cap a.eval (by rw [hsz]; exact hne) h0 (by simpa using h1) (repA_int hei) g1, ?_, fun m hm => hnm m hm⟩
      have := RepC.ptr (ρ := ρ) (X := X) (w := w) (p ++ [.ix (off + i.toNat) e]) g0
      rw [pOff_append] at this
      have hoff : pOff p + pOff [Stp.ix (off + i.toNat) e] = q + i.toNat * szOf P el := by
        rw [hq, hsz]; show pOff p + ((off + i.toNat) * e + 0) = _; rw [Nat.add_mul]; omega
      rw [hoff] at this
      exact repA_of_c this
  · rename_i n el hu
    have run : ∀ (w : World) (b q : Nat) (ev : Operand → Value), szOf P el ≠ 0 → 0 ≤ i → i < n → ev ix = .int k i → ev x = .pointer (some ⟨b, q, none⟩) →
        (execOp ev o).run P w = .ok (.value (.pointer (some ⟨b, q + i.toNat * szOf P el, none⟩))) w := fun w b q ev hz h0 h1 hev hex => by
      simp only [execOp, ho]
      refine run_map ?_
      simp only [Instr.indexAt, hev, hex, asIntOf]
      rw [run_bind_ok (run_pure _ w)]
      dsimp only
      rw [run_bind_ok (run_underlying hu w)]
      simp only [Instr.sureAddr]
      rw [run_bind_ok (run_pure _ w), run_bind_ok (run_pure _ w)]
      dsimp only
      rw [run_bind_ok (run_underlying hu w)]
      dsimp only
      rw [if_pos ⟨h0, h1⟩, run_bind_ok (szOf_run hz w), addr_add]
      rfl
    split at h <;> try (cases h; done)
    · rename_i m p hx
      cases hb : (szOf P el).beq 0 <;> simp only [hb, cond_true, cond_false] at h <;> cases h
      have hne : szOf P el ≠ 0 := fun e => by rw [e] at hb; cases hb
      obtain ⟨h0, h1⟩ := hside
      refine steps_value fun ρ X a w hs => ?_
      have he := hs.ev x
      have hnm := hs.evNames x
      rw [hx] at he hnm
      have hei := hs.ev ix
      rw [hi] at hei
      obtain ⟨b, hb0, hv⟩ := repA_ptr he
      refine ⟨_, run w b (pOff p) a.eval hne h0 h1 (repA_int hei) hv, ?_, fun m hm => hnm m hm⟩
      have := RepC.ptr (ρ := ρ) (X := X) (w := w) (p ++ [.ix i.toNat (szOf P el)]) hb0
      rw [pOff_append] at this
      exact repA_of_c this
    · rename_i m e xs hx
      generalize hy : xs.getD i.toNat .nilp = y at h
      simp only at h
      cases hb : (szOf P el).beq (D.ty P 8 el y).size && !(szOf P el).beq 0 && (szOf P el).beq e && m.beq n <;> simp only [hb, cond_true, cond_false] at h <;> cases h
      simp only [Bool.and_eq_true, Bool.not_eq_true'] at hb
      obtain ⟨⟨⟨hb1, hb2⟩, hb3⟩, hb4⟩ := hb
      obtain ⟨⟨h0, h1⟩, hty⟩ := hside
      have hsz := Nat.eq_of_beq_eq_true hb1
      have hne : szOf P el ≠ 0 := fun e => by rw [e] at hb2; cases hb2
      have hes := Nat.eq_of_beq_eq_true hb3
      have hmn := Nat.eq_of_beq_eq_true hb4
      subst hes; subst hmn
      refine steps_value fun ρ X a w hs => ?_
      have he := hs.ev x
      rw [hx] at he
      have hei := hs.ev ix
      rw [hi] at hei
      obtain ⟨b, q, cs, hv, g1, g2, g3, g4⟩ := repA_dptr he
      rw [← hty] at hsz ⊢
      cases g4 with
      | arr a1 a2 a3 =>
        have hel : xs[i.toNat]? = some y := by rw [← hy]; exact inb h0 (by omega)
        obtain ⟨pre, c, post, e1, e2, e3, _⟩ := RepL.get a3 hel
        refine ⟨_, run w b q a.eval hne h0 h1 (repA_int hei) hv, ?_, fun m hm => by cases hm⟩
        rw [e1] at g3
        have h5 := g3.part
        rw [e2, D.sizes_const _ (fun y hy => a2 y (List.mem_of_mem_take hy)), List.length_take, Nat.min_eq_left (by omega)] at h5
        exact repA_of_c (.dptr g1 g2 h5 e3)

end Go.Sym
