/-
What an operation that calls nothing does to what a frame holds, sixth part: elements of values, cuts, lengths, conversions, small things.
-/
import Derived.Test.YthedcaopedbpdaaSymh
namespace Go.Sym

def aIndex (P : Program) (T : TypeId) (x : AV) (i : AV) : Option Res :=
  match x, i with
  | .d (.arr n e xs), .d (.int _ i) => match P.underlying T with
    | some (.array m el) => let y := xs.getD i.toNat .nilp
      bif m.beq n && (szOf P el).beq e && !(szOf P el).beq 0 && tyOK P el (D.ty P 8 el y).size (D.ty P 8 el y).isAgg then some ⟨((0 ≤ i ∧ i < n) ∧ y = D.ty P 8 el y), .d (D.ty P 8 el y), []⟩ else none
    | _ => none
  | .d (.str s), .d (.int _ i) => match P.underlying T with
    | some .string => some ⟨0 ≤ i ∧ i < s.size, .d (.int .u8 (s.data.toList.getD i.toNat 0).toNat), []⟩
    | _ => none
  | _, _ => none

theorem aIndex_sound {P : Program} {T : TypeId} {o : Oper} {x ix : Operand} {S : St} {res : Res} (ho : o.op = .index T x ix) (h : aIndex P T (S.ev x) (S.ev ix) = some res) (hside : res.side) :
    StepsTo P o S (S.upd o.dst res.r res.ws) := by
  unfold aIndex at h
  split at h <;> try (cases h; done)
  · rename_i n e xs k i hx hi
    split at h <;> try (cases h; done)
    rename_i m el hu
    generalize hy : xs.getD i.toNat .nilp = y at h
    simp only at h
    cases hb : m.beq n && (szOf P el).beq e && !(szOf P el).beq 0 && tyOK P el (D.ty P 8 el y).size (D.ty P 8 el y).isAgg <;> simp only [hb, cond_true, cond_false] at h <;> cases h
    simp only [Bool.and_eq_true, Bool.not_eq_true'] at hb
    obtain ⟨⟨⟨hb1, hb2⟩, hb3⟩, hb4⟩ := hb
    have hmn := Nat.eq_of_beq_eq_true hb1
    have hes := Nat.eq_of_beq_eq_true hb2
    have hne : szOf P el ≠ 0 := fun e => by rw [e] at hb3; cases hb3
    subst hmn; subst hes
    obtain ⟨⟨h0, h1⟩, hty⟩ := hside
    rw [← hty] at hb4 ⊢
    refine steps_value fun ρ X a w hs => ?_
    have he := hs.ev x
    rw [hx] at he
    have hei := hs.ev ix
    rw [hi] at hei
    obtain ⟨cs, g1, g2⟩ := repA_d he
    cases g1 with
    | arr a1 a2 a3 =>
      have hel : xs[i.toNat]? = some y := by rw [← hy, List.getD_eq_getElem?_getD, List.getElem?_eq_getElem (by omega)]; rfl
      obtain ⟨pre, c, post, e1, e2, e3, _⟩ := RepL.get a3 hel
      refine ⟨wrapV y.isAgg c, ?_, repA_mk e3, fun m hm => by cases hm⟩
      simp only [execOp, ho]
      refine run_map ?_
      simp only [Instr.index, repA_int hei, g2, asIntOf, wrapV, D.isAgg, if_true]
      rw [run_bind_ok (run_pure _ w)]
      dsimp only
      rw [run_bind_ok (run_underlying hu w)]
      dsimp only
      rw [if_pos ⟨h0, h1⟩, run_bind_ok (szOf_run hne w), e1]
      refine run_part (by rw [e3.length]; exact hb4) ?_ (fun hag => notAgg_size (ρ := ρ) (.d e3) hag)
      rw [e2, D.sizes_const _ (fun y hy => a2 y (List.mem_of_mem_take hy)), List.length_take, Nat.min_eq_left (by omega)]
  · rename_i s k i hx hi
    split at h <;> cases h
    rename_i hu
    obtain ⟨h0, h1⟩ := hside
    refine steps_value fun ρ X a w hs => ?_
    have he := hs.ev x
    rw [hx] at he
    have hei := hs.ev ix
    rw [hi] at hei
    have hlt : i.toNat < s.size := by omega
    refine ⟨.int .u8 (s[i.toNat]'hlt).toNat, ?_, ?_, fun m hm => by cases hm⟩
    · simp only [execOp, ho]
      refine run_map ?_
      simp only [Instr.index, repA_int hei, repA_str he, asIntOf]
      rw [run_bind_ok (run_pure _ w)]
      dsimp only
      rw [run_bind_ok (run_underlying hu w)]
      dsimp only
      rw [if_pos h0, getElem?_pos s i.toNat hlt]
      rfl
    · have : s.data.toList.getD i.toNat 0 = s[i.toNat]'hlt := by
        rw [List.getD_eq_getElem?_getD, List.getElem?_eq_getElem (by simpa using hlt)]
        simp; rfl
      rw [this]
      exact ⟨_, .d (.int _ _), rfl⟩

/-! ### Cuts -/

def loOf : Option AV → Option Int
  | none => some 0
  | some (.d (.int _ i)) => some i
  | _ => none
def hiOf (n : Nat) : Option AV → Option Int
  | none => some n
  | some (.d (.int _ i)) => some i
  | _ => none

def cutD (xs : List D) (lo hi : Int) : List D := (xs.take hi.toNat).drop lo.toNat

def aSlice (P : Program) (T : TypeId) (hp : Nat → Option AObj) (x : AV) (lo hi : Option AV) : Option Res :=
  match P.underlying T with
  | some (.slice el) => bif (szOf P el).beq 0 then none else match x with
    | .d (.sl xs) => match loOf lo, hiOf xs.length hi with
      | some l, some h => bif (xs.isEmpty || (szOf P el).beq (xs.headD .nilp).size) then some ⟨0 ≤ l ∧ l ≤ h ∧ h ≤ xs.length, .d (.sl (cutD xs l h)), []⟩
        else some ⟨(0 ≤ l ∧ l ≤ h ∧ h ≤ xs.length) ∧ ∀ y, y ∈ xs → y.size = szOf P el, .d (.sl (cutD xs l h)), []⟩
      | _, _ => none
    | .sl o p e off len => match loOf lo, hiOf len hi with
      | some l, some h => bif (szOf P el).beq e then some ⟨0 ≤ l ∧ l ≤ h ∧ h ≤ len, .sl o p e (off + l.toNat) (h.toNat - l.toNat), []⟩ else none
      | _, _ => none
    | _ => none
  | some (.array n el) => bif (szOf P el).beq 0 then none else match x with
    | .ptr o p => match loOf lo, hiOf n hi, hp o with
      | some l, some h, some (.var u) => match AV.nav u p with
        | some (s, .d (.arr m e _)) => bif m.beq n && (szOf P el).beq e then some ⟨(0 ≤ l ∧ l ≤ h ∧ h ≤ n) ∧ s, .sl o p e l.toNat (h.toNat - l.toNat), []⟩ else none
        | _ => none
      | _, _, _ => none
    | .dptr (.arr m e xs) => match loOf lo, hiOf n hi with
      | some l, some h => bif m.beq n && (szOf P el).beq e then some ⟨0 ≤ l ∧ l ≤ h ∧ h ≤ n, .d (.sl (cutD xs l h)), []⟩ else none
      | _, _ => none
    | _ => none
  | some .string => match x with
    | .d (.str s) => match loOf lo, hiOf s.size hi with
      | some l, some h => some ⟨0 ≤ l ∧ l ≤ h ∧ h ≤ s.size, .d (.str (s.extract l.toNat h.toNat)), []⟩
      | _, _ => none
    | _ => none
  | _ => none

theorem loOf_rep {lo : Option Operand} {S : St} {ρ : Nat → Option Nat} {X : Nat → Prop} {a : Act} {w : World} (hs : Sim S ρ X a w) {l : Int} (h : loOf (lo.map S.ev) = some l) :
    (lo.map a.eval = none ∧ l = 0) ∨ ∃ k, lo.map a.eval = some (.int k l) := by
  cases lo with
  | none => simp only [Option.map_none, loOf, Option.some.injEq] at h; exact .inl ⟨rfl, h.symm⟩
  | some x =>
    simp only [Option.map_some] at h ⊢
    generalize hx : S.ev x = y at h
    unfold loOf at h
    split at h <;> cases h
    · rename_i h'; cases h'
    · rename_i k h'
      have := hs.ev x
      cases h'
      rw [hx] at this
      exact .inr ⟨k, by rw [repA_int this]⟩

theorem hiOf_rep {n : Nat} {hi : Option Operand} {S : St} {ρ : Nat → Option Nat} {X : Nat → Prop} {a : Act} {w : World} (hs : Sim S ρ X a w) {l : Int} (h : hiOf n (hi.map S.ev) = some l) :
    (hi.map a.eval = none ∧ l = n) ∨ ∃ k, hi.map a.eval = some (.int k l) := by
  cases hi with
  | none => simp only [Option.map_none, hiOf, Option.some.injEq] at h; exact .inl ⟨rfl, h.symm⟩
  | some x =>
    simp only [Option.map_some] at h ⊢
    generalize hx : S.ev x = y at h
    unfold hiOf at h
    split at h <;> cases h
    · rename_i h'; cases h'
    · rename_i k h'
      have := hs.ev x
      cases h'
      rw [hx] at this
      exact .inr ⟨k, by rw [repA_int this]⟩

theorem run_sliceBounds {P : Program} {b : Bool} {len cap : Nat} {lo hi : Option Value} {l h : Int} (w : World) (hl : lo = none ∧ l = 0 ∨ ∃ k, lo = some (.int k l)) (hh : hi = none ∧ h = len ∨ ∃ k, hi = some (.int k h))
    (h0 : 0 ≤ l) (h1 : l ≤ h) (h2 : h ≤ cap) : (Instr.sliceBounds b len cap lo hi none).run P w = .ok (l.toNat, h.toNat, cap) w := by
  have bd : ∀ (k : IntKind) (i : Int) (y : Nat) (c : BoundsCode), 0 ≤ i → i ≤ y → (Instr.sliceBound (.int k i) y c).run P w = .ok i.toNat w := fun k i y c h0 h1 => by
    simp only [Instr.sliceBound, asIntOf]
    rw [run_bind_ok (run_pure _ w)]
    dsimp only
    rw [if_pos ⟨h0, h1⟩]; rfl
  simp only [Instr.sliceBounds]
  rw [run_bind_ok (run_pure cap w)]
  rcases hh with ⟨rfl, rfl⟩ | ⟨k, rfl⟩
  · rw [run_bind_ok (run_pure len w)]
    rcases hl with ⟨rfl, rfl⟩ | ⟨k', rfl⟩
    · rw [run_bind_ok (run_pure 0 w)]; rfl
    · rw [run_bind_ok (bd k' l len _ h0 h1)]; rfl
  · dsimp only
    rw [run_bind_ok (bd k h cap _ (by omega) h2)]
    rcases hl with ⟨rfl, rfl⟩ | ⟨k', rfl⟩
    · rw [run_bind_ok (run_pure 0 w)]; rfl
    · rw [run_bind_ok (bd k' l h.toNat _ h0 (by omega))]; rfl

theorem RepL.cut {X : Nat → Prop} {w : World} {xs : List D} {cs : List Value} {e : Nat} (h : RepL X w xs cs) (he : ∀ x, x ∈ xs → x.size = e) {l k : Nat} (h1 : l ≤ k) (h2 : k ≤ xs.length) :
    ∃ pre c post, cs = pre ++ c ++ post ∧ pre.length = l * e ∧ RepL X w ((xs.take k).drop l) c ∧ (∀ x, x ∈ (xs.take k).drop l → x.size = e) ∧ ((xs.take k).drop l).length = k - l := by
  have hsp : xs = (xs.take k).take l ++ ((xs.take k).drop l ++ xs.drop k) := by
    rw [← List.append_assoc, List.take_append_drop, List.take_append_drop]
  have h' := h
  rw [hsp] at h'
  obtain ⟨pre, r, rfl, g1, g2⟩ := RepL.split h'
  obtain ⟨c, post, rfl, g3, g4⟩ := RepL.split g2
  refine ⟨pre, c, post, by simp, ?_, g3, fun x hx => he x (List.mem_of_mem_take (List.mem_of_mem_drop hx)), by simp; omega⟩
  rw [g1.length, D.sizes_const _ (fun x hx => he x (List.mem_of_mem_take (List.mem_of_mem_take hx))), List.length_take, List.length_take]
  congr 1
  omega

theorem aSlice_sound {P : Program} {T : TypeId} {o : Oper} {x : Operand} {lo hi : Option Operand} {S : St} {res : Res} {hp : Nat → Option AObj} (hle : ∀ n x, hp n = some x → S.hp n = some x) (ho : o.op = .slice T x lo hi none)
    (h : aSlice P T hp (S.ev x) (lo.map S.ev) (hi.map S.ev) = some res) (hside : res.side) : StepsTo P o S (S.upd o.dst res.r res.ws) := by
  unfold aSlice at h
  split at h <;> try (cases h; done)
  · rename_i el hu
    cases hz : (szOf P el).beq 0 <;> simp only [hz, cond_true, cond_false] at h <;> try (cases h; done)
    have hne : szOf P el ≠ 0 := fun e => by rw [e] at hz; cases hz
    have run : ∀ (w : World) (ev : Operand → Value) (base : Option Addr) (len cap : Nat) (l k : Int), ev x = .slice base len cap → (lo.map ev = none ∧ l = 0 ∨ ∃ k, lo.map ev = some (.int k l)) →
        (hi.map ev = none ∧ k = len ∨ ∃ j, hi.map ev = some (.int j k)) → 0 ≤ l → l ≤ k → k ≤ cap →
        (execOp ev o).run P w = .ok (.value (.slice (if cap = l.toNat then base else base.map (·.add (l.toNat * szOf P el))) (k.toNat - l.toNat) (cap - l.toNat))) w := by
      intro w ev base len cap l k hx hl hk h0 h1 h2
      simp only [execOp, ho]
      refine run_map ?_
      simp only [Instr.sliceAt]
      rw [run_bind_ok (run_underlying hu w)]
      dsimp only
      simp only [Instr.slice, hx, Option.map_none]
      rw [run_bind_ok (run_underlying hu w)]
      dsimp only
      rw [run_bind_ok (run_sliceBounds w hl hk h0 h1 h2)]
      dsimp only
      rw [run_bind_ok (szOf_run hne w)]
      rfl
    split at h <;> try (cases h; done)
    · rename_i xs hx
      split at h <;> try (cases h; done)
      rename_i l k hl hk
      have hall : (0 ≤ l ∧ l ≤ k ∧ k ≤ xs.length) ∧ res.r = .d (.sl (cutD xs l k)) ∧ res.ws = [] ∧ (xs = [] ∨ szOf P el = (xs.headD .nilp).size ∨ ∀ y, y ∈ xs → y.size = szOf P el) := by
        cases hb : (xs.isEmpty || (szOf P el).beq (xs.headD .nilp).size) <;> simp only [hb, cond_true, cond_false] at h <;> cases h
        · exact ⟨hside.1, rfl, rfl, .inr (.inr hside.2)⟩
        · refine ⟨hside, rfl, rfl, ?_⟩
          simp only [Bool.or_eq_true, List.isEmpty_iff] at hb
          rcases hb with hb | hb
          · exact .inl hb
          · exact .inr (.inl (Nat.eq_of_beq_eq_true hb))
      obtain ⟨⟨h0, h1, h2⟩, hr, hws, hsz⟩ := hall
      rw [hr, hws]
      refine steps_value fun ρ X a w hs => ?_
      have he := hs.ev x
      rw [hx] at he
      obtain ⟨cs, g1, g2⟩ := repA_d he
      cases g1 with
      | slnil =>
        have : l = 0 ∧ k = 0 := by simp at h2; omega
        obtain ⟨rfl, rfl⟩ := this
        rename_i ad cap
        refine ⟨_, run w a.eval ad 0 cap 0 0 g2 (loOf_rep hs hl) (hiOf_rep hs hk) (by omega) (by omega) (by omega), ?_, fun m hm => by cases hm⟩
        exact ⟨_, .d .slnil, rfl⟩
      | sl a1 a2 a3 a4 a5 a6 =>
        rename_i b off cap e cs
        have hes : xs ≠ [] → e = szOf P el := fun hne' => by
          rcases hsz with hsz | hsz | hsz
          · exact absurd hsz hne'
          · rw [hsz]
            cases xs with
            | nil => exact absurd rfl hne'
            | cons y ys => exact (a3 y (by simp)).symm
          · cases xs with
            | nil => exact absurd rfl hne'
            | cons y ys => rw [← hsz y (by simp)]; exact (a3 y (by simp)).symm
        refine ⟨_, run w a.eval (some ⟨b, off, none⟩) xs.length cap l k g2 (loOf_rep hs hl) (hiOf_rep hs hk) h0 h1 (by omega), ?_, fun m hm => by cases hm⟩
        obtain ⟨pre, c, post, e1, e2, e3, e4, e5⟩ := a6.cut a3 (l := l.toNat) (k := k.toNat) (by omega) (by omega)
        have hlen : (cutD xs l k).length = k.toNat - l.toNat := e5
        by_cases hemp : xs = []
        · subst hemp
          have hlk : l = 0 ∧ k = 0 := by simp at h2; omega
          obtain ⟨rfl, rfl⟩ := hlk
          have hcut : cutD [] 0 0 = [] := rfl
          rw [hcut]
          simp only [Int.toNat_zero, Nat.zero_mul, Nat.sub_zero]
          have hb : (if cap = 0 then some (⟨b, off, none⟩ : Addr) else (some (⟨b, off, none⟩ : Addr)).map (·.add 0)) = some ⟨b, off, none⟩ := by
            split <;> simp [Addr.add]
          rw [hb]
          exact ⟨_, .d (.sl (xs := []) a1 a2 (e := e) (by simp) (Nat.zero_le _) (cs := []) (fun i v hv => by simp at hv) .nil), rfl⟩
        · have hes := hes hemp
          subst hes
          rw [← hlen]
          rw [e1] at a5
          have h5 := a5.part
          rw [e2] at h5
          split
          · rename_i hcl
            have hcut : cutD xs l k = [] := List.eq_nil_of_length_eq_zero (by omega)
            rw [hcut]
            exact ⟨_, .d (.sl (xs := []) a1 a2 (e := szOf P el) (by simp) (Nat.zero_le _) (cs := []) (fun i v hv => by simp at hv) .nil), rfl⟩
          · simp only [Option.map_some, addr_add]
            exact ⟨_, .d (.sl a1 a2 e4 (by omega) h5 e3), rfl⟩
    · rename_i n p e off len hx
      split at h <;> try (cases h; done)
      rename_i l k hl hk
      cases hb : (szOf P el).beq e <;> simp only [hb, cond_true, cond_false] at h <;> cases h
      have hes := Nat.eq_of_beq_eq_true hb
      obtain ⟨h0, h1, h2⟩ := hside
      refine steps_value fun ρ X a w hs => ?_
      have he := hs.ev x
      have hnm := hs.evNames x
      rw [hx] at he hnm
      rcases repA_sl he with ⟨g0, rfl, g1⟩ | ⟨b, cap, q, c, T', z, g0, g1, g2, g3, g4, g5⟩
      · have hlk : l = 0 ∧ k = 0 := by omega
        obtain ⟨rfl, rfl⟩ := hlk
        refine ⟨_, run w a.eval none 0 0 0 0 g1 (loOf_rep hs hl) (hiOf_rep hs hk) (by omega) (by omega) (by omega), ?_, fun m hm => hnm m hm⟩
        exact ⟨_, .slnil g0, rfl⟩
      refine ⟨_, run w a.eval _ len cap l k g1 (loOf_rep hs hl) (hiOf_rep hs hk) h0 h1 (by omega), ?_, fun m hm => hnm m hm⟩
      have hle : (l.toNat : Int) ≤ cap := by omega
      have hb2 : pOff p + (off + l.toNat + (cap - l.toNat)) * e ≤ c.size := by
        have : off + l.toNat + (cap - l.toNat) = off + cap := by omega
        rw [this]; exact g3
      split
      · rename_i hcl
        exact ⟨_, .sl g0 g2 hb2 (by omega) (.inl (by omega)), rfl⟩
      · simp only [Option.map_some, addr_add]
        refine ⟨_, .sl g0 g2 hb2 (by omega) ?_, rfl⟩
        rcases g5 with g5 | g5
        · exact .inl (by omega)
        · right; rw [g5, hes, Nat.add_mul]; omega
  · rename_i n el hu
    cases hz : (szOf P el).beq 0 <;> simp only [hz, cond_true, cond_false] at h <;> try (cases h; done)
    have hne : szOf P el ≠ 0 := fun e => by rw [e] at hz; cases hz
    have run : ∀ (w : World) (ev : Operand → Value) (b q : Nat) (l k : Int), ev x = .pointer (some ⟨b, q, none⟩) → (lo.map ev = none ∧ l = 0 ∨ ∃ k, lo.map ev = some (.int k l)) →
        (hi.map ev = none ∧ k = n ∨ ∃ j, hi.map ev = some (.int j k)) → 0 ≤ l → l ≤ k → k ≤ n →
        (execOp ev o).run P w = .ok (.value (.slice (some (if n = l.toNat then ⟨b, q, none⟩ else ⟨b, q + l.toNat * szOf P el, none⟩)) (k.toNat - l.toNat) (n - l.toNat))) w := by
      intro w ev b q l k hx hl hk h0 h1 h2
      simp only [execOp, ho]
      refine run_map ?_
      simp only [Instr.sliceAt]
      rw [run_bind_ok (run_underlying hu w)]
      simp only [hx, Instr.sureAddr, Option.map_none]
      rw [run_bind_ok (run_pure _ w), run_bind_ok (run_sliceBounds w hl hk h0 h1 h2)]
      dsimp only
      rw [run_bind_ok (szOf_run hne w), addr_add]
      rfl
    split at h <;> try (cases h; done)
    · rename_i n' p hx
      split at h <;> try (cases h; done)
      rename_i l k u hl hk hu'
      have hu' := hle _ _ hu'
      split at h <;> try (cases h; done)
      rename_i s m e xs hn
      cases hb : m.beq n && (szOf P el).beq e <;> simp only [hb, cond_true, cond_false] at h <;> cases h
      simp only [Bool.and_eq_true] at hb
      have hmn := Nat.eq_of_beq_eq_true hb.1
      have hes := Nat.eq_of_beq_eq_true hb.2
      subst hmn
      obtain ⟨⟨h0, h1, h2⟩, hsd⟩ := hside
      refine steps_value fun ρ X a w hs => ?_
      have he := hs.ev x
      have hnm := hs.evNames x
      rw [hx] at he hnm
      obtain ⟨b, hb0, hv⟩ := repA_ptr he
      refine ⟨_, run w a.eval _ _ l k hv (loOf_rep hs hl) (hiOf_rep hs hk) h0 h1 h2, ?_, fun m hm => hnm m hm⟩
      obtain ⟨b', cs, T', z, g0, g1, _, g3⟩ := hs.objs _ _ hu'
      rw [hb0] at g0; cases g0
      obtain ⟨pre, c, post, e1, e2, e3⟩ := AV.nav_rep hn hsd g3
      have hcl : c.length = m * e := e3.length
      have hb2 : pOff p + (l.toNat + (m - l.toNat)) * e ≤ cs.toArray.size := by
        have : l.toNat + (m - l.toNat) = m := by omega
        rw [this, e1]; simp; omega
      have hadr : (some (if m = l.toNat then (⟨b, pOff p, none⟩ : Addr) else ⟨b, pOff p + l.toNat * szOf P el, none⟩)) = some ⟨b, if m = l.toNat then pOff p else pOff p + l.toNat * e, none⟩ := by
        rw [hes]; split <;> rfl
      rw [hadr]
      refine ⟨_, .sl hb0 g1 hb2 (by omega) ?_, rfl⟩
      split
      · exact .inl (by omega)
      · exact .inr rfl
    · rename_i m e xs hx
      split at h <;> try (cases h; done)
      rename_i l k hl hk
      cases hb : m.beq n && (szOf P el).beq e <;> simp only [hb, cond_true, cond_false] at h <;> cases h
      simp only [Bool.and_eq_true] at hb
      have hmn := Nat.eq_of_beq_eq_true hb.1
      have hes := Nat.eq_of_beq_eq_true hb.2
      subst hmn
      obtain ⟨h0, h1, h2⟩ := hside
      refine steps_value fun ρ X a w hs => ?_
      have he := hs.ev x
      rw [hx] at he
      obtain ⟨b, q, cs, hv, g1, g2, g3, g4⟩ := repA_dptr he
      refine ⟨_, run w a.eval _ _ l k hv (loOf_rep hs hl) (hiOf_rep hs hk) h0 h1 h2, ?_, fun m hm => by cases hm⟩
      cases g4 with
      | arr a1 a2 a3 =>
        obtain ⟨pre, c, post, e1, e2, e3, e4, e5⟩ := a3.cut a2 (l := l.toNat) (k := k.toNat) (by omega) (by omega)
        have hlen : (cutD xs l k).length = k.toNat - l.toNat := e5
        rw [e1] at g3
        have h5 := g3.part
        rw [e2] at h5
        rw [← hlen, hes]
        split
        · rename_i hcl
          have hcut : cutD xs l k = [] := List.eq_nil_of_length_eq_zero (by omega)
          rw [hcut]
          exact ⟨_, .d (.sl (xs := []) g1 g2 (e := e) (by simp) (Nat.zero_le _) (cs := []) (fun i v hv => by simp at hv) .nil), rfl⟩
        · exact ⟨_, .d (.sl g1 g2 e4 (by omega) h5 e3), rfl⟩
  · rename_i hu
    split at h <;> try (cases h; done)
    rename_i s hx
    split at h <;> cases h
    rename_i l k hl hk
    obtain ⟨h0, h1, h2⟩ := hside
    refine steps_value fun ρ X a w hs => ?_
    have he := hs.ev x
    rw [hx] at he
    refine ⟨.string (s.extract l.toNat k.toNat), ?_, ⟨_, .d (.str _), rfl⟩, fun m hm => by cases hm⟩
    simp only [execOp, ho]
    refine run_map ?_
    simp only [Instr.sliceAt]
    rw [run_bind_ok (run_underlying hu w)]
    dsimp only
    simp only [Instr.slice, repA_str he, Option.map_none]
    rw [run_bind_ok (run_underlying hu w)]
    simp only [Option.isSome_none, Bool.false_eq_true, if_false]
    rw [run_bind_ok (run_sliceBounds w (loOf_rep hs hl) (hiOf_rep hs hk) h0 h1 h2)]
    rfl

end Go.Sym
