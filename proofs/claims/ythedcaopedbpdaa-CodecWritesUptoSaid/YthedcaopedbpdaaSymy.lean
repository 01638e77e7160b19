/-
What a claim's reading says of the arguments, turned into plain data ('D').
-/
import Derived.Test.YthedcaopedbpdaaSymx
import GoSem.ClaimChange
namespace Go.Sym

def contig (P : Program) : Nat → List Field → Bool
  | _, [] => true
  | o, f :: fs => f.offset.beq o && contig P (o + P.cellsOf f.type) fs
def widths (P : Program) : List Field → Nat
  | [] => 0
  | f :: fs => P.cellsOf f.type + widths P fs

/-- Types of plain data. -/
def plainT (P : Program) : Nat → TypeId → Bool
  | 0, _ => false
  | n + 1, t => match P.underlying t with
    | some .bool => (P.cellsOf t).beq 1
    | some (.int _) => (P.cellsOf t).beq 1
    | some .string => (P.cellsOf t).beq 1
    | some (.struct fs) => contig P 0 fs.toList && (P.cellsOf t).beq (widths P fs.toList) && fs.toList.all fun f => plainT P n f.type
    | some (.array m e) => (P.cellsOf t).beq (m * P.cellsOf e) && plainT P n e
    | some (.slice e) => (P.cellsOf t).beq 1 && Nat.blt 0 (P.cellsOf e) && plainT P n e
    | _ => false

def okAll (p : TypeId → D → Prop) : List TypeId → List D → Prop
  | [], [] => True
  | t :: ts, x :: xs => p t x ∧ okAll p ts xs
  | _, _ => False

/-- Data of a type. -/
def okD (P : Program) : Nat → TypeId → D → Prop
  | 0, _, _ => False
  | n + 1, t, x => match P.underlying t with
    | some .bool => ∃ b, x = .bool b
    | some (.int k) => ∃ m, x = .int k m ∧ (Lit.int k m).wf = true
    | some .string => ∃ s, x = .str s ∧ s.size ≤ maxLen
    | some (.struct fs) => ∃ xs, x = .st xs ∧ okAll (okD P n) (fs.toList.map (·.type)) xs
    | some (.array m e) => ∃ xs, x = .arr m (P.cellsOf e) xs ∧ xs.length = m ∧ ∀ y, y ∈ xs → okD P n e y
    | some (.slice e) => ∃ xs, x = .sl xs ∧ xs.length ≤ maxLen ∧ ∀ y, y ∈ xs → okD P n e y
    | _ => False

mutual
/-- How many values and letters. -/
def D.bulk : D → Nat
  | .str s => s.size + 1
  | .st fs => D.bulks fs + 1
  | .arr _ _ xs => D.bulks xs + 1
  | .sl xs => D.bulks xs + 1
  | _ => 1
def D.bulks : List D → Nat
  | [] => 0
  | x :: xs => D.bulk x + D.bulks xs
end

mutual
/-- What a reading says of data. -/
inductive RelD {H : Type} : D → DataW H → Prop
  | int (k : IntKind) (n : Int) : RelD (.int k n) (.lit (.int k n))
  | bool (b : Bool) : RelD (.bool b) (.lit (.bool b))
  | str (s : ByteArray) : RelD (.str s) (.lit (.string s.data.toList))
  | st {xs : List D} {ds : List (DataW H)} : RelL xs ds → RelD (.st xs) (.agg ds)
  | arr {n e : Nat} {xs : List D} {ds : List (DataW H)} : RelL xs ds → RelD (.arr n e xs) (.agg ds)
  | slnil : RelD (.sl []) .nil
  | sl {xs : List D} {ds es : List (DataW H)} : RelL xs ds → RelD (.sl xs) (.slice ds es)
inductive RelL {H : Type} : List D → List (DataW H) → Prop
  | nil : RelL [] []
  | cons {x : D} {xs : List D} {d : DataW H} {ds : List (DataW H)} : RelD x d → RelL xs ds → RelL (x :: xs) (d :: ds)
end

theorem mapM_some {α β : Type} {f : α → Option β} : ∀ {l : List α} {ys : List β}, l.mapM f = some ys → ys.length = l.length ∧ ∀ (i : Nat) (x : α), l[i]? = some x → ∃ y, ys[i]? = some y ∧ f x = some y
  | [], ys, h => by
    simp at h; subst h; exact ⟨rfl, fun i x h => by simp at h⟩
  | a :: l, ys, h => by
    rw [List.mapM_cons] at h
    cases ha : f a with
    | none => rw [ha] at h; simp at h
    | some b =>
      rw [ha] at h
      cases hl : l.mapM f with
      | none => rw [hl] at h; simp at h
      | some bs =>
        rw [hl] at h
        simp at h
        subst h
        obtain ⟨h1, h2⟩ := mapM_some hl
        refine ⟨by simp [h1], fun i x hx => ?_⟩
        cases i with
        | zero => simp at hx; subst hx; exact ⟨b, rfl, ha⟩
        | succ i => simpa using h2 i x (by simpa using hx)

section
variable {H : Type} {enc : TypeId × Value → H} {P : Program} {w : World} {sp : Nat → Bool} {held : Bool}

def noX : Nat → Prop := fun _ => False

theorem cells?_row {a : Addr} {n : Nat} {cs : List Value} (h : w.cells? 0 a n = some cs) : cs.length = n ∧ ∀ i v, cs[i]? = some v → w.cell? (a.add i) = some v := by
  unfold World.cells? at h
  rw [if_pos (Nat.zero_le _)] at h
  obtain ⟨h1, h2⟩ := mapM_some h
  refine ⟨by simpa using h1, fun i v hv => ?_⟩
  have hi : i < n := by
    have := (List.getElem?_eq_some_iff.1 hv).1
    rw [h1] at this; simpa using this
  obtain ⟨y, hy1, hy2⟩ := h2 i i (by simp [hi])
  rw [hv] at hy1; cases hy1; exact hy2

/-- A row of elements, one behind the other. -/
theorem row_rep {e : TypeId} {n : Nat} {z : Nat} : ∀ (m : Nat) (cs : List Value) (ds : List (DataW H)), cs.length = m * z → ds.length = m →
    (∀ i, i < m → ∃ d x, ds[i]? = some d ∧ RepD noX w x ((cs.drop (i * z)).take z) ∧ okD P n e x ∧ x.size = z ∧ RelD x d) →
    ∃ xs, RepL noX w xs cs ∧ xs.length = m ∧ (∀ x, x ∈ xs → okD P n e x) ∧ (∀ x, x ∈ xs → x.size = z) ∧ RelL xs ds
  | 0, cs, ds, hc, hd, _ => by
    have : cs = [] := List.eq_nil_of_length_eq_zero (by simpa using hc)
    subst this
    have : ds = [] := List.eq_nil_of_length_eq_zero hd
    subst this
    exact ⟨[], .nil, rfl, fun x h => by simp at h, fun x h => by simp at h, .nil⟩
  | m + 1, cs, ds, hc, hd, h => by
    cases ds with
    | nil => cases hd
    | cons d ds =>
      obtain ⟨d', x, h1, h2, h3, h4, h5⟩ := h 0 (Nat.succ_pos _)
      simp only [List.getElem?_cons_zero, Option.some.injEq] at h1
      subst h1
      simp only [Nat.zero_mul, List.drop_zero] at h2
      have hlen : (cs.drop z).length = m * z := by rw [List.length_drop, hc, Nat.succ_mul]; omega
      obtain ⟨xs, k1, k2, k3, k4, k5⟩ := row_rep m (cs.drop z) ds hlen (by simpa using hd) (fun i hi => by
        obtain ⟨d', x, g1, g2, g3, g4, g5⟩ := h (i + 1) (by omega)
        refine ⟨d', x, by simpa using g1, ?_, g3, g4, g5⟩
        rw [List.drop_drop]
        rw [show z + i * z = (i + 1) * z by rw [Nat.succ_mul]; omega]
        exact g2)
      refine ⟨x :: xs, ?_, by simp [k2], fun y hy => ?_, fun y hy => ?_, .cons h5 k5⟩
      · have : cs = cs.take z ++ cs.drop z := (List.take_append_drop z cs).symm
        rw [this]
        exact .cons h2 k1
      · rcases List.mem_cons.1 hy with rfl | hy
        · exact h3
        · exact k3 y hy
      · rcases List.mem_cons.1 hy with rfl | hy
        · exact h4
        · exact k4 y hy

theorem elems_rep {e : TypeId} {n z b : Nat} : ∀ (m off : Nat) (ds : List (DataW H)), ds.length = m →
    (∀ i, i < m → ∃ d x c, ds[i]? = some d ∧ RowAt w b (off + i * z) c ∧ RepD noX w x c ∧ okD P n e x ∧ x.size = z ∧ RelD x d) →
    ∃ xs cs, RowAt w b off cs ∧ RepL noX w xs cs ∧ xs.length = m ∧ (∀ x, x ∈ xs → okD P n e x) ∧ (∀ x, x ∈ xs → x.size = z) ∧ RelL xs ds
  | 0, off, ds, hd, _ => by
    have : ds = [] := List.eq_nil_of_length_eq_zero hd
    subst this
    exact ⟨[], [], fun i v h => by simp at h, .nil, rfl, fun x h => by simp at h, fun x h => by simp at h, .nil⟩
  | m + 1, off, ds, hd, h => by
    cases ds with
    | nil => cases hd
    | cons d ds =>
      obtain ⟨d', x, c, h1, h2, h3, h4, h5, h6⟩ := h 0 (Nat.succ_pos _)
      simp only [List.getElem?_cons_zero, Option.some.injEq] at h1
      subst h1
      obtain ⟨xs, cs, k1, k2, k3, k4, k5, k6⟩ := elems_rep m (off + z) ds (by simpa using hd) (fun i hi => by
        obtain ⟨d', x, c, g1, g2, g3, g4, g5, g6⟩ := h (i + 1) (by omega)
        refine ⟨d', x, c, by simpa using g1, ?_, g3, g4, g5, g6⟩
        rw [show off + z + i * z = off + (i + 1) * z by rw [Nat.succ_mul]; omega]
        exact g2)
      have hl : c.length = z := by rw [h3.length, h5]
      refine ⟨x :: xs, c ++ cs, fun i v hv => ?_, .cons h3 k2, by simp [k3], fun y hy => ?_, fun y hy => ?_, .cons h6 k6⟩
      · by_cases hi : i < c.length
        · rw [List.getElem?_append_left hi] at hv
          have := h2 i v hv
          simpa using this
        · rw [List.getElem?_append_right (by omega)] at hv
          have := k1 _ v hv
          rw [show off + z + (i - c.length) = off + i by omega] at this
          exact this
      · rcases List.mem_cons.1 hy with rfl | hy
        · exact h4
        · exact k4 y hy
      · rcases List.mem_cons.1 hy with rfl | hy
        · exact h5
        · exact k5 y hy

theorem fields_rep {n : Nat} {all : List Value} (ih : ∀ (t : TypeId) (cs : List Value) (r : DataW H × List MemPlace), plainT P n t = true → (∃ fuel, DataW.trod enc P w 0 sp held fuel t cs = some r) → ∃ x, RepD noX w x cs ∧ okD P n t x ∧ x.size = P.cellsOf t ∧ RelD x r.1) :
    ∀ (fs : List Field) (o : Nat) (rs : List (DataW H × List MemPlace)), contig P o fs = true → (∀ f, f ∈ fs → plainT P n f.type = true) → o + widths P fs = all.length → rs.length = fs.length →
      (∀ (i : Nat) (f : Field), fs[i]? = some f → ∃ r fuel, rs[i]? = some r ∧ DataW.trod enc P w 0 sp held fuel f.type ((all.drop f.offset).take (P.cellsOf f.type)) = some r) →
      ∃ xs, RepL noX w xs (all.drop o) ∧ okAll (okD P n) (fs.map (·.type)) xs ∧ D.sizes xs = widths P fs ∧ RelL xs (rs.map (·.1))
  | [], o, rs, _, _, hl, hr, _ => by
    have : rs = [] := List.eq_nil_of_length_eq_zero (by simpa using hr)
    subst this
    refine ⟨[], ?_, trivial, rfl, .nil⟩
    rw [List.drop_of_length_le (by simp only [widths] at hl; omega)]; exact .nil
  | f :: fs, o, rs, hc, hp, hl, hr, h => by
    simp only [contig, Bool.and_eq_true] at hc
    have ho := Nat.eq_of_beq_eq_true hc.1
    cases rs with
    | nil => simp at hr
    | cons r rs =>
      obtain ⟨r', fuel, h1, h2⟩ := h 0 f rfl
      simp only [List.getElem?_cons_zero, Option.some.injEq] at h1
      subst h1
      obtain ⟨x, k1, k2, k3, k4⟩ := ih _ _ _ (hp f (by simp)) ⟨fuel, h2⟩
      simp only [widths] at hl
      obtain ⟨xs, m1, m2, m3, m4⟩ := fields_rep (all := all) ih fs (o + P.cellsOf f.type) rs hc.2 (fun g hg => hp g (by simp [hg])) (by omega) (by simpa using hr) (fun i g hg => by
        obtain ⟨r', fuel, q1, q2⟩ := h (i + 1) g (by simpa using hg)
        exact ⟨r', fuel, by simpa using q1, q2⟩)
      refine ⟨x :: xs, ?_, ⟨k2, m2⟩, by simp only [D.sizes, widths, k3, m3], .cons k4 m4⟩
      have : all.drop o = (all.drop o).take (P.cellsOf f.type) ++ all.drop (o + P.cellsOf f.type) := by
        rw [← List.drop_drop, List.take_append_drop]
      rw [this]
      rw [ho] at k1
      exact .cons k1 m1

theorem trod_rep : ∀ (n : Nat) (t : TypeId) (cs : List Value) (r : DataW H × List MemPlace), plainT P n t = true → (∃ fuel, DataW.trod enc P w 0 sp held fuel t cs = some r) → ∃ x, RepD noX w x cs ∧ okD P n t x ∧ x.size = P.cellsOf t ∧ RelD x r.1
  | 0, t, cs, r, hp, _ => by simp [plainT] at hp
  | n + 1, t, cs, r, hp, ⟨fuel, h⟩ => by
    cases fuel with
    | zero => simp [DataW.trod] at h
    | succ fuel =>
      have ih := trod_rep n
      simp only [plainT] at hp
      simp only [okD]
      unfold DataW.trod at h
      split at hp <;> try (cases hp; done)
      · rename_i hu
        simp only [hu] at h ⊢
        split at h <;> try (cases h; done)
        all_goals try (rename_i heq; cases heq; done)
        rename_i b heq
        cases h
        exact ⟨.bool b, .bool b, ⟨b, rfl⟩, (Nat.eq_of_beq_eq_true hp).symm, .bool b⟩
      · rename_i k hu
        simp only [hu] at h ⊢
        split at h <;> try (cases h; done)
        all_goals try (rename_i heq; cases heq; done)
        all_goals try (rename_i heq _; cases heq; done)
        rename_i k1 k2 m heq
        split at h <;> cases h
        rename_i hk
        cases heq
        obtain ⟨rfl, hw⟩ := hk
        exact ⟨.int _ m, .int _ m, ⟨m, rfl, hw⟩, (Nat.eq_of_beq_eq_true hp).symm, .int _ m⟩
      · rename_i hu
        simp only [hu] at h ⊢
        split at h <;> try (cases h; done)
        all_goals try (rename_i heq; cases heq; done)
        all_goals try (rename_i heq _; cases heq; done)
        rename_i q heq
        split at h <;> cases h
        rename_i hk
        exact ⟨.str q, .str q, ⟨q, rfl, hk⟩, (Nat.eq_of_beq_eq_true hp).symm, .str q⟩
      · rename_i fs hu
        simp only [hu] at h ⊢
        simp only [Bool.and_eq_true, List.all_eq_true] at hp
        obtain ⟨⟨p1, p2⟩, p3⟩ := hp
        have p2 := Nat.eq_of_beq_eq_true p2
        split at h <;> try (cases h; done)
        all_goals try (rename_i heq; cases heq; done)
        all_goals try (rename_i heq _; cases heq; done)
        rename_i hlen
        cases hm : fs.toList.mapM (fun f => DataW.trod enc P w 0 sp held fuel f.type ((cs.drop f.offset).take (P.cellsOf f.type))) with
        | none => rw [hm] at h; cases h
        | some rs =>
          rw [hm] at h
          simp only [Option.map_some, Option.some.injEq] at h
          subst h
          obtain ⟨m1, m2⟩ := mapM_some hm
          obtain ⟨xs, k1, k2, k3, k4⟩ := fields_rep (all := cs) ih fs.toList 0 rs p1 p3 (by omega) m1 (fun i f hf => by
            obtain ⟨y, y1, y2⟩ := m2 i f hf
            exact ⟨y, fuel, y1, y2⟩)
          rw [List.drop_zero] at k1
          exact ⟨.st xs, .st k1, ⟨xs, rfl, k2⟩, by rw [p2, ← k3]; rfl, .st k4⟩
      · rename_i m e hu
        simp only [hu] at h ⊢
        simp only [Bool.and_eq_true] at hp
        obtain ⟨p1, p2⟩ := hp
        have p1 := Nat.eq_of_beq_eq_true p1
        split at h <;> try (cases h; done)
        all_goals try (rename_i heq; cases heq; done)
        all_goals try (rename_i heq _; cases heq; done)
        rename_i hlen
        cases hm : (List.range m).mapM (fun i => DataW.trod enc P w 0 sp held fuel e ((cs.drop (i * P.cellsOf e)).take (P.cellsOf e))) with
        | none => rw [hm] at h; cases h
        | some rs =>
          rw [hm] at h
          simp only [Option.map_some, Option.some.injEq] at h
          subst h
          obtain ⟨m1, m2⟩ := mapM_some hm
          obtain ⟨xs, k1, k2, k3, k4, k5⟩ := row_rep (e := e) (n := n) m cs (rs.map (·.1)) (by rw [hlen, p1]) (by simpa using m1) (fun i hi => by
            obtain ⟨y, y1, y2⟩ := m2 i i (by simp [hi])
            obtain ⟨x, q1, q2, q3, q4⟩ := ih e _ y p2 ⟨fuel, y2⟩
            exact ⟨y.1, x, by simp [y1], q1, q2, q3, q4⟩)
          exact ⟨.arr m (P.cellsOf e) xs, .arr k2 k4 k1, ⟨xs, rfl, k2, k3⟩, by rw [p1]; rfl, .arr k5⟩
      · rename_i e hu
        simp only [hu] at h ⊢
        simp only [Bool.and_eq_true] at hp
        obtain ⟨⟨p1, p3⟩, p2⟩ := hp
        have p1 := Nat.eq_of_beq_eq_true p1
        have p3 : 0 < P.cellsOf e := by simpa using p3
        split at h <;> try (cases h; done)
        all_goals try (rename_i heq; cases heq; done)
        all_goals try (rename_i heq _; cases heq; done)
        · cases h
          exact ⟨.sl [], .slnil, ⟨[], rfl, Nat.zero_le _, fun y hy => by simp at hy⟩, p1.symm, .slnil⟩
        · rename_i e' ad len cap heq
          cases heq
          split at h <;> try (cases h; done)
          rename_i hb
          obtain ⟨_, hlc, hcm⟩ := hb
          cases hm : (List.range len).mapM (fun i => (w.cells? 0 (ad.add (i * P.cellsOf e)) (P.cellsOf e)).bind (DataW.trod enc P w 0 sp held fuel e)) with
          | none => rw [hm] at h; cases h
          | some rs =>
            rw [hm, Option.bind_some, Option.map_eq_some_iff] at h
            obtain ⟨rest, _, rfl⟩ := h
            obtain ⟨m1, m2⟩ := mapM_some hm
            have m1 : rs.length = len := by simpa using m1
            by_cases hl : len = 0
            · subst hl
              have : rs = [] := List.eq_nil_of_length_eq_zero m1
              subst this
              exact ⟨.sl [], .slnil, ⟨[], rfl, Nat.zero_le _, fun y hy => by simp at hy⟩, p1.symm, .sl .nil⟩
            · have el : ∀ i, i < len → ∃ y cs, rs[i]? = some y ∧ w.cells? 0 (ad.add (i * P.cellsOf e)) (P.cellsOf e) = some cs ∧ DataW.trod enc P w 0 sp held fuel e cs = some y := fun i hi => by
                obtain ⟨y, y1, y2⟩ := m2 i i (by simp [hi])
                rw [Option.bind_eq_some_iff] at y2
                obtain ⟨cs, c1, c2⟩ := y2
                exact ⟨y, cs, y1, c1, c2⟩
              have h0 : ad.spot = none ∧ ad.block < w.heap.size := by
                obtain ⟨y, cs, _, c1, _⟩ := el 0 (by omega)
                obtain ⟨d1, d2⟩ := cells?_row c1
                cases cs with
                | nil => simp at d1; omega
                | cons v cs =>
                  have := d2 0 v rfl
                  have e0 : ((ad.add (0 * P.cellsOf e)).add 0) = ad := by simp [Addr.add]
                  rw [e0] at this
                  unfold World.cell? at this
                  split at this
                  · rename_i hh
                    refine ⟨?_, (Array.getElem?_eq_some_iff.1 hh).1⟩
                    split at this
                    · cases this
                    · rename_i hs
                      cases hsp : ad.spot with
                      | none => rfl
                      | some _ => rw [hsp] at hs; simp at hs
                  · cases this
              obtain ⟨ab, ao, as⟩ := ad
              obtain ⟨rfl, hlt⟩ := h0
              obtain ⟨xs, cs, k1, k2, k3, k4, k5, k6⟩ := elems_rep (e := e) (n := n) (z := P.cellsOf e) (b := ab) len ao (rs.map (·.1)) (by simpa using m1) (fun i hi => by
                obtain ⟨y, cs, y1, c1, c2⟩ := el i hi
                obtain ⟨d1, d2⟩ := cells?_row c1
                obtain ⟨x, q1, q2, q3, q4⟩ := ih e _ y p2 ⟨fuel, c2⟩
                refine ⟨y.1, x, cs, by simp [y1], fun j v hv => ?_, q1, q2, q3, q4⟩
                have := d2 j v hv
                rw [addr_add, addr_add] at this
                exact this)
              subst k3
              exact ⟨.sl xs, .sl (fun h => h) hlt k5 hlc k1 k2, ⟨xs, rfl, by omega, k4⟩, p1.symm, .sl k6⟩

end
end Go.Sym
