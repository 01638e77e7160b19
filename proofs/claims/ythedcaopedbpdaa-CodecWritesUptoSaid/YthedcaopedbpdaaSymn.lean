/-
What an operation that calls nothing does to what a frame holds, eleventh part: '==' and '!='.
-/
import Derived.Test.YthedcaopedbpdaaSymm
import Derived.Laws.StructEq
import Derived.ChangeKeysEq
namespace Go.Sym

mutual
def D.beq : D → D → Bool
  | .int _ a, .int _ b => a == b
  | .bool a, .bool b => a == b
  | .str a, .str b => a.toList == b.toList
  | .st fs, .st gs => D.beqs fs gs
  | .arr _ _ xs, .arr _ _ ys => D.beqs xs ys
  | _, _ => false
def D.beqs : List D → List D → Bool
  | [], [] => true
  | x :: xs, y :: ys => D.beq x y && D.beqs xs ys
  | _, _ => false
end

def fitsWith (P : Program) (F : TypeId → D → Prop) : List Field → Nat → List D → Prop
  | [], _, [] => True
  | fd :: fds, off, x :: xs => (fd.name ≠ "_" ∧ fd.offset = off ∧ tyOK P fd.type x.size x.isAgg = true) ∧ F fd.type x ∧ fitsWith P F fds (off + x.size) xs
  | _, _, _ => False

/-- Data of a type that can be compared. -/
def D.fits (P : Program) : Nat → TypeId → D → Prop
  | 0, _, _ => False
  | f + 1, T, x => match P.underlying T with
    | some (.int k) => match x with
      | .int k' _ => k' = k
      | _ => False
    | some .bool => match x with
      | .bool _ => True
      | _ => False
    | some .string => match x with
      | .str _ => True
      | _ => False
    | some (.array n e) => match x with
      | .arr m s xs => m = n ∧ s = szOf P e ∧ (P.info? e).isSome = true ∧ (∀ y, y ∈ xs → tyOK P e y.size y.isAgg = true) ∧ ∀ y, y ∈ xs → D.fits P f e y
      | _ => False
    | some (.struct fields) => P.stoodInHeld T = false ∧ match x with
      | .st fs => fitsWith P (D.fits P f) fields.toList 0 fs
      | _ => False
    | _ => False

theorem isAgg_len {X : Nat → Prop} {w : World} {x : D} {cs : List Value} (h : RepD X w x cs) (ha : x.isAgg = false) : cs.length = 1 := notAgg_size (ρ := fun _ => none) (.d h) ha

theorem eqItems_run {P : Program} {X : Nat → Prop} {w : World} {e : TypeId} {c d : Nat} (ih : ∀ (x y : D) (cs ds : List Value), D.fits P d e x → D.fits P d e y → RepD X w x cs → RepD X w y ds → ∀ k, (Op.equalIn (k + d) e (wrapV x.isAgg cs) (wrapV y.isAgg ds)).run P w = .ok (D.beq x y) w) (k : Nat) :
    ∀ (xs ys : List D) (i : Nat) (px py cs ds : List Value), xs.length = ys.length → px.length = i * c → py.length = i * c → RepL X w xs cs → RepL X w ys ds →
      (∀ x, x ∈ xs → x.size = c ∧ tyOK P e x.size x.isAgg = true ∧ D.fits P d e x) → (∀ x, x ∈ ys → x.size = c ∧ tyOK P e x.size x.isAgg = true ∧ D.fits P d e x) →
      (Op.eqItems (k + d) e c (px ++ cs).toArray (py ++ ds).toArray (List.range' i xs.length)).run P w = .ok (D.beqs xs ys) w := by
  intro xs
  induction xs with
  | nil =>
    intro ys i px py cs ds hl _ _ _ _ _ _
    have : ys = [] := List.eq_nil_of_length_eq_zero hl.symm
    subst this
    rfl
  | cons x xs ihx =>
    intro ys i px py cs ds hl h1 h2 hr1 hr2 hx hy
    cases ys with
    | nil => cases hl
    | cons y ys =>
      cases hr1 with
      | cons r1 rs1 =>
        rename_i c1 cs
        cases hr2 with
        | cons r2 rs2 =>
          rename_i c2 ds
          obtain ⟨a1, a2, a3⟩ := hx x (by simp)
          obtain ⟨b1, b2, b3⟩ := hy y (by simp)
          have p1 := run_part (P := P) (T := e) (w := w) (pre := px) (c := c1) (post := cs) (agg := x.isAgg) (by rw [r1.length]; exact a2) h1 (isAgg_len r1)
          have p2 := run_part (P := P) (T := e) (w := w) (pre := py) (c := c2) (post := ds) (agg := y.isAgg) (by rw [r2.length]; exact b2) h2 (isAgg_len r2)
          simp only [List.length_cons, List.range'_succ, Op.eqItems]
          rw [List.append_assoc] at p1 p2
          rw [run_bind_ok p1, run_bind_ok p2, run_bind_ok (ih x y c1 c2 a3 b3 r1 r2 k)]
          have := ihx ys (i + 1) (px ++ c1) (py ++ c2) cs ds (by simpa using hl) (by simp [h1, r1.length, a1, Nat.succ_mul]) (by simp [h2, r2.length, b1, Nat.succ_mul]) rs1 rs2
            (fun z hz => hx z (by simp [hz])) (fun z hz => hy z (by simp [hz]))
          simp only [List.append_assoc] at this
          simp only [D.beqs]
          cases hb : D.beq x y with
          | true => simp only [Bool.not_true, Bool.false_eq_true, if_false, Bool.true_and]; exact this
          | false => rfl

theorem eqFields_run {P : Program} {X : Nat → Prop} {w : World} {d : Nat} (ih : ∀ (T : TypeId) (x y : D) (cs ds : List Value), D.fits P d T x → D.fits P d T y → RepD X w x cs → RepD X w y ds → ∀ k, (Op.equalIn (k + d) T (wrapV x.isAgg cs) (wrapV y.isAgg ds)).run P w = .ok (D.beq x y) w) (k : Nat) :
    ∀ (fds : List Field) (xs ys : List D) (off : Nat) (px py cs ds : List Value), px.length = off → py.length = off → RepL X w xs cs → RepL X w ys ds → fitsWith P (D.fits P d) fds off xs → fitsWith P (D.fits P d) fds off ys →
      (Op.eqFields (k + d) (px ++ cs).toArray (py ++ ds).toArray fds).run P w = .ok (D.beqs xs ys) w := by
  intro fds
  induction fds with
  | nil =>
    intro xs ys off px py cs ds _ _ _ _ h1 h2
    cases xs with
    | nil => cases ys with
      | nil => rfl
      | cons _ _ => simp [fitsWith] at h2
    | cons _ _ => simp [fitsWith] at h1
  | cons fd fds ihf =>
    intro xs ys off px py cs ds l1 l2 hr1 hr2 h1 h2
    cases xs with
    | nil => simp [fitsWith] at h1
    | cons x xs =>
      cases ys with
      | nil => simp [fitsWith] at h2
      | cons y ys =>
        simp only [fitsWith] at h1 h2
        obtain ⟨⟨hn, ho, t1⟩, f1, g1⟩ := h1
        obtain ⟨⟨_, _, t2⟩, f2, g2⟩ := h2
        cases hr1 with
        | cons r1 rs1 =>
          rename_i c1 cs
          cases hr2 with
          | cons r2 rs2 =>
            rename_i c2 ds
            have p1 := run_part (P := P) (T := fd.type) (w := w) (pre := px) (c := c1) (post := cs) (agg := x.isAgg) (by rw [r1.length]; exact t1) (l1.trans ho.symm) (isAgg_len r1)
            have p2 := run_part (P := P) (T := fd.type) (w := w) (pre := py) (c := c2) (post := ds) (agg := y.isAgg) (by rw [r2.length]; exact t2) (l2.trans ho.symm) (isAgg_len r2)
            have hsz : x.size = y.size := by
              have := tyOK_size t1 w
              rw [tyOK_size t2 w] at this
              simp only [Result.ok.injEq, and_true] at this
              exact this.symm
            simp only [Op.eqFields]
            rw [if_pos hn]
            rw [List.append_assoc] at p1 p2
            rw [run_bind_ok p1, run_bind_ok p2, run_bind_ok (ih fd.type x y c1 c2 f1 f2 r1 r2 k)]
            have := ihf xs ys (off + x.size) (px ++ c1) (py ++ c2) cs ds (by simp [l1, r1.length]) (by simp [l2, r2.length, hsz]) rs1 rs2 g1 (by rw [hsz]; exact g2)
            simp only [List.append_assoc] at this
            simp only [D.beqs]
            cases hb : D.beq x y with
            | true => simp only [Bool.not_true, Bool.false_eq_true, if_false, Bool.true_and]; exact this
            | false => rfl

theorem D.eq_run {P : Program} {X : Nat → Prop} {w : World} : ∀ (f : Nat) (T : TypeId) (x y : D) (cs ds : List Value), D.fits P f T x → D.fits P f T y → RepD X w x cs → RepD X w y ds →
    ∀ k, (Op.equalIn (k + f) T (wrapV x.isAgg cs) (wrapV y.isAgg ds)).run P w = .ok (D.beq x y) w := by
  intro f
  induction f with
  | zero => intro T x y cs ds h; simp [D.fits] at h
  | succ f ih =>
    intro T x y cs ds h1 h2 r1 r2 k
    simp only [D.fits] at h1 h2
    cases hu : P.underlying T with
    | none => rw [hu] at h1; exact h1.elim
    | some t =>
      rw [hu] at h1 h2
      rw [show k + (f + 1) = (k + f) + 1 from rfl]
      cases t <;> try (exact h1.elim)
      case bool =>
        cases x <;> try (exact h1.elim)
        cases y <;> try (exact h2.elim)
        cases r1; cases r2
        exact run_equalIn_bool w _ T _ _ hu
      case int q =>
        cases x <;> try (exact h1.elim)
        cases y <;> try (exact h2.elim)
        cases r1; cases r2
        simp only at h1 h2
        subst h1; subst h2
        exact run_equalIn_int w _ T _ _ _ _ hu
      case string =>
        cases x <;> try (exact h1.elim)
        cases y <;> try (exact h2.elim)
        cases r1; cases r2
        exact run_equalIn_string w _ T _ _ hu
      case array n e =>
        cases x <;> try (exact h1.elim)
        rename_i m s xs
        cases y <;> try (exact h2.elim)
        rename_i m' s' ys
        obtain ⟨rfl, rfl, hi, h3, h4⟩ := h1
        obtain ⟨rfl, rfl, _, h5, h6⟩ := h2
        obtain ⟨i, hi⟩ := Option.isSome_iff_exists.1 hi
        have hc : P.cellsOf e = szOf P e := by simp [Program.cellsOf, szOf, hi]
        cases r1 with
        | arr l1 e1 r1 =>
          cases r2 with
          | arr l2 e2 r2 =>
            simp only [wrapV, D.isAgg, if_true]
            rw [run_equalIn_array w (k + f) cs.toArray ds.toArray hu hi, hc]
            have := eqItems_run (fun x y cs ds => ih e x y cs ds) k xs ys 0 [] [] cs ds (by rw [l1, l2]) (by simp) (by simp) r1 r2 (c := szOf P e) (fun x hx => ⟨e1 x hx, h3 x hx, h4 x hx⟩) (fun x hx => ⟨e2 x hx, h5 x hx, h6 x hx⟩)
            simp only [List.nil_append] at this
            rw [List.range_eq_range', ← l1]
            exact this
      case struct fields =>
        cases x <;> try (exact h1.2.elim)
        cases y <;> try (exact h2.2.elim)
        rename_i fs gs
        have hf : P.fieldsOf T = fields := by simp [Program.fieldsOf, hu]
        cases r1 with
        | st r1 =>
          cases r2 with
          | st r2 =>
            simp only [wrapV, D.isAgg, if_true]
            rw [run_equalIn_struct w (k + f) T cs.toArray ds.toArray (by rw [hf]; exact hu) h1.1, hf]
            have := eqFields_run (fun T x y cs ds => ih T x y cs ds) k fields.toList fs gs 0 [] [] cs ds rfl rfl r1 r2 h1.2 h2.2
            show _ = Result.ok (D.beqs fs gs) w
            simpa using this

def aEqNil (P : Program) (T : TypeId) (x y : AV) (neg : Bool) : Option Res := match P.underlying T, x, y with
  | some (.pointer _), .ptr _ _, .d .nilp => some ⟨True, .d (.bool neg), []⟩
  | some (.pointer _), .dptr _, .d .nilp => some ⟨True, .d (.bool neg), []⟩
  | some (.func _ _ _), .fn _ _, .d .nilf => some ⟨True, .d (.bool neg), []⟩
  | _, _, _ => none

def aEq (P : Program) (T : TypeId) (x y : AV) (neg : Bool) : Option Res := match x, y with
  | .d a, .d b => bif a.isAgg && b.isAgg && !P.eqGuardType P.depth T then some ⟨D.fits P 8 T a ∧ D.fits P 8 T b, .d (.bool (bif neg then !D.beq a b else D.beq a b)), []⟩ else none
  | x, y => aEqNil P T x y neg

/-- '==', '!=' of structs and arrays; of references and nil. -/
def aCmp (P : Program) (op : BinOp) (T : TypeId) (x y : AV) : Option Res :=
  match op with
  | .eql => aEq P T x y false
  | .neq => aEq P T x y true
  | _ => none

theorem aCmp_sound {P : Program} {op : BinOp} {T T2 : TypeId} {o : Oper} {x y : Operand} {S : St} {res : Res} (ho : o.op = .binOp op T x y T2) (h : aCmp P op T (S.ev x) (S.ev y) = some res) (hside : res.side) :
    StepsTo P o S (S.upd o.dst res.r res.ws) := by
  have bo : ∀ {ρ : Nat → Option Nat} {X : Nat → Prop} {w : World} {b : Bool}, RepA ρ X w (.d (.bool b)) (.bool b) := fun {_ _ _ b} => ⟨_, .d (.bool b), rfl⟩
  have key : ∀ neg, (op = .eql ∧ neg = false ∨ op = .neq ∧ neg = true) → aEq P T (S.ev x) (S.ev y) neg = some res → StepsTo P o S (S.upd o.dst res.r res.ws) := by
    intro neg hop h
    unfold aEq at h
    split at h
    · rename_i a b hx hy
      cases hb : a.isAgg && b.isAgg && !P.eqGuardType P.depth T <;> simp only [hb, cond_true, cond_false] at h <;> cases h
      simp only [Bool.and_eq_true, Bool.not_eq_true'] at hb
      obtain ⟨⟨ha, hb⟩, hg⟩ := hb
      refine steps_value fun ρ X e w hs => ⟨.bool (bif neg then !D.beq a b else D.beq a b), ?_, bo, fun m hm => by cases hm⟩
      have h1 := hs.ev x
      have h2 := hs.ev y
      rw [hx] at h1; rw [hy] at h2
      obtain ⟨cs, c1, c2⟩ := repA_d h1
      obtain ⟨ds, d1, d2⟩ := repA_d h2
      have heq : (Op.equal T (e.eval x) (e.eval y)).run P w = .ok (D.beq a b) w := by
        rw [c2, d2]
        exact D.eq_run 8 T a b cs ds hside.1 hside.2 c1 d1 9992
      rw [ha] at c2; rw [hb] at d2
      simp only [wrapV, if_true] at c2 d2
      have hgd : (eqGuard op T x y (e.eval x) (e.eval y)).run P w = .ok () w := by
        rw [c2, d2]
        have hp : (program >>= fun p => program >>= fun q => if (!Program.eqGuardType p q.depth T) = true then pure () else (do if ← Op.eqGuardIn Op.maxDepth T (.agg cs.toArray) (.agg ds.toArray) then unsupported (.noEntry "binop/eql: two nil values of an interface type with methods, in a part of a struct or an array") : Sem Unit)).run P w = .ok () w := by
          simp [program, Sem.run, Sem.run_bind, hg]
        rcases hop with ⟨rfl, _⟩ | ⟨rfl, _⟩
        · simpa [eqGuard] using hp
        · simpa [eqGuard] using hp
      simp only [execOp, ho]
      refine run_map ?_
      rw [run_bind_ok hgd]
      rw [c2, d2] at heq ⊢
      rcases hop with ⟨rfl, rfl⟩ | ⟨rfl, rfl⟩
      · simp only [binOp]; rw [run_bind_ok heq]; rfl
      · simp only [binOp]; rw [run_bind_ok heq]; rfl
    · unfold aEqNil at h
      split at h <;> cases h
      · rename_i el n p hu hx hy
        refine steps_value fun ρ X e w hs => ⟨.bool neg, ?_, bo, fun m hm => by cases hm⟩
        have h1 := hs.ev x
        have h2 := hs.ev y
        rw [hx] at h1; rw [hy] at h2
        obtain ⟨b, _, hv⟩ := repA_ptr h1
        obtain ⟨ds, d1, d2⟩ := repA_d h2
        cases d1
        simp only [wrapV, D.isAgg, Bool.false_eq_true, if_false, List.headD_cons] at d2
        have heq : (Op.equal T (e.eval x) (e.eval y)).run P w = .ok false w := by
          rw [hv, d2]
          have key : ∀ d, (Op.equalIn (d + 1) T (.pointer (some ⟨b, pOff p, none⟩)) (.pointer none)).run P w = .ok false w := fun d => by
            simp only [Op.equalIn]
            rw [run_bind_ok (run_underlying hu w)]; rfl
          exact key 9999
        simp only [execOp, ho]
        refine run_map ?_
        rw [hv, d2] at heq ⊢
        rcases hop with ⟨rfl, rfl⟩ | ⟨rfl, rfl⟩
        · rw [run_bind_ok (x := ()) (w' := w) (by simp [eqGuard])]; simp only [binOp]; rw [run_bind_ok heq]; rfl
        · rw [run_bind_ok (x := ()) (w' := w) (by simp [eqGuard])]; simp only [binOp]; rw [run_bind_ok heq]; rfl
      · rename_i el z hu hx hy
        refine steps_value fun ρ X e w hs => ⟨.bool neg, ?_, bo, fun m hm => by cases hm⟩
        have h1 := hs.ev x
        have h2 := hs.ev y
        rw [hx] at h1; rw [hy] at h2
        obtain ⟨b, q, cs, hv, _⟩ := repA_dptr h1
        obtain ⟨ds, d1, d2⟩ := repA_d h2
        cases d1
        simp only [wrapV, D.isAgg, Bool.false_eq_true, if_false, List.headD_cons] at d2
        have heq : (Op.equal T (e.eval x) (e.eval y)).run P w = .ok false w := by
          rw [hv, d2]
          have key : ∀ d, (Op.equalIn (d + 1) T (.pointer (some ⟨b, q, none⟩)) (.pointer none)).run P w = .ok false w := fun d => by
            simp only [Op.equalIn]
            rw [run_bind_ok (run_underlying hu w)]; rfl
          exact key 9999
        simp only [execOp, ho]
        refine run_map ?_
        rw [hv, d2] at heq ⊢
        rcases hop with ⟨rfl, rfl⟩ | ⟨rfl, rfl⟩
        · rw [run_bind_ok (x := ()) (w' := w) (by simp [eqGuard])]; simp only [binOp]; rw [run_bind_ok heq]; rfl
        · rw [run_bind_ok (x := ()) (w' := w) (by simp [eqGuard])]; simp only [binOp]; rw [run_bind_ok heq]; rfl
      · rename_i f cs hu hx hy
        refine steps_value fun ρ X e w hs => ⟨.bool neg, ?_, bo, fun m hm => by cases hm⟩
        have h1 := hs.ev x
        have h2 := hs.ev y
        rw [hx] at h1; rw [hy] at h2
        obtain ⟨us, u1, u2⟩ := h1
        obtain ⟨ds, d1, d2⟩ := repA_d h2
        cases d1
        cases u1 with
        | fn _ =>
          rename_i vs _
          simp only [wrapV, D.isAgg, AV.isAgg, Bool.false_eq_true, if_false, List.headD_cons] at d2 u2
          have heq : (Op.equal T (e.eval x) (e.eval y)).run P w = .ok false w := by
            rw [u2, d2]
            have key : ∀ d, (Op.equalIn (d + 1) T (.func (f) #[] vs.toArray) .nilFunc).run P w = .ok false w := fun d => by
              simp only [Op.equalIn]
              rw [run_bind_ok (run_underlying hu w)]; rfl
            exact key 9999
          simp only [execOp, ho]
          refine run_map ?_
          rw [u2, d2] at heq ⊢
          rcases hop with ⟨rfl, rfl⟩ | ⟨rfl, rfl⟩
          · rw [run_bind_ok (x := ()) (w' := w) (by simp [eqGuard])]; simp only [binOp]; rw [run_bind_ok heq]; rfl
          · rw [run_bind_ok (x := ()) (w' := w) (by simp [eqGuard])]; simp only [binOp]; rw [run_bind_ok heq]; rfl
  unfold aCmp at h
  split at h
  · exact key false (.inl ⟨rfl, rfl⟩) h
  · exact key true (.inr ⟨rfl, rfl⟩) h
  · cases h

end Go.Sym
