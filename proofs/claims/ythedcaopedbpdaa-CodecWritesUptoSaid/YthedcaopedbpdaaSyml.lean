/-
What an operation that calls nothing does to what a frame holds, ninth part: copy, conversions, what is let go, literals.
-/
import Derived.Test.YthedcaopedbpdaaSymk
import Derived.Laws.BytesString
import Derived.Laws.IdiomStrings
namespace Go.Sym

/-! ### Small things -/

def aUn (op : UnOp) : AV → Option Res
  | .d (.bool b) => match op with
    | .not => some ⟨True, .d (.bool (!b)), []⟩
    | _ => none
  | .d (.int k n) => match op with
    | .neg => some ⟨True, .d (.int k (k.wrap (0 - n))), []⟩
    | .xor => some ⟨True, .d (.int k (aBits .xor k (if k.signed then -1 else k.max) n)), []⟩
    | _ => none
  | _ => none

theorem aUn_sound {P : Program} {op : UnOp} {T : TypeId} {o : Oper} {x : Operand} {S : St} {res : Res} (ho : o.op = .unOp op T x) (h : aUn op (S.ev x) = some res) : StepsTo P o S (S.upd o.dst res.r res.ws) := by
  unfold aUn at h
  split at h <;> try (cases h; done)
  · rename_i b hx
    split at h <;> cases h
    refine steps_value fun ρ X a w hs => ?_
    have he := hs.ev x
    rw [hx] at he
    refine ⟨.bool !b, ?_, ⟨_, .d (.bool _), rfl⟩, fun m hm => by cases hm⟩
    simp only [execOp, ho, repA_bool he]
    rfl
  · rename_i k n hx
    split at h <;> cases h
    · refine steps_value fun ρ X a w hs => ?_
      have he := hs.ev x
      rw [hx] at he
      refine ⟨.int k (k.wrap (0 - n)), ?_, ⟨_, .d (.int _ _), rfl⟩, fun m hm => by cases hm⟩
      simp only [execOp, ho, repA_int he]
      rfl
    · refine steps_value fun ρ X a w hs => ?_
      have he := hs.ev x
      rw [hx] at he
      refine ⟨.int k (aBits .xor k (if k.signed then -1 else k.max) n), ?_, ⟨_, .d (.int _ _), rfl⟩, fun m hm => by cases hm⟩
      simp only [execOp, ho, repA_int he]
      rfl

def aMove (x : AV) : Option Res := some ⟨True, x, []⟩

theorem aMove_sound {P : Program} {o : Oper} {x : Operand} {S : St} {res : Res} (ho : o.op = .move x ∨ o.op = .assign x) (h : aMove (S.ev x) = some res) : StepsTo P o S (S.upd o.dst res.r res.ws) := by
  cases h
  refine steps_value fun ρ X a w hs => ⟨a.eval x, ?_, hs.ev x, hs.evNames x⟩
  rcases ho with ho | ho <;> simp only [execOp, ho] <;> rfl

def aPick (c x y : AV) : Option Res := match c, x, y with
  | .d (.bool c), .d (.bool x), .d (.bool y) => some ⟨True, .d (.bool (bif c then x else y)), []⟩
  | .d (.bool true), x, _ => some ⟨True, x, []⟩
  | .d (.bool false), _, y => some ⟨True, y, []⟩
  | _, _, _ => none

theorem aPick_sound {P : Program} {o : Oper} {c x y : Operand} {S : St} {res : Res} (ho : o.op = .pick c x y) (h : aPick (S.ev c) (S.ev x) (S.ev y) = some res) : StepsTo P o S (S.upd o.dst res.r res.ws) := by
  unfold aPick at h
  split at h <;> cases h
  · rename_i c' x' y' hc hx hy
    refine steps_value fun ρ X a w hs => ?_
    have h1 := hs.ev c
    have h2 := hs.ev x
    have h3 := hs.ev y
    rw [hc] at h1; rw [hx] at h2; rw [hy] at h3
    refine ⟨.bool (bif c' then x' else y'), ?_, ⟨_, .d (.bool _), rfl⟩, fun m hm => by cases hm⟩
    simp only [execOp, ho, repA_bool h1, repA_bool h2, repA_bool h3, asBool]
    cases c' <;> rfl
  · rename_i hc _
    refine steps_value fun ρ X a w hs => ⟨a.eval x, ?_, hs.ev x, hs.evNames x⟩
    have h1 := hs.ev c
    rw [hc] at h1
    simp only [execOp, ho, repA_bool h1, asBool]
    rfl
  · rename_i hc _
    refine steps_value fun ρ X a w hs => ⟨a.eval y, ?_, hs.ev y, hs.evNames y⟩
    have h1 := hs.ev c
    rw [hc] at h1
    simp only [execOp, ho, repA_bool h1, asBool]
    rfl

def aExtract (i : Nat) : AV → Option Res
  | .tup vs => match vs[i]? with
    | some x => bif x.plain then some ⟨True, x, []⟩ else none
    | none => none
  | _ => none

theorem RepT.get {ρ : Nat → Option Nat} {X : Nat → Prop} {w : World} : ∀ {xs : List AV} {vs : List Value} {i : Nat} {x : AV}, RepT ρ X w xs vs → xs[i]? = some x → ∃ v, vs[i]? = some v ∧ RepA1 ρ X w x v
  | x :: _, v :: _, 0, _, ⟨h, _⟩, hi => by simp only [List.getElem?_cons_zero, Option.some.injEq] at hi; subst hi; exact ⟨v, rfl, h⟩
  | _ :: _, _ :: _, i + 1, _, ⟨_, hs⟩, hi => by simp only [List.getElem?_cons_succ] at hi ⊢; exact RepT.get hs hi
  | [], _, _, _, _, hi => by simp at hi
  | _ :: _, [], _, _, h, _ => h.elim

theorem aExtract_sound {P : Program} {i : Nat} {o : Oper} {x : Operand} {S : St} {res : Res} (ho : o.op = .extract x i) (h : aExtract i (S.ev x) = some res) : StepsTo P o S (S.upd o.dst res.r res.ws) := by
  unfold aExtract at h
  split at h <;> try (cases h; done)
  rename_i vs hx
  split at h <;> try (cases h; done)
  rename_i y hy
  cases hp : y.plain <;> simp only [hp, cond_true, cond_false] at h <;> cases h
  refine steps_value fun ρ X a w hs => ?_
  have h1 := hs.ev x
  have h2 := hs.evNames x
  rw [hx] at h1 h2
  obtain ⟨us, hu, hr⟩ := h1
  obtain ⟨v, hv, hrv⟩ := hr.get hy
  refine ⟨v, ?_, ?_, fun m hm => h2 m ?_⟩
  · simp only [execOp, ho, hu]
    refine run_map ?_
    simp only [Instr.extract, List.getElem?_toArray, hv]
    rfl
  · cases y <;> first | exact hrv | cases hp
  · show m ∈ AV.namesL vs
    have : ∀ {l : List AV} {j : Nat}, l[j]? = some y → m ∈ AV.namesL l := by
      intro l
      induction l with
      | nil => intro j h; simp at h
      | cons b l ih =>
        intro j h
        simp only [AV.namesL, List.mem_append]
        cases j with
        | zero => simp only [List.getElem?_cons_zero, Option.some.injEq] at h; subst h; exact .inl hm
        | succ j => simp only [List.getElem?_cons_succ] at h; exact .inr (ih h)
    exact this hy

def AV.single : AV → Bool
  | .ptr _ _ => true
  | .fn _ _ => true
  | .dptr _ => true
  | .sl _ _ _ _ _ => true
  | _ => false

def aMakeFunc (fn : Fn) (first : Array Operand) (ins : List AV) : Option Res := match fn with
  | .func f => bif first.isEmpty && ins.all AV.single then some ⟨True, .fn (.func f) ins, []⟩ else none
  | _ => none

theorem aMakeFunc_sound {P : Program} {fn : Fn} {o : Oper} {first caps : Array Operand} {S : St} {res : Res} (ho : o.op = .makeFunc fn first caps) (h : aMakeFunc fn first (caps.toList.map S.ev) = some res) :
    StepsTo P o S (S.upd o.dst res.r res.ws) := by
  unfold aMakeFunc at h
  split at h <;> try (cases h; done)
  rename_i f
  cases hb : first.isEmpty && (caps.toList.map S.ev).all AV.single <;> simp only [hb, cond_true, cond_false] at h <;> cases h
  simp only [Bool.and_eq_true] at hb
  have hfe : first = #[] := by simpa using hb.1
  refine steps_value fun ρ X a w hs => ⟨.func (.func f) #[] (caps.map a.eval), ?_, ?_, fun m hm => ?_⟩
  · simp only [execOp, ho, hfe, Array.map_empty]
    rfl
  · have : ∀ (l : List Operand), (l.map S.ev).all AV.single = true → RepCs ρ X w (l.map S.ev) (l.map a.eval) := by
      intro l
      induction l with
      | nil => intro _; exact .nil
      | cons x l ih =>
        intro h
        simp only [List.map_cons, List.all_cons, Bool.and_eq_true] at h
        have hx : RepC ρ X w (S.ev x) [a.eval x] := by
          have := hs.ev x
          generalize S.ev x = y at *
          have hp : y.plain = true := by cases y <;> first | rfl | cases h.1
          obtain ⟨cs, h1, h2, _⟩ := repA_cells hp this
          have hag : y.isAgg = false := by cases y <;> first | rfl | cases h.1
          have hl := notAgg_size h1 hag
          obtain ⟨v, rfl⟩ := List.length_eq_one_iff.1 hl
          rw [hag] at h2
          rw [h2]; exact h1
        exact .cons hx (ih h.2)
    have := RepC.fn (f := .func f) (this caps.toList hb.2)
    refine ⟨_, this, ?_⟩
    show _ = Value.func (.func f) #[] (caps.toList.map a.eval).toArray
    congr 1
    apply Array.ext'; simp
  · have : ∀ (l : List Operand), m ∈ AV.namesL (l.map S.ev) → S.hp m ≠ none := by
      intro l
      induction l with
      | nil => intro h; cases h
      | cons x l ih =>
        intro h
        simp only [List.map_cons, AV.namesL, List.mem_append] at h
        rcases h with h | h
        · exact hs.evNames x m h
        · exact ih h
    exact this caps.toList hm

def aMakeIface (P : Program) (T : TypeId) (x : AV) : Option Res := match P.underlying T, x with
  | some (.struct _), .d (.st []) => some ⟨True, .cst (.iface T (.agg #[])), []⟩
  | _, _ => none

theorem aMakeIface_sound {P : Program} {T : TypeId} {o : Oper} {x : Operand} {S : St} {res : Res} (ho : o.op = .makeInterface T x) (h : aMakeIface P T (S.ev x) = some res) : StepsTo P o S (S.upd o.dst res.r res.ws) := by
  unfold aMakeIface at h
  split at h <;> cases h
  rename_i fs hu hx
  refine steps_value fun ρ X a w hs => ⟨.iface T (.agg #[]), ?_, ⟨_, .cst rfl, rfl⟩, fun m hm => by cases hm⟩
  have he := hs.ev x
  rw [hx] at he
  obtain ⟨cs, h1, h2⟩ := he
  have hcs : cs = [] := by
    cases h1 with
    | d h1 => cases h1 with
      | st h1 => cases h1; rfl
  subst hcs
  have hv : a.eval x = .agg #[] := h2
  simp only [execOp, ho, hv, Instr.makeInterface]
  refine run_map (v := .iface T (.agg #[])) ?_
  rw [run_bind_ok (run_underlying hu w)]
  rfl

def aNilCheck (x : AV) : Option Res := match x with
  | .ptr _ _ => some ⟨True, x, []⟩
  | .dptr _ => some ⟨True, x, []⟩
  | .fn (.func _) _ => some ⟨True, x, []⟩
  | _ => none

theorem aNilCheck_sound {P : Program} {o : Oper} {x : Operand} {S : St} {res : Res} (ho : o.op = .nilCheck x) (h : aNilCheck (S.ev x) = some res) : StepsTo P o S (S.upd o.dst res.r res.ws) := by
  have : res = ⟨True, S.ev x, []⟩ ∧ ((∃ n p, S.ev x = .ptr n p) ∨ (∃ y, S.ev x = .dptr y) ∨ ∃ f cs, S.ev x = .fn (.func f) cs) := by
    unfold aNilCheck at h
    split at h <;> cases h
    · rename_i n p hx; rw [hx]; exact ⟨rfl, .inl ⟨_, _, rfl⟩⟩
    · rename_i y hx; rw [hx]; exact ⟨rfl, .inr (.inl ⟨_, rfl⟩)⟩
    · rename_i f cs hx; rw [hx]; exact ⟨rfl, .inr (.inr ⟨_, _, rfl⟩)⟩
  obtain ⟨rfl, hk⟩ := this
  refine steps_value fun ρ X a w hs => ⟨a.eval x, ?_, hs.ev x, hs.evNames x⟩
  have he := hs.ev x
  simp only [execOp, ho]
  rcases hk with ⟨n, p, hx⟩ | ⟨y, hx⟩ | ⟨f, cs, hx⟩
  · rw [hx] at he
    obtain ⟨b, _, hv⟩ := repA_ptr he
    rw [hv]; rfl
  · rw [hx] at he
    obtain ⟨b, q, cs, hv, _⟩ := repA_dptr he
    rw [hv]; rfl
  · rw [hx] at he
    obtain ⟨cs', h1, h2⟩ := he
    cases h1 with
    | fn _ => rw [h2]; rfl

/-! ### Conversions -/

def byteD (b : UInt8) : D := .int .u8 b.toNat
def bytesOf (xs : List D) : List UInt8 := xs.map fun y => UInt8.ofNat y.toInt.toNat

theorem bytesOf_map (l : List UInt8) : bytesOf (l.map byteD) = l := by
  unfold bytesOf
  rw [List.map_map]
  have : (fun y => UInt8.ofNat (D.toInt y).toNat) ∘ byteD = id := by
    funext b; simp [byteD, D.toInt]
  rw [this, List.map_id]

def aConv (P : Program) (nm : Nat) (src dst : TypeId) (hp : Nat → Option AObj) (x : AV) : Option Res :=
  match P.underlying src, P.underlying dst, x with
  | some _, some (.int k), .d (.int _ n) => some ⟨True, .d (.int k (k.wrap n)), []⟩
  | some (.slice e), some .string, x => match P.underlying e, elsOf hp x with
    | some (.int .u8), some (s, xs) => some ⟨s ∧ xs = (bytesOf xs).map byteD, .d (.str ⟨(bytesOf xs).toArray⟩), []⟩
    | _, _ => none
  | some .string, some (.slice e), .d (.str s) => match P.underlying e with
    | some (.int .u8) => some ⟨True, .sl nm [] 1 0 s.size, [(nm, .row 1 (s.data.toList.map byteD))]⟩
    | _ => none
  | _, _, _ => none

theorem foldl_push_int : ∀ (l : List UInt8) (r : ByteArray), (l.map fun b => (b.toNat : Int)).foldl (fun r n => r.push (UInt8.ofNat n.toNat)) r = ⟨r.data ++ l.toArray⟩ := foldl_push_byteCells

theorem RepL.ofBytes {X : Nat → Prop} {w : World} : ∀ {l : List UInt8} {cs : List Value}, RepL X w (l.map byteD) cs → cs = (l.map fun b => (b.toNat : Int)).map (Value.int .u8)
  | [], _, h => by cases h; rfl
  | b :: l, _, h => by
    cases h with
    | cons h1 h2 => cases h1; rw [RepL.ofBytes h2]; rfl

theorem aConv_sound {P : Program} {src dst : TypeId} {o : Oper} {x : Operand} {S : St} {res : Res} {nm : Nat} {hp : Nat → Option AObj} (hle : ∀ n x, hp n = some x → S.hp n = some x) (ho : o.op = .convert src dst x) (h : aConv P nm src dst hp (S.ev x) = some res) (hside : res.side)
    (hf : S.hp nm = none) : StepsTo P o S (S.upd o.dst res.r res.ws) := by
  unfold aConv at h
  split at h <;> try (cases h; done)
  · rename_i d1 k k' n h1 h2 hx
    cases h
    refine steps_value fun ρ X a w hs => ?_
    have he := hs.ev x
    rw [hx] at he
    refine ⟨.int k (k.wrap n), ?_, ⟨_, .d (.int _ _), rfl⟩, fun m hm => by cases hm⟩
    simp only [execOp, ho, repA_int he]
    refine run_map ?_
    simp only [convert]
    rw [run_bind_ok (run_underlying h1 w), run_bind_ok (run_underlying h2 w)]
    rfl
  · rename_i x' e h1 h2
    split at h <;> cases h
    rename_i s xs h3 hels
    obtain ⟨hs1, hs2⟩ := hside
    refine steps_value fun ρ X a w hs => ⟨.string ⟨(bytesOf xs).toArray⟩, ?_, ⟨_, .d (.str _), rfl⟩, fun m hm => by cases hm⟩
    simp only [execOp, ho]
    refine run_map ?_
    rcases elsOf_rep hs hle hels hs1 (hs.ev x) with ⟨hnil, ad, cap, hv⟩ | ⟨b, q, cap, cs, e', hv, k1, k2, k3, _, _⟩
    · rw [hv, run_convert_bytes_string w src dst e ad 0 cap h1 h3 h2, hnil]
      cases ad <;> rfl
    · rw [hv, run_convert_bytes_string w src dst e _ _ _ h1 h3 h2]
      have hcs : cs = ((bytesOf xs).map fun b => (b.toNat : Int)).map (Value.int .u8) := by rw [hs2] at k2; exact k2.ofBytes
      have hlen : xs.length = cs.length := by rw [hcs]; simp [bytesOf]
      have hload : (loadCells ⟨b, q, none⟩ xs.length).run P w = .ok (((bytesOf xs).map fun b => (b.toNat : Int)).map (Value.int .u8)).toArray w := by
        rw [hlen, ← hcs]; exact run_loadCells k1
      rw [run_bytesToString w _ _ _ _ hload, foldl_push_int]
      congr 3
      apply Array.ext'
      simp
  · rename_i e s h1 h2 hx
    split at h <;> cases h
    rename_i h3
    refine steps_own fun ρ X a w hs => ?_
    have he := hs.ev x
    rw [hx] at he
    have hrun := run_bytes_of_string w src dst e s h1 h2 h3
    have key : (execOp a.eval o).run P w = .ok (.value (.slice (some ⟨w.heap.size, 0, none⟩) s.size (grownCap w s.size 0 e))) (w.drew.alloc (.cells (bytesRow s (grownCap w s.size 0 e)) e ((bytesRow s (grownCap w s.size 0 e)).size, (bytesRow s (grownCap w s.size 0 e)).size + 1))) := by
      simp only [execOp, ho, repA_str he]
      exact run_map hrun
    refine ⟨_, _, key, ?_⟩
    obtain ⟨hext, hnew⟩ := alloc_new w.drew (bytesRow s (grownCap w s.size 0 e)) e ((bytesRow s (grownCap w s.size 0 e)).size, (bytesRow s (grownCap w s.size 0 e)).size + 1)
    have hext := (Ext.drew (fun _ => False) w).trans hext
    have hrow : bytesRow s (grownCap w s.size 0 e) = ((s.data.toList.map fun (b : UInt8) => (Value.int .u8 b.toNat : Value)) ++ List.replicate (grownCap w s.size 0 e - s.size) (Value.int .u8 0)).toArray := by
      unfold bytesRow
      apply Array.ext'
      simp
    have hge := grownCap_ge w s.size 0 e
    refine hs.new hf ⟨hext, hnew⟩ (fun ρ' X' g hρ hρn => .inr ⟨w.heap.size, s.data.toList.map fun (b : UInt8) => (Value.int .u8 b.toNat : Value), List.replicate (grownCap w s.size 0 e - s.size) (Value.int .u8 0), e, ((bytesRow s (grownCap w s.size 0 e)).size, (bytesRow s (grownCap w s.size 0 e)).size + 1), hρn, ?_, .inr (by rw [hrow]; exact Nat.le_refl _), RepL.bytes _, fun y hy => ?_⟩) (fun n hn => by cases hn) (fun ρ' X' g hρ hρn => ?_) (fun n hn => by simp [AV.names] at hn; exact .inr hn)
    · rw [← hrow]
      exact hnew
    · obtain ⟨b, _, rfl⟩ := List.mem_map.1 hy; rfl
    · refine repA_of_c (.sl hρn hnew ?_ hge (.inr (by simp [pOff])))
      rw [hrow]
      simp [pOff]
      have : s.data.size = s.size := rfl
      omega

end Go.Sym
